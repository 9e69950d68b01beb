/- Chapter 8: the plan of a full flow: right, and as good as can be. -/
import Derived.Test.YtdepakimbagonaaPlf
namespace Go.Proofs.Ytdepakimbagonaa
set_option linter.unusedVariables false
set_option linter.unusedSimpArgs false

theorem zq_eq {S : Nat → Bool} {J : List Jn} {r : RM} {q : Nat} : zq S J r q = (if S (jAt J q).f = true then flw J r q else 0) - (if S (jAt J q).t = true then flw J r q else 0) := by
  unfold zq
  cases S (jAt J q).f <;> cases S (jAt J q).t <;> simp
theorem lS_one {α : Type} (l : List α) : lS (fun _ => (1 : Int)) l = l.length := by
  induction l with
  | nil => rfl
  | cons a l ih => rw [lS, ih, List.length_cons]; push_cast; omega
theorem sm_jAt {D : Jn → Int} (J : List Jn) : sm (fun q => D (jAt J q)) J.length = lS D J := sm_lS (d := Jn.zero) J
theorem smM {F : Mv → Int} (l : List Mv) : sm (fun k => F (l.getD k Mv.zero)) l.length = lS F l := sm_lS l
section
variable {P T : Nat} {ps : List Psg} {xs : List Int} {out : Int} {pe : List Int} {v : Int} {r : RM} {L : Nat → Int}
/-- The plan that is read off a net. -/
def plN (P T : Nat) (pe xs : List Int) (hs : List Hd) (r : RM) : List Mv := plAll (layN P T pe xs hs) r (layT P T pe xs hs).mv (P * (T + 1) + 2)
theorem plN_sum (V : StV P ps xs) {F : Mv → Int} : lS F (plN P T pe xs (hds out xs ps) r) = sm (fun q => if 0 ≤ (jAt (jAll P T pe xs (hds out xs ps)) q).mv.pas ∧ 0 < flw (jAll P T pe xs (hds out xs ps)) r q then F (plQ (jAll P T pe xs (hds out xs ps)) r q) else 0) (jAll P T pe xs (hds out xs ps)).length :=
  plan_sum (jAll_J V)
theorem head_mv {J : List Jn} {q : Nat} {h : Hd} {t : Nat} (hq : jAt J q = jHead P h t) (F : HdF P ps xs out h) : plQ J r q = ⟨h.pas, h.fr, t, flw J r q⟩ ∧ mvG ps out ⟨h.pas, h.fr, t, flw J r q⟩ = h.ticks ∧ mvO ps ⟨h.pas, h.fr, t, flw J r q⟩ = h.to := by
  refine ⟨?_, F.gone, F.to⟩
  unfold plQ
  rw [hq]
  rfl
theorem flow_thr (V : StV P ps xs) (ho : 0 ≤ out) (hpe : PeOk pe) (h : EndP P T pe xs (hds out xs ps) v r L) (t : Nat) {p : Nat} (hp : p < P) : 0 ≤ thr ps out pe (plN P T pe xs (hds out xs ps) r) t p (plN P T pe xs (hds out xs ps) r).length := by
  have hJ := jAll_J (T := T) (out := out) (pe := pe) V
  have hfl := h.fl
  let J := jAll P T pe xs (hds out xs ps)
  let S := setQ P T false (fun p' t' => decide (p' = p) && decide (t' ≤ t))
  let D : Jn → Int := fun j => if j.f = P * (T + 1) ∧ j.t = nd P 0 p then pe.getD p 0 else 0
  have hz : sm (zq S J r) J.length = 0 := by
    rw [flow_cut hJ hfl S]
    have e1 : ind S (P * (T + 1)) = 0 := by unfold ind; rw [show S (P * (T + 1)) = false from setQ_b]; rfl
    have e2 : ind S (P * (T + 1) + 1) = 0 := by unfold ind; rw [show S (P * (T + 1) + 1) = false from setQ_x]; rfl
    rw [e1, e2, Int.sub_self, Int.mul_zero]
  have hD0 : ∀ j : Jn, j.f < P * (T + 1) → D j = 0 := fun j hj => if_neg fun h => by omega
  have hD : lS D J = pe.getD p 0 := by
    show lS D (jPlaces P T pe xs P ++ jHeads P T (hds out xs ps) (hds out xs ps).length) = _
    rw [lS_append, places_sum hD0 P (Nat.le_refl _), heads_sum hD0 V, Int.add_zero, sm_single hp (fun i _ hne => if_neg fun h => hne (by have : nd P 0 i = nd P 0 p := h.2; unfold nd at this; omega))]
    exact if_pos ⟨rfl, rfl⟩
  unfold thr
  rw [smM (F := fun m => legT ps out m t p), plN_sum V]
  have key : 0 ≤ sm (fun q => ((if 0 ≤ (jAt J q).mv.pas ∧ 0 < flw J r q then legT ps out (plQ J r q) t p else 0) + zq S J r q) + D (jAt J q)) J.length := by
    refine sm_nonneg fun q hq => ?_
    have hfb := flw_bd hJ hfl hq
    have hmem := jAt_mem hq
    rw [zq_eq]
    rcases jAll_of V ho hmem with ⟨hpl, hmv⟩ | ⟨hd, t', hj, F, hok, htT⟩
    · rw [hmv, if_neg (c := 0 ≤ Mv.none.pas ∧ _) (fun h => absurd h.1 (by decide))]
      rcases place_of hpl with ⟨p', hp', hj⟩ | ⟨p', t', hp', ht', hj⟩ | ⟨p', t', hp', ht', hx, hj⟩
      · have hr : (jAt J q).room = pe.getD p' 0 := by show (jAt (jAll P T pe xs (hds out xs ps)) q).room = _; rw [hj]; rfl
        have e1 : S (jAt J q).f = false := by show S (jAt (jAll P T pe xs (hds out xs ps)) q).f = _; rw [hj]; exact setQ_b
        have e2 : S (jAt J q).t = (decide (p' = p) && decide (0 ≤ t)) := by show S (jAt (jAll P T pe xs (hds out xs ps)) q).t = _; rw [hj]; exact setQ_nd hp' (Nat.zero_le _)
        have e3 : D (jAt J q) = if nd P 0 p' = nd P 0 p then pe.getD p 0 else 0 := by
          show D (jAt (jAll P T pe xs (hds out xs ps)) q) = _
          rw [hj]
          show (if P * (T + 1) = P * (T + 1) ∧ nd P 0 p' = nd P 0 p then _ else _) = _
          simp
        have hfb' : flw J r q ≤ (jAt J q).room := hfb.1.2
        have hpg : pe[p']?.getD 0 = pe.getD p' 0 := (List.getD_eq_getElem?_getD ..).symm
        rw [e1, e2, e3]
        by_cases e : p' = p
        · subst e
          rw [if_pos (c := nd P 0 p' = nd P 0 p') rfl]
          simp
          omega
        · rw [decide_eq_false e, if_neg (c := nd P 0 p' = nd P 0 p) (fun h => e (by unfold nd at h; omega))]
          simp
      · have e1 : S (jAt J q).f = (decide (p' = p) && decide (t' ≤ t)) := by show S (jAt (jAll P T pe xs (hds out xs ps)) q).f = _; rw [hj]; exact setQ_nd hp' (by omega)
        have e2 : S (jAt J q).t = (decide (p' = p) && decide (t' + 1 ≤ t)) := by show S (jAt (jAll P T pe xs (hds out xs ps)) q).t = _; rw [hj]; exact setQ_nd hp' (by omega)
        have e3 : D (jAt J q) = 0 := by
          show D (jAt (jAll P T pe xs (hds out xs ps)) q) = _
          rw [hj]; exact hD0 _ (nd_lt (by omega) hp')
        have hfb' : 0 ≤ flw J r q := hfb.1.1
        rw [e1, e2, e3]
        by_cases e : p' = p
        · by_cases h1 : t' + 1 ≤ t
          · rw [decide_eq_true e, decide_eq_true h1, decide_eq_true (show t' ≤ t by omega)]; simp
          · rw [decide_eq_false h1, Bool.and_false]
            split <;> simp <;> omega
        · rw [decide_eq_false e]; simp
      · have e2 : S (jAt J q).t = false := by show S (jAt (jAll P T pe xs (hds out xs ps)) q).t = _; rw [hj]; exact setQ_x
        have e3 : D (jAt J q) = 0 := by
          show D (jAt (jAll P T pe xs (hds out xs ps)) q) = _
          rw [hj]; exact hD0 _ (nd_lt (by omega) hp')
        have hfb' : 0 ≤ flw J r q := hfb.1.1
        rw [e2, e3]
        split <;> simp <;> omega
    · obtain ⟨m1, m2, m3⟩ := head_mv (r := r) (q := q) (J := J) hj F
      unfold HdOk at hok
      have e1 : S (jAt J q).f = (decide (hd.fr.toNat = p) && decide (t' ≤ t)) := by show S (jAt (jAll P T pe xs (hds out xs ps)) q).f = _; rw [hj]; exact setQ_nd (by omega) (by omega)
      have e2 : S (jAt J q).t = (decide (hd.to.toNat = p) && decide (t' + hd.ticks.toNat ≤ t)) := by show S (jAt (jAll P T pe xs (hds out xs ps)) q).t = _; rw [hj]; exact setQ_nd (by omega) (by omega)
      have e3 : D (jAt J q) = 0 := by
        show D (jAt (jAll P T pe xs (hds out xs ps)) q) = _
        rw [hj]; exact hD0 _ (nd_lt (by omega) (by omega))
      have hfb' : 0 ≤ flw J r q := hfb.1.1
      have epas : (jAt J q).mv.pas = hd.pas := by show (jAt (jAll P T pe xs (hds out xs ps)) q).mv.pas = _; rw [hj]; rfl
      rw [e1, e2, e3, m1, epas]
      unfold legT
      rw [m2, m3]
      dsimp only
      have c1 : ((decide (hd.fr.toNat = p) && decide (t' ≤ t)) = true) ↔ ((t' : Int) ≤ (t : Int) ∧ hd.fr = (p : Int)) := by
        simp only [Bool.and_eq_true, decide_eq_true_eq]; omega
      have c2 : ((decide (hd.to.toNat = p) && decide (t' + hd.ticks.toNat ≤ t)) = true) ↔ ((t' : Int) + hd.ticks ≤ (t : Int) ∧ hd.to = (p : Int)) := by
        simp only [Bool.and_eq_true, decide_eq_true_eq]; omega
      simp only [c1, c2]
      by_cases hf : 0 < flw J r q
      · rw [if_pos ⟨F.pas.1, hf⟩]
        omega
      · rw [if_neg (fun h => hf h.2)]
        have : flw J r q = 0 := by omega
        rw [this]
        simp
  rw [sm_add, sm_add, sm_jAt, hD, hz] at key
  show 0 ≤ pe.getD p 0 + sm (fun q => if 0 ≤ (jAt J q).mv.pas ∧ 0 < flw J r q then legT ps out (plQ J r q) t p else 0) J.length
  omega
theorem flow_out (V : StV P ps xs) (ho : 0 ≤ out) (hpe : PeOk pe) (h : EndP P T pe xs (hds out xs ps) v r L) : v ≤ outN ps xs out pe (plN P T pe xs (hds out xs ps) r) P T := by
  have hJ := jAll_J (T := T) (out := out) (pe := pe) V
  have hfl := h.fl
  let J := jAll P T pe xs (hds out xs ps)
  let S := setQ P T true (fun p' _ => !hasI xs p')
  let D : Jn → Int := fun j => if j.f = P * (T + 1) then (if hasI xs j.t = true then pe.getD j.t 0 else 0) else 0
  have hz : sm (zq S J r) J.length = v := by
    rw [flow_cut hJ hfl S]
    have e1 : ind S (P * (T + 1)) = 1 := by unfold ind; rw [show S (P * (T + 1)) = true from setQ_b]; rfl
    have e2 : ind S (P * (T + 1) + 1) = 0 := by unfold ind; rw [show S (P * (T + 1) + 1) = false from setQ_x]; rfl
    rw [e1, e2]; simp
  have hD0 : ∀ j : Jn, j.f < P * (T + 1) → D j = 0 := fun j hj => if_neg fun h => by omega
  have nd0 : ∀ p, nd P 0 p = p := fun p => by unfold nd; omega
  have hD : lS D J = exitN xs pe P := by
    show lS D (jPlaces P T pe xs P ++ jHeads P T (hds out xs ps) (hds out xs ps).length) = _
    rw [lS_append, places_sum hD0 P (Nat.le_refl _), heads_sum hD0 V, Int.add_zero]
    refine sm_congr fun p _ => ?_
    show (if P * (T + 1) = P * (T + 1) then (if hasI xs (nd P 0 p : Nat) = true then pe.getD (nd P 0 p) 0 else 0) else 0) = _
    rw [if_pos rfl, nd0]
  unfold outN
  rw [smM (F := fun m => outA ps xs out m T), plN_sum V]
  have key : sm (zq S J r) J.length ≤ sm (fun q => (if 0 ≤ (jAt J q).mv.pas ∧ 0 < flw J r q then outA ps xs out (plQ J r q) T else 0) + D (jAt J q)) J.length := by
    refine sm_le fun q hq => ?_
    have hfb := flw_bd hJ hfl hq
    have hmem := jAt_mem hq
    rw [zq_eq]
    rcases jAll_of V ho hmem with ⟨hpl, hmv⟩ | ⟨hd, t', hj, F, hok, htT⟩
    · rw [hmv, if_neg (c := 0 ≤ Mv.none.pas ∧ _) (fun h => absurd h.1 (by decide))]
      rcases place_of hpl with ⟨p', hp', hj⟩ | ⟨p', t', hp', ht', hj⟩ | ⟨p', t', hp', ht', hx, hj⟩
      · have hr : (jAt J q).room = pe.getD p' 0 := by show (jAt (jAll P T pe xs (hds out xs ps)) q).room = _; rw [hj]; rfl
        have e1 : S (jAt J q).f = true := by show S (jAt (jAll P T pe xs (hds out xs ps)) q).f = _; rw [hj]; exact setQ_b
        have e2 : S (jAt J q).t = !hasI xs p' := by show S (jAt (jAll P T pe xs (hds out xs ps)) q).t = _; rw [hj]; exact setQ_nd hp' (Nat.zero_le _)
        have e3 : D (jAt J q) = if hasI xs p' = true then pe.getD p' 0 else 0 := by
          show D (jAt (jAll P T pe xs (hds out xs ps)) q) = _
          rw [hj]
          show (if P * (T + 1) = P * (T + 1) then (if hasI xs (nd P 0 p' : Nat) = true then pe.getD (nd P 0 p') 0 else 0) else 0) = _
          rw [if_pos rfl, nd0]
        have hfb' : flw J r q ≤ (jAt J q).room := hfb.1.2
        have hpg : pe[p']?.getD 0 = pe.getD p' 0 := (List.getD_eq_getElem?_getD ..).symm
        rw [e1, e2, e3]
        cases hasI xs p' <;> simp <;> omega
      · have e1 : S (jAt J q).f = !hasI xs p' := by show S (jAt (jAll P T pe xs (hds out xs ps)) q).f = _; rw [hj]; exact setQ_nd hp' (by omega)
        have e2 : S (jAt J q).t = !hasI xs p' := by show S (jAt (jAll P T pe xs (hds out xs ps)) q).t = _; rw [hj]; exact setQ_nd hp' (by omega)
        have e3 : D (jAt J q) = 0 := by
          show D (jAt (jAll P T pe xs (hds out xs ps)) q) = _
          rw [hj]; exact hD0 _ (nd_lt (by omega) hp')
        rw [e1, e2, e3]
        omega
      · have e1 : S (jAt J q).f = !hasI xs p' := by show S (jAt (jAll P T pe xs (hds out xs ps)) q).f = _; rw [hj]; exact setQ_nd hp' ht'
        have e2 : S (jAt J q).t = false := by show S (jAt (jAll P T pe xs (hds out xs ps)) q).t = _; rw [hj]; exact setQ_x
        have e3 : D (jAt J q) = 0 := by
          show D (jAt (jAll P T pe xs (hds out xs ps)) q) = _
          rw [hj]; exact hD0 _ (nd_lt (by omega) hp')
        rw [e1, e2, e3, hx]
        simp
    · obtain ⟨m1, m2, m3⟩ := head_mv (r := r) (q := q) (J := J) hj F
      unfold HdOk at hok
      have e1 : S (jAt J q).f = !hasI xs (hd.fr.toNat : Nat) := by show S (jAt (jAll P T pe xs (hds out xs ps)) q).f = _; rw [hj]; exact setQ_nd (by omega) (by omega)
      have e2 : S (jAt J q).t = !hasI xs (hd.to.toNat : Nat) := by show S (jAt (jAll P T pe xs (hds out xs ps)) q).t = _; rw [hj]; exact setQ_nd (by omega) (by omega)
      have e3 : D (jAt J q) = 0 := by
        show D (jAt (jAll P T pe xs (hds out xs ps)) q) = _
        rw [hj]; exact hD0 _ (nd_lt (by omega) (by omega))
      have hfb' : 0 ≤ flw J r q := hfb.1.1
      have epas : (jAt J q).mv.pas = hd.pas := by show (jAt (jAll P T pe xs (hds out xs ps)) q).mv.pas = _; rw [hj]; rfl
      rw [e1, e2, e3, m1, epas]
      unfold outA
      rw [m2, m3]
      rw [Int.toNat_of_nonneg (by omega), Int.toNat_of_nonneg (by omega), F.ex]
      dsimp only
      by_cases hf : 0 < flw J r q
      · rw [if_pos (c := 0 ≤ hd.pas ∧ 0 < flw J r q) ⟨F.pas.1, hf⟩]
        by_cases hx : hasI xs hd.to = true
        · rw [hx, if_pos (c := true = true ∧ _) ⟨rfl, by omega⟩]; simp
        · rw [Bool.not_eq_true] at hx
          rw [hx]; simp
      · rw [if_neg (c := 0 ≤ hd.pas ∧ 0 < flw J r q) (fun h => hf h.2)]
        have : flw J r q = 0 := by omega
        rw [this]
        simp
  rw [hz, sm_add, sm_jAt, hD] at key
  show v ≤ exitN xs pe P + sm (fun q => if 0 ≤ (jAt J q).mv.pas ∧ 0 < flw J r q then outA ps xs out (plQ J r q) T else 0) J.length
  omega
theorem plN_mem (V : StV P ps xs) (ho : 0 ≤ out) (hT : T ≤ 60) (h : EndP P T pe xs (hds out xs ps) v r L) : ∀ m ∈ plN P T pe xs (hds out xs ps) r, mvOk ps xs out m = true ∧ m.at_ ≤ T := by
  have hJ := jAll_J (T := T) (out := out) (pe := pe) V
  refine plan_mem hJ fun q hq h0 hf => ?_
  rcases jAll_of V ho (jAt_mem hq) with ⟨hpl, hmv⟩ | ⟨hd, t', hj, F, hok, htT⟩
  · rw [hmv] at h0; exact absurd h0 (by decide)
  · obtain ⟨m1, m2, m3⟩ := head_mv (r := r) (q := q) hj F
    unfold HdOk at hok
    have hfb := (flw_bd hJ h.fl hq).1.2
    have hr : (jAt (jAll P T pe xs (hds out xs ps)) q).room = hd.wide := by rw [hj]; rfl
    have hw := psgOk_iff.1 (V.pas hd.pas.toNat (by have := F.pas; omega))
    have hw2 := F.wide
    rw [m1]
    refine ⟨mvOk_iff.2 ⟨⟨F.pas, ⟨by show (0 : Int) ≤ (t' : Int); omega, by show (t' : Int) ≤ 60; omega⟩, ⟨by show 1 ≤ flw _ _ _; omega, by show flw _ _ _ ≤ 1000; omega⟩⟩, by rw [m2]; omega, F.ex⟩, by show (t' : Int) ≤ T; omega⟩
theorem plN_tot (V : StV P ps xs) (ho : 0 ≤ out) (h : EndP P T pe xs (hds out xs ps) v r L) {m : Mv} (hm : 0 ≤ m.pas ∧ m.pas < ps.length) : totK (plN P T pe xs (hds out xs ps) r) m (plN P T pe xs (hds out xs ps) r).length ≤ (mvP ps m).wide := by
  have hJ := jAll_J (T := T) (out := out) (pe := pe) V
  let J := jAll P T pe xs (hds out xs ps)
  let D : Jn → Int := fun j => if (0 ≤ j.mv.pas ∧ j.mv.pas = m.pas) ∧ j.mv.fr = m.fr ∧ j.mv.at_ = m.at_ then j.room else 0
  unfold totK
  rw [smM (F := fun x => if sameK x m = true then min x.many 1000 else 0), plN_sum V]
  have h1 : sm (fun q => if 0 ≤ (jAt J q).mv.pas ∧ 0 < flw J r q then (if sameK (plQ J r q) m = true then min (plQ J r q).many 1000 else 0) else 0) J.length ≤ sm (fun q => D (jAt J q)) J.length := by
    refine sm_le fun q hq => ?_
    have hfb := (flw_bd hJ h.fl hq).1
    have hfb' : 0 ≤ flw J r q ∧ flw J r q ≤ (jAt J q).room := hfb
    show _ ≤ ite _ _ _
    by_cases h2 : 0 ≤ (jAt J q).mv.pas ∧ 0 < flw J r q
    · rw [if_pos h2]
      by_cases h3 : sameK (plQ J r q) m = true
      · rw [if_pos h3]
        unfold sameK at h3
        simp only [Bool.and_eq_true, decide_eq_true_eq] at h3
        rw [if_pos ⟨⟨h2.1, h3.1.1⟩, h3.1.2, h3.2⟩]
        show min (flw J r q) 1000 ≤ _
        omega
      · rw [if_neg h3]; split <;> omega
    · rw [if_neg h2]; split <;> omega
  refine Int.le_trans h1 ?_
  rw [sm_jAt]
  show lS D (jPlaces P T pe xs P ++ jHeads P T (hds out xs ps) (hds out xs ps).length) ≤ _
  have h2 : lS D (jPlaces P T pe xs P) = 0 := lS_zero fun j hj => by
    rcases jAll_of (out := out) (T := T) (pe := pe) V ho (List.mem_append_left _ hj) with ⟨_, hmv⟩ | ⟨hd, t', hj', F, _, _⟩
    · show ite _ _ _ = _
      rw [hmv, if_neg (fun h => absurd h.1.1 (by decide))]
    · exfalso
      have hmv : j.mv = Mv.none := by
        rcases place_of hj with ⟨p', _, e⟩ | ⟨p', t', _, _, e⟩ | ⟨p', t', _, _, _, e⟩ <;> rw [e] <;> rfl
      rw [hj'] at hmv
      have h9 : hd.pas = -1 := congrArg Mv.pas hmv
      have := F.pas
      omega
  have h3 : ∀ n, lS D (jHeads P T (hds out xs ps) n) ≤ sm (fun i => if ((hds out xs ps).getD i Hd.zero).pas = m.pas ∧ ((hds out xs ps).getD i Hd.zero).fr = m.fr then ((hds out xs ps).getD i Hd.zero).wide else 0) n ∨ (hds out xs ps).length < n := by
    intro n
    induction n with
    | zero => exact .inl (Int.le_refl 0)
    | succ n ih =>
      rcases ih with ih | ih
      · by_cases hn : n < (hds out xs ps).length
        · left
          rw [jHeads, lS_append]
          have hmemF := hds_facts (out := out) V ho ((hds out xs ps).getD n Hd.zero) (by rw [List.getD_eq_getElem?_getD, List.getElem?_eq_getElem hn]; exact List.getElem_mem _)
          have hwd : 0 ≤ ((hds out xs ps).getD n Hd.zero).wide := by
            have := psgOk_iff.1 (V.pas ((hds out xs ps).getD n Hd.zero).pas.toNat (by have := hmemF.pas; omega))
            have := hmemF.wide
            omega
          have h4 : ∀ c, lS D (jHeadN P ((hds out xs ps).getD n Hd.zero) c) ≤ if ((hds out xs ps).getD n Hd.zero).pas = m.pas ∧ ((hds out xs ps).getD n Hd.zero).fr = m.fr then ((hds out xs ps).getD n Hd.zero).wide else 0 := by
            intro c
            have e : lS D (jHeadN P ((hds out xs ps).getD n Hd.zero) c) = sm (fun t => D (jHead P ((hds out xs ps).getD n Hd.zero) t)) c := by
              unfold jHeadN
              induction c with
              | zero => rfl
              | succ c ih => rw [range_snoc, lS_append, ih]; show _ + (D _ + 0) = sm _ c + D _; rw [Int.add_zero]
            rw [e]
            by_cases hk : ((hds out xs ps).getD n Hd.zero).pas = m.pas ∧ ((hds out xs ps).getD n Hd.zero).fr = m.fr
            · rw [if_pos hk]
              by_cases ht : ∃ t, t < c ∧ (t : Int) = m.at_
              · obtain ⟨t, htc, hta⟩ := ht
                rw [sm_single htc (fun i _ hne => if_neg fun h => hne (by have : (i : Int) = m.at_ := h.2.2; omega))]
                show ite _ _ _ ≤ _
                split
                · exact Int.le_refl _
                · exact hwd
              · rw [sm_zero (fun i hi => if_neg fun h => ht ⟨i, hi, h.2.2⟩)]
                exact hwd
            · rw [if_neg hk, sm_zero (fun i hi => if_neg fun h => hk ⟨h.1.2, h.2.1⟩)]
              exact Int.le_refl 0
          have h5 := h4 (T + 1 - ((hds out xs ps).getD n Hd.zero).ticks.toNat)
          simp only [sm]
          omega
        · exact .inr (by omega)
      · exact .inr (by omega)
  have h4 := (h3 (hds out xs ps).length).resolve_right (Nat.lt_irrefl _)
  have h5 := sm_lS (d := Hd.zero) (F := fun h : Hd => if h.pas = m.pas ∧ h.fr = m.fr then h.wide else 0) (hds out xs ps)
  have h6 := hds_key (out := out) (fr := m.fr) V hm
  have h7 : (mvP ps m).wide = (ps.getD m.pas.toNat Psg.zero).wide := rfl
  rw [lS_append, h2, h7]
  omega
theorem plN_len (V : StV P ps xs) (ho : 0 ≤ out) (hT : T ≤ 60) : (plN P T pe xs (hds out xs ps) r).length ≤ 2928 := by
  let J := jAll P T pe xs (hds out xs ps)
  have h1 := plN_sum (T := T) (pe := pe) (r := r) (out := out) (F := fun _ => 1) V
  rw [lS_one] at h1
  let D : Jn → Int := fun j => if 0 ≤ j.mv.pas then 1 else 0
  have h2 : sm (fun q => if 0 ≤ (jAt J q).mv.pas ∧ 0 < flw J r q then 1 else 0) J.length ≤ sm (fun q => D (jAt J q)) J.length := by
    refine sm_le fun q hq => ?_
    show _ ≤ ite _ _ _
    by_cases h3 : 0 ≤ (jAt J q).mv.pas
    · rw [if_pos h3]; split <;> omega
    · rw [if_neg h3, if_neg (fun h => h3 h.1)]; omega
  rw [sm_jAt] at h2
  have h3 : lS D J = lS D (jPlaces P T pe xs P) + lS D (jHeads P T (hds out xs ps) (hds out xs ps).length) := lS_append _ _
  have h4 : lS D (jPlaces P T pe xs P) = 0 := lS_zero fun j hj => by
    have hmv : j.mv = Mv.none := by
      rcases place_of hj with ⟨p', _, e⟩ | ⟨p', t', _, _, e⟩ | ⟨p', t', _, _, _, e⟩ <;> rw [e] <;> rfl
    show ite _ _ _ = _
    rw [hmv, if_neg (by decide)]
  have h5 : lS D (jHeads P T (hds out xs ps) (hds out xs ps).length) ≤ lS (fun _ => 1) (jHeads P T (hds out xs ps) (hds out xs ps).length) := lS_le fun j _ => by show ite _ _ _ ≤ _; split <;> omega
  rw [lS_one] at h5
  have h6 := jHeads_len (P := P) (T := T) (hs := hds out xs ps) (hds out xs ps).length
  have h7 := hds_le (out := out) (xs := xs) (ps := ps) ps.length
  have h8 := V.size.2.2
  have h9 : (hds out xs ps).length ≤ 48 := by show (hdsTo out xs ps ps.length).length ≤ _; omega
  have h10 : (hds out xs ps).length * (T + 1) ≤ 48 * 61 := Nat.mul_le_mul h9 (by omega)
  have h11 : ((plN P T pe xs (hds out xs ps) r).length : Int) ≤ lS D J := by rw [h1]; exact h2
  omega
theorem getD_memM {l : List Mv} {k : Nat} (h : k < l.length) : l.getD k Mv.zero ∈ l := by
  rw [List.getD_eq_getElem?_getD, List.getElem?_eq_getElem h]; exact List.getElem_mem h
/-- The plan is right, and has as many out as can be. -/
theorem plN_ok (V : StV P ps xs) (ho : 0 ≤ out) (hpe : PeOk pe) (hT : T ≤ 60) (h : EndP P T pe xs (hds out xs ps) v r L) :
    planB ps xs out pe (plN P T pe xs (hds out xs ps) r) P = true ∧ outN ps xs out pe (plN P T pe xs (hds out xs ps) r) P T = mfv P T pe xs (hds out xs ps) ∧ (plN P T pe xs (hds out xs ps) r).length ≤ 2928 ∧ ∀ k, k < (plN P T pe xs (hds out xs ps) r).length → ((plN P T pe xs (hds out xs ps) r).getD k Mv.zero).at_ ≤ T := by
  have hm := plN_mem V ho hT h
  have hb : planB ps xs out pe (plN P T pe xs (hds out xs ps) r) P = true := planB_iff.2 ⟨fun k hk => ⟨(hm _ (getD_memM hk)).1, plN_tot V ho h (mvOk_iff.1 (hm _ (getD_memM hk)).1).1.1⟩, fun t _ p hp => flow_thr V ho hpe h t hp⟩
  refine ⟨hb, ?_, plN_len V ho hT, fun k hk => (hm _ (getD_memM hk)).2⟩
  have h1 := plan_le V ho hpe hT hb
  have h2 := flow_out V ho hpe h
  have h3 := mfv_eq (lay_ok (T := T) (out := out) V hpe) h
  omega
end
end Go.Proofs.Ytdepakimbagonaa
