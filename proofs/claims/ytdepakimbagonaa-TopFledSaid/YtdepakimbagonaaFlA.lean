/- FlA. Printed by gen.py. -/
import Derived.Test.YtdepakimbagonaaEnA
import Derived.Test.YtdepakimbagonaaWyN
import Derived.Test.YtdepakimbagonaaRfD
import Derived.Test.YtdepakimbagonaaCiI
namespace Go.Proofs.Ytdepakimbagonaa
open Go.RowKit
set_option linter.unusedVariables false
set_option linter.unusedSimpArgs false
set_option maxRecDepth 100000
set_option maxHeartbeats 4000000


/-- Who is on the way along a passage at a tick. -/
def onK (ix : Int) (t tk : Int) (m : Mv) : Int := if (m.pas = ix ∧ m.at_ ≤ t) ∧ t - tk < m.at_ then m.many else 0
def onS (ix t tk : Int) (l : List Mv) (n : Nat) : Int := sm (fun k => onK ix t tk (l.getD k Mv.zero)) n
section
variable {P : Nat} {ps : List Psg} {xs : List Int} {out : Int} {pe : List Int} {l : List Mv} {ix : Nat} {t : Int}
theorem gone_fr {p : Psg} {f : Int} (hk : p.kind = 3) (hb : ¬ out / 2 ^ p.mach.toNat % 2 = 1) (hne : p.a ≠ p.b) (ha : 0 ≤ p.a) (h : 0 ≤ goneI out p f) : f = p.a := by
  unfold goneI at h
  split at h
  · omega
  · rename_i h1
    split at h
    · rename_i h2
      exact absurd h2.2 (by unfold bitI; exact hb)
    · rename_i h2
      split at h
      · omega
      · rename_i h3
        unfold othr at h1
        by_cases e : p.a = f
        · exact e.symm
        · rw [if_neg e] at h1
          by_cases e2 : p.b = f
          · exact absurd ⟨hk, e2.symm⟩ h3
          · rw [if_neg e2] at h1; omega
/-- No more are on an escalator than may go into it in so many ticks as it takes. -/
theorem on_le (hb : planB ps xs out pe l P = true) (hk : (ps.getD ix Psg.zero).kind = 3) (hbt : ¬ out / 2 ^ (ps.getD ix Psg.zero).mach.toNat % 2 = 1) (hne : (ps.getD ix Psg.zero).a ≠ (ps.getD ix Psg.zero).b) (ha : 0 ≤ (ps.getD ix Psg.zero).a) (hw : 0 ≤ (ps.getD ix Psg.zero).wide) {n : Nat} (t : Int) :
    onS ix t n l l.length ≤ (ps.getD ix Psg.zero).wide * n := by
  have hl := (planB_iff.1 hb).1
  have hfr : ∀ k, k < l.length → (l.getD k Mv.zero).pas = (ix : Int) → (l.getD k Mv.zero).fr = (ps.getD ix Psg.zero).a := fun k hk' e => by
    have h1 := (mvOk_iff.1 (hl k hk').1).2.1
    unfold mvG mvP at h1
    rw [e, Int.toNat_natCast] at h1
    exact gone_fr hk hbt hne ha h1
  have hone : ∀ d : Nat, sm (fun k => if (l.getD k Mv.zero).pas = (ix : Int) ∧ (l.getD k Mv.zero).at_ = t - d then (l.getD k Mv.zero).many else 0) l.length ≤ (ps.getD ix Psg.zero).wide := fun d => by
    by_cases hex : ∃ k, k < l.length ∧ (l.getD k Mv.zero).pas = (ix : Int) ∧ (l.getD k Mv.zero).at_ = t - d
    · obtain ⟨k0, hk0, e1, e2⟩ := hex
      have h1 := (hl k0 hk0).2
      have h2 : (mvP ps (l.getD k0 Mv.zero)).wide = (ps.getD ix Psg.zero).wide := by unfold mvP; rw [e1, Int.toNat_natCast]
      rw [h2] at h1
      refine Int.le_trans (sm_le fun k hk' => ?_) h1
      have hm := ((mvOk_iff.1 (hl k hk').1).1).2.2
      by_cases hc : (l.getD k Mv.zero).pas = (ix : Int) ∧ (l.getD k Mv.zero).at_ = t - d
      · rw [if_pos hc, if_pos (by unfold sameK; rw [decide_eq_true (hc.1.trans e1.symm), decide_eq_true ((hfr k hk' hc.1).trans (hfr k0 hk0 e1).symm), decide_eq_true (hc.2.trans e2.symm)]; rfl)]
        omega
      · rw [if_neg hc]; split <;> omega
    · rw [sm_zero (fun k hk' => if_neg fun h => hex ⟨k, hk', h⟩)]; exact hw
  unfold onS
  have h1 : sm (fun k => onK ix t n (l.getD k Mv.zero)) l.length ≤ sm (fun k => sm (fun d => if (l.getD k Mv.zero).pas = (ix : Int) ∧ (l.getD k Mv.zero).at_ = t - d then (l.getD k Mv.zero).many else 0) n) l.length := by
    refine sm_le fun k hk' => ?_
    have hm := ((mvOk_iff.1 (hl k hk').1).1).2.2
    have h0 : ∀ d : Nat, 0 ≤ (if (l.getD k Mv.zero).pas = (ix : Int) ∧ (l.getD k Mv.zero).at_ = t - d then (l.getD k Mv.zero).many else 0) := fun d => by split <;> omega
    unfold onK
    by_cases hc : ((l.getD k Mv.zero).pas = (ix : Int) ∧ (l.getD k Mv.zero).at_ ≤ t) ∧ t - n < (l.getD k Mv.zero).at_
    · rw [if_pos hc]
      have h2 := sm_mem (f := fun d : Nat => if (l.getD k Mv.zero).pas = (ix : Int) ∧ (l.getD k Mv.zero).at_ = t - d then (l.getD k Mv.zero).many else 0) (n := n) (p := (t - (l.getD k Mv.zero).at_).toNat) (fun d _ => h0 d) (by omega)
      rw [if_pos ⟨hc.1.1, by omega⟩] at h2
      exact h2
    · rw [if_neg hc]; exact sm_nonneg fun d _ => h0 d
  rw [sm_swap] at h1
  exact Int.le_trans h1 (sm_bd fun d _ => hone d)
theorem onS_bd {ix t tk : Int} (hb : planB ps xs out pe l P = true) : ∀ n, n ≤ l.length → 0 ≤ onS ix t tk l n ∧ onS ix t tk l n ≤ 1000 * n := by
  have hl := (planB_iff.1 hb).1
  intro n
  induction n with
  | zero => intro _; exact ⟨Int.le_refl 0, Int.le_refl 0⟩
  | succ n ih =>
    intro hn
    obtain ⟨h1, h2⟩ := ih (by omega)
    have hm := ((mvOk_iff.1 (hl n (by omega)).1).1).2.2
    have h3 : onS ix t tk l (n + 1) = onS ix t tk l n + onK ix t tk (l.getD n Mv.zero) := rfl
    rw [h3]
    unfold onK
    split <;> omega
theorem onS_yes {ix t tk v : Int} {n : Nat} (h : v = onS ix t tk l n) (hc : ((l.getD n Mv.zero).pas = ix ∧ (l.getD n Mv.zero).at_ ≤ t) ∧ t - tk < (l.getD n Mv.zero).at_) : v + (l.getD n Mv.zero).many = onS ix t tk l (n + 1) := by
  show _ = onS ix t tk l n + onK ix t tk (l.getD n Mv.zero)
  unfold onK; rw [if_pos hc, h]
theorem onS_no {ix t tk v : Int} {n : Nat} (h : v = onS ix t tk l n) (hc : ¬ (((l.getD n Mv.zero).pas = ix ∧ (l.getD n Mv.zero).at_ ≤ t) ∧ t - tk < (l.getD n Mv.zero).at_)) : v = onS ix t tk l (n + 1) := by
  show _ = onS ix t tk l n + onK ix t tk (l.getD n Mv.zero)
  unfold onK; rw [if_neg hc, h, Int.add_zero]
end
theorem plan_0 (pl : Int) (ps : List Psg) (PA : Option Addr) (pc : Nat) (xs : List Int) (XA : Option Addr) (xc : Nat) (out : Int) (pe : List Int) (BA : Option Addr) (bc : Nat) (T0 : Int) (w : World) (hps : InS w noF 7 PA ps.length (pcell ps)) (hpn : ps.length ≤ 9223372036854775807) (hxs : InS w noF 1 XA xs.length (icl xs)) (hxn : xs.length ≤ 9223372036854775807) (hpe : InS w noF 1 BA pe.length (icl pe)) (hpen : pe.length ≤ 9223372036854775807) (hlv : leaveE pl ps xs out pe T0 = 0) :
    Calls Try.prog 20 [.agg [.int .i64 pl, .slice PA ps.length pc, .slice XA xs.length xc].toArray, .int .i64 out, .slice BA pe.length bc, .int .i64 T0].toArray w (Ret fun u w' => ∃ l A c, (u = .tuple #[.slice A (List.length l) c, .int .i64 0] ∧ planB ps xs out pe l pl.toNat = true ∧ l.length ≤ 2928) ∧ St w noF [ownM 70 4 A l.length c (mvcell l)] w') := by
  refine w8ret_imp (ways_Plan pl ps PA pc xs XA xc out pe BA bc T0 w hps hpn hxs hxn hpe hpen) fun u w' h => ?_
  rcases h with ⟨h0, _⟩ | ⟨_, l, A, c, ⟨h1, h2⟩, S⟩
  · exact absurd hlv h0
  · exact ⟨l, A, c, ⟨h1, h2.1, h2.2.2.1⟩, S⟩


theorem law_TopFled (pl : Int) (ps : List Psg) (PA : Option Addr) (pc : Nat) (xs : List Int) (XA : Option Addr) (xc : Nat) (out : Int) (pe : List Int) (BA : Option Addr) (bc : Nat) (T0 pas : Int) (up : Bool) (pull drag body ride most : Int) (pcs : List Int) (CA : Option Addr) (cc : Nat) (num den : Int) (pace : Int) (w : World) (hps : InS w noF 7 PA ps.length (pcell ps)) (hpn : ps.length ≤ 9223372036854775807) (hxs : InS w noF 1 XA xs.length (icl xs)) (hxn : xs.length ≤ 9223372036854775807) (hpe : InS w noF 1 BA pe.length (icl pe)) (hpen : pe.length ≤ 9223372036854775807) (hcs : InS w noF 1 CA pcs.length (icl pcs)) (hcn : pcs.length ≤ 9223372036854775807) :
    Calls Try.prog 4 [.agg [.int .i64 pl, .slice PA ps.length pc, .slice XA xs.length xc].toArray, .agg [.int .i64 out, .slice BA pe.length bc, .int .i64 T0, .int .i64 pas, .bool up, .int .i64 pull, .int .i64 drag, .int .i64 body, .int .i64 ride, .int .i64 most, .slice CA pcs.length cc, .int .i64 num, .int .i64 den, .int .i64 pace].toArray].toArray w (Ret (fun u w' => u = .bool true ∧ St w noF [] w')) := by
 refine enter Try.func4 rfl Try.ntmps4 rfl (fun a H => ?_)
 have S := St.start w
 refine seq_list fun K1 k1 => ?_
 refine list_box H rfl S rfl rfl ?_;clear H a S;intro b2 _ a hb2 hbw2 S H
 refine list_box H rfl S rfl rfl ?_;clear H a S;intro b3 _ a hb3 hbw3 S H
 refine ls 1 H <| sr 1 rfl <| sE ?_;clear H a;intro a H
 refine k1 _ _ ?_;clear k1 K1
 have SR := (S.sel [0, 1] rfl rfl)
 refine meet_sr (X := Nat × Nat) [2, 3] H rfl (fun ⟨c5, c6⟩ => [(5, .pointer (some ⟨c5, 0, none⟩)), (6, .pointer (some ⟨c6, 0, none⟩))]) (fun ⟨c5, c6⟩ => [boxM c5 51 [.int .i64 out, .slice BA pe.length bc, .int .i64 T0], boxM c6 53 [.bool up, .int .i64 pull, .int .i64 drag, .int .i64 body, .int .i64 ride, .int .i64 most, .slice CA pcs.length cc, .int .i64 num, .int .i64 den]]) (fun ⟨c5, c6⟩ => True) SR (fun K2 k2 => ?_) ?_
 ·skip
  replace H := H.keep [2, 3] rfl
  replace S := S.drew
  refine one_wt 999999 (.q 0 (.q 1 (.q 2 (.q 3 (.b2 4 (.e 5 (.e 6 (.e 7 .nil))) 5 (.e 4 (.e 6 (.e 7 .nil)))))))) (by kernel_rfl) (by kernel_rfl) (S.sel [0, 1] rfl rfl) ?_
  refine wt_does H rfl rfl (fun _ S => (does_field fo_55_0 rfl)) ?_;clear H a;intro a H
  refine wt_does H rfl rfl (fun _ S => (does_loadBox agg_51 sz_51 rfl S (i := 0) rfl rfl)) ?_;clear H a;intro a H
  refine wt_does H rfl rfl (fun _ S => (does_field fo_55_2 rfl)) ?_;clear H a;intro a H
  refine wt_does H rfl rfl (fun _ S => (does_loadBox agg_53 sz_53 rfl S (i := 0) rfl rfl)) ?_;clear H a;intro a H
  refine wt_b2 rfl rfl ?_ ?_
  ·skip
   refine list_alloc H rfl S ze_51 ?_;clear H a S;intro b5 _ a hb5 hbw5 S H
   refine wpList_nil (And.intro (Or.inr (S.sel [1, 2] rfl rfl)) ?_)
   refine wt_eff rfl ?_
   refine list_alloc H rfl S ze_53 ?_;clear H a S;intro b6 _ a hb6 hbw6 S H
   refine wpList_nil (And.intro (Or.inr (S.sel [2, 3] rfl rfl)) ?_)
   refine wt_eff rfl ?_
   refine list_store H S (i := 1) rfl rfl rfl rfl sz_51 rfl rfl ?_
   clear H a S;intro _ a S H
   refine wpList_nil (And.intro (Or.inr (S.sel [2, 3] rfl rfl)) ?_)
   refine wt_eff rfl ?_
   refine list_store H S (i := 0) rfl rfl rfl rfl sz_53 rfl rfl ?_
   clear H a S;intro _ a S H
   refine wpList_nil (And.intro (Or.inr (S.sel [2, 3] rfl rfl)) ?_)
   refine wt_nil ?_
   exact k2 (_, _) a _ (trivial) (S.sel [1, 0, 2, 3] rfl rfl) (H.keep [5, 6, 2, 3] rfl)
  ·skip
   refine list_alloc H rfl S ze_53 ?_;clear H a S;intro b6 _ a hb6 hbw6 S H
   refine wpList_nil (And.intro (Or.inr (S.sel [1, 2] rfl rfl)) ?_)
   refine wt_eff rfl ?_
   refine list_alloc H rfl S ze_51 ?_;clear H a S;intro b5 _ a hb5 hbw5 S H
   refine wpList_nil (And.intro (Or.inr (S.sel [2, 3] rfl rfl)) ?_)
   refine wt_eff rfl ?_
   refine list_store H S (i := 0) rfl rfl rfl rfl sz_51 rfl rfl ?_
   clear H a S;intro _ a S H
   refine wpList_nil (And.intro (Or.inr (S.sel [2, 3] rfl rfl)) ?_)
   refine wt_eff rfl ?_
   refine list_store H S (i := 1) rfl rfl rfl rfl sz_53 rfl rfl ?_
   clear H a S;intro _ a S H
   refine wpList_nil (And.intro (Or.inr (S.sel [2, 3] rfl rfl)) ?_)
   refine wt_nil ?_
   exact k2 (_, _) a _ (trivial) (S.sel [0, 1, 2, 3] rfl rfl) (H.keep [5, 6, 2, 3] rfl)
 clear SR H S a
 intro xm a wm hp S H
 obtain ⟨c5, c6⟩ := xm
 refine wp_seq_k fun K4 k4 => ?_
 replace H := H.keep [2, 3, 5, 6] rfl
 refine seq_list fun K5 k5 => ?_
 refine ls 5 H <| sd ((does_loadBox agg_49 sz_49 rfl S (i := 3) rfl rfl)) <| sf fo_51_1 rfl <| sl S 0 one_25 rfl rfl rfl <| sf fo_51_2 rfl <| sl S 0 one_3 rfl rfl rfl <| sE ?_;clear H a;intro a H
 refine list_call H rfl rfl Try.func14 rfl rfl (law_Crowded pl ps PA pc xs XA xc pe BA bc T0 _ (hps.now S) hpn (hxs.now S) hxn (hpe.now S) hpen) ?_;clear H a
 rintro _ _ a ⟨cb, rfl, hcb, S2⟩ H
 replace S := S.call S2;clear S2
 refine ls 1 H <| sr 1 rfl <| sE ?_;clear H a;intro a H
 apply list_guard (i := 6) (g := 25) (t := 27) (b := false) 2 H S rfl rfl (by kernel_rfl) (by kernel_rfl) rfl rfl
 case h1 =>
  intro hg7
  have hq7 := hg7; try simp only [o1,o2,o3,o4,o5,o6,o7,o8,o9,oa] at hq7
  refine ls 1 H <| sy hg7 <| sd ((does_loadBox agg_53 sz_53 rfl S (i := 1) rfl rfl)) <| sE ?_;intro a H
  refine list_yes' H rfl rfl (by assumption) ?_
  refine list_call H rfl rfl Try.func15 rfl rfl (elaw_Far up pull drag body ride most pcs CA cc num den _) ?_
  rintro _ _ a ⟨rfl, S2⟩ H
  replace S := S.call S2;clear S2
  exact wpList_nil ⟨H.strip 2 rfl rfl, (S.sel [0, 1, 2, 3] rfl rfl)⟩
 clear H a S;intro a _ H S
 refine ls 2 H <| so rfl rfl rfl <| sr 1 rfl <| sE ?_;clear H a;intro a H
 apply list_guard (i := 10) (g := 29) (t := 38) (b := false) 9 H S rfl rfl (by kernel_rfl) (by kernel_rfl) rfl rfl
 case h1 =>
  intro hg11
  have hq11 := hg11; try simp only [o1,o2,o3,o4,o5,o6,o7,o8,o9,oa] at hq11
  refine ls 7 H <| sy hg11 <| sd ((does_loadBox agg_49 sz_49 rfl S (i := 3) rfl rfl)) <| sy hg11 <| sf fo_51_0 rfl <| sy hg11 <| sl S 0 one_3 rfl rfl rfl <| sy hg11 <| sf fo_51_1 rfl <| sy hg11 <| sl S 0 one_25 rfl rfl rfl <| sy hg11 <| sf fo_51_2 rfl <| sy hg11 <| sl S 0 one_3 rfl rfl rfl <| sE ?_;intro a H
  refine list_yes' H rfl rfl (by assumption) ?_
  refine list_call H rfl rfl Try.func16 rfl rfl (ref_CheckLeave pl ps PA pc xs XA xc out pe BA bc T0 _ (hps.now S) hpn (hxs.now S) hxn (hpe.now S) hpen) ?_
  rintro _ _ a ⟨rfl, S2⟩ H
  replace S := S.call S2;clear S2
  refine ls 1 H <| sy hg11 <| sr 1 rfl <| sE ?_;intro a H
  exact wpList_nil ⟨H.strip 9 rfl rfl, (S.sel [0, 1, 2, 3] rfl rfl)⟩
 clear H a S;intro a _ H S
 refine ls 2 H <| so rfl rfl rfl <| sr 1 rfl <| sE ?_;clear H a;intro a H
 apply list_guard (i := 21) (g := 40) (t := 43) (b := false) 3 H S rfl rfl (by kernel_rfl) (by kernel_rfl) rfl rfl
 case h1 =>
  intro hg22
  have hq22 := hg22; try simp only [o1,o2,o3,o4,o5,o6,o7,o8,o9,oa] at hq22
  refine ls 1 H <| sy hg22 <| sd ((does_loadBox agg_53 sz_53 rfl S (i := 1) rfl rfl)) <| sE ?_;intro a H
  refine list_yes' H rfl rfl (by assumption) ?_
  refine list_call H rfl rfl Try.func17 rfl rfl (eref_Check up pull drag body ride most pcs CA cc num den _ (hcs.now S) hcn) ?_
  rintro _ _ a ⟨rfl, S2⟩ H
  replace S := S.call S2;clear S2
  refine ls 1 H <| sy hg22 <| sr 1 rfl <| sE ?_;intro a H
  exact wpList_nil ⟨H.strip 3 rfl rfl, (S.sel [0, 1, 2, 3] rfl rfl)⟩
 clear H a S;intro a _ H S
 refine ls 2 H <| so rfl rfl rfl <| sr 1 rfl <| sE ?_;clear H a;intro a H
 apply list_guard (i := 26) (g := 45) (t := 50) (b := false) 5 H S rfl rfl (by kernel_rfl) (by kernel_rfl) rfl rfl
 case h1 =>
  intro hg27
  have hq27 := hg27; try simp only [o1,o2,o3,o4,o5,o6,o7,o8,o9,oa] at hq27
  refine ls 3 H <| sy hg27 <| sd ((does_loadBox agg_53 sz_53 rfl S (i := 1) rfl rfl)) <| sy hg27 <| sf fo_55_3 rfl <| sy hg27 <| sl S 2 one_3 rfl rfl rfl <| sE ?_;intro a H
  refine list_yes' H rfl rfl (by assumption) ?_
  refine list_call H rfl rfl Try.func18 rfl rfl (eref_Pace up pull drag body ride most pcs CA cc num den pace _ (hcs.now S) hcn) ?_
  rintro _ _ a ⟨rfl, S2⟩ H
  replace S := S.call S2;clear S2
  refine ls 1 H <| sy hg27 <| sr 1 rfl <| sE ?_;intro a H
  exact wpList_nil ⟨H.strip 5 rfl rfl, (S.sel [0, 1, 2, 3] rfl rfl)⟩
 clear H a S;intro a _ H S
 refine ls 14 H <| so rfl rfl rfl <| sr 1 rfl <| sg 3 33 52 55 false rfl rfl (fun hg34 => by
     have hq34 := hg34;try simp only [o1,o2,o3,o4,o5,o6,o7,o8,o9,oa] at hq34
     exact sy hg34 <| sf fo_55_1 rfl <| sy hg34 <| sl S 2 one_3 rfl rfl rfl <| sy hg34 <| sr 1 rfl <| sz 3 rfl rfl rfl) <| so rfl rfl rfl <| sr 1 rfl <| sg 6 38 57 63 false rfl rfl (fun hg39 => by
     have hq39 := hg39;try simp only [o1,o2,o3,o4,o5,o6,o7,o8,o9,oa] at hq39
     exact sy hg39 <| sf fo_55_1 rfl <| sy hg39 <| sl S 2 one_3 rfl rfl rfl <| sy hg39 <| sf fo_49_1 rfl <| sy hg39 <| sl S 3 one_47 rfl rfl rfl <| sy hg39 <| sL sl_47 rfl <| sy hg39 <| sr 1 rfl <| sz 6 rfl rfl rfl) <| so rfl rfl rfl <| sE ?_;clear H a;intro a H
 refine k5 _ _ ?_;clear k5 K5
 refine cond_ H rfl (fun hc1 => ?_) (fun hc1 => ?_)
 ·skip
  try simp only [o1,o2,o3,o4,o5,o6,o7,o8,o9,oa] at hc1
  replace H := H.keep [] rfl
  refine seq_list fun K6 k6 => ?_
  refine list_call H rfl rfl Try.func8 rfl rfl (top_measures _) ?_;clear H a
  rintro _ _ a ⟨rfl, S2⟩ H
  replace S := S.call S2;clear S2
  refine ls 1 H <| sr 1 rfl <| sE ?_;clear H a;intro a H
  refine k6 _ _ ?_;clear k6 K6
  refine wp_ret ?_
  refine ret1 (fn := Try.f4) rfl H rfl ?_
  exact ⟨rfl, (S.sel [] rfl rfl)⟩
 try simp only [o1,o2,o3,o4,o5,o6,o7,o8,o9,oa] at hc1
 obtain ⟨⟨⟨⟨⟨⟨hcw, hfr⟩, hlv⟩, hbe⟩, hpac⟩, hp0⟩, hp1⟩ := hc1
 obtain ⟨hst, hou, hcr, hti⟩ := leaveE_ok hlv
 have hV := st_valid hst
 obtain ⟨hpp, hpl'⟩ := crowd_ok hcr
 obtain ⟨ix, rfl⟩ := Int.eq_ofNat_of_zero_le hp0
 have hix : ix < ps.length := by omega
 have hpg := psgOk_iff.1 (hV.pas ix hix)
 obtain ⟨hbi, hbp⟩ := band_of hbe
 unfold bandI at hbi
 obtain ⟨q9, hq9, hq8⟩ := has_in hpac
 have hpcq := prvP_pos hbp q9 hq9
 rw [hq8] at hpcq
 have htp : 0 ≤ (ps.getD ix Psg.zero).ticks * pace ∧ (ps.getD ix Psg.zero).ticks * pace ≤ 20 * 100 := ⟨Int.mul_nonneg (by omega) (by omega), Int.mul_le_mul (by omega) (by omega) (by omega) (by omega)⟩
 refine wp_skip ?_
 refine k4 _ _ ?_
 replace H := H.keep [2, 3, 5, 6] rfl
 refine seq_list fun K7 k7 => ?_
 refine ls 6 H <| sf fo_49_1 rfl <| sl S 3 one_47 rfl rfl rfl <| sf fo_55_1 rfl <| sl S 2 one_3 rfl rfl rfl <| si sl_47 sz_62 rfl rfl (hps.adr (by omega)) (by omega) <| sd ((does_loadIn agg_62 sz_62 rfl S hps (by omega) (by omega))) <| sE ?_;clear H a;intro a H
 refine list_alloc H rfl S ze_62 ?_;clear H a S;intro b7 _ a hb7 hbw7 S H
 refine list_store H S (i := 0) rfl rfl rfl rfl sz_62 rfl rfl ?_
 clear H a S;intro _ a S H
 refine k7 _ _ ?_;clear k7 K7
 refine wp_seq_k fun K8 k8 => ?_
 replace H := H.keep [2, 3, 5, 6, 7] rfl
 refine sS H fun K9 k9=>sf fo_62_2 rfl <| sl S 0 one_3 rfl rfl rfl <| sr 2 rfl <| sg 8 3 75 83 false rfl rfl (fun hg4 => by
     have hq4 := hg4;try simp only [o1,o2,o3,o4,o5,o6,o7,o8,o9,oa] at hq4
     exact sy hg4 <| sf fo_51_0 rfl <| sy hg4 <| sl S 1 one_3 rfl rfl rfl <| sy hg4 <| sf fo_62_5 rfl <| sy hg4 <| sl S 0 one_3 rfl rfl rfl <| sy hg4 <| sd (does_convert Try.underlying3 Try.underlying63 rfl (by first | omega | exact IntWalk.i64_in _ (by omega) | exact IntWalk.u64_in _ (by omega))) <| sy hg4 <| sd (does_shr rfl rfl (by omega) (by omega)) <| sy hg4 <| sd (does_and1 rfl rfl) <| sy hg4 <| sr 1 rfl <| sz 8 rfl rfl rfl) <| so rfl rfl rfl <| sr 1 rfl <| sg 8 13 85 93 false rfl rfl (fun hg14 => by
     have hq14 := hg14;try simp only [o1,o2,o3,o4,o5,o6,o7,o8,o9,oa] at hq14
     exact sy hg14 <| sf fo_53_4 rfl <| sy hg14 <| sl S 2 one_3 rfl rfl rfl <| sy hg14 <| sf fo_62_3 rfl <| sy hg14 <| sl S 0 one_3 rfl rfl rfl <| sy hg14 <| sf fo_55_3 rfl <| sy hg14 <| sl S 3 one_3 rfl rfl rfl <| sy hg14 <| sd (does_mul rfl rfl (by unfold i64ok; omega)) <| sy hg14 <| sr 1 rfl <| sz 8 rfl rfl rfl) <| so rfl rfl rfl <| sE ?_;clear H a;intro a H
 refine k9 _ ?_;clear k9 K9
 refine cond_ H rfl (fun hc2 => ?_) (fun hc2 => ?_)
 ·skip
  try simp only [o1,o2,o3,o4,o5,o6,o7,o8,o9,oa] at hc2
  replace H := H.keep [] rfl
  refine seq_list fun K10 k10 => ?_
  refine list_call H rfl rfl Try.func8 rfl rfl (top_measures _) ?_;clear H a
  rintro _ _ a ⟨rfl, S2⟩ H
  replace S := S.call S2;clear S2
  refine ls 1 H <| sr 1 rfl <| sE ?_;clear H a;intro a H
  refine k10 _ _ ?_;clear k10 K10
  refine wp_ret ?_
  refine ret1 (fn := Try.f4) rfl H rfl ?_
  exact ⟨rfl, (S.sel [] rfl rfl)⟩
 try simp only [o1,o2,o3,o4,o5,o6,o7,o8,o9,oa] at hc2
 obtain ⟨⟨hk3, hnb⟩, hrd⟩ := hc2
 have hload : ((ps.getD ix Psg.zero).wide * ride + pace - 1) / pace * body = (ps.getD ix Psg.zero).wide * (ps.getD ix Psg.zero).ticks * body := by
   rw [show (ps.getD ix Psg.zero).wide * ride + pace - 1 = (pace - 1) + ((ps.getD ix Psg.zero).wide * (ps.getD ix Psg.zero).ticks) * pace by rw [hrd, ← Int.mul_assoc]; omega, Int.add_mul_ediv_right _ _ (by omega), Int.ediv_eq_zero_of_lt (by omega) (by omega), Int.zero_add]
 refine wp_skip ?_
 refine k8 _ _ ?_
 replace H := H.keep [2, 3, 5, 6, 7] rfl
 refine seq_list fun K11 k11 => ?_
 refine ls 5 H <| sd ((does_loadBox agg_53 sz_53 rfl S (i := 2) rfl rfl)) <| sf fo_62_4 rfl <| sl S 0 one_3 rfl rfl rfl <| sf fo_55_3 rfl <| sl S 3 one_3 rfl rfl rfl <| sE ?_;clear H a;intro a H
 refine list_call H rfl rfl Try.func19 rfl rfl (en_Load up pull drag body ride most pcs CA cc num den (ps.getD ix Psg.zero).wide pace _ (hcs.now S) hcn hbe hpac (by omega)) ?_;clear H a
 rintro _ _ a ⟨rfl, S2⟩ H
 replace S := S.call S2;clear S2
 rw [hload] at H
 refine ls 5 H <| sr 5 rfl <| sE ?_;clear H a;intro a H
 refine k11 _ _ ?_;clear k11 K11
 replace H := H.keep [2, 3, 5, 6, 7, 8, 9] rfl
 refine seq_list fun K12 k12 => ?_
 refine ls 7 H <| sd ((does_loadBox agg_49 sz_49 rfl S (i := 4) rfl rfl)) <| sf fo_51_0 rfl <| sl S 1 one_3 rfl rfl rfl <| sf fo_51_1 rfl <| sl S 1 one_25 rfl rfl rfl <| sf fo_51_2 rfl <| sl S 1 one_3 rfl rfl rfl <| sE ?_;clear H a;intro a H
 refine list_call H rfl rfl Try.func20 rfl rfl (plan_0 pl ps PA pc xs XA xc out pe BA bc T0 _ (hps.now S) hpn (hxs.now S) hxn (hpe.now S) hpen hlv) ?_;clear H a
 rintro _ _ a ⟨lp, A7, c7, ⟨rfl, hp1, hp2⟩, S2⟩ H
 replace S := S.call S2;clear S2
 refine ls 5 H <| sr 5 rfl <| sE ?_;clear H a;intro a H
 refine k12 _ _ ?_;clear k12 K12
 refine wp_seq_k fun K13 k13 => ?_
 replace H := H.keep [3, 5, 6, 7, 8, 9, 10, 11] rfl
 refine sS H fun K14 k14=>sr 3 rfl <| sg 2 2 118 120 false rfl rfl (fun hg3 => by
     have hq3 := hg3;try simp only [o1,o2,o3,o4,o5,o6,o7,o8,o9,oa] at hq3
     exact sy hg3 <| sr 1 rfl <| sy hg3 <| sr 1 rfl <| sz 2 rfl rfl rfl) <| so rfl rfl rfl <| sE ?_;clear H a;intro a H
 refine k14 _ ?_;clear k14 K14
 refine cond_ H rfl (fun hc3 => ?_) (fun hc3 => ?_)
 ·skip
  try simp only [o1,o2,o3,o4,o5,o6,o7,o8,o9,oa] at hc3
  exfalso; simp at hc3
 try simp only [o1,o2,o3,o4,o5,o6,o7,o8,o9,oa] at hc3
 refine wp_skip ?_
 refine k13 _ _ ?_
 refine wp_seq_k fun K15 k15 => ?_
 replace H := H.keep [3, 5, 6, 7, 8, 10] rfl
 refine sS H fun K16 k16=>sr 1 rfl <| sf fo_53_5 rfl <| sl S 3 one_3 rfl rfl rfl <| sr 1 rfl <| sE ?_;clear H a;intro a H
 refine k16 _ ?_;clear k16 K16
 refine condL H rfl (fun hc4 => ?_) (fun hc4 => ?_)
 ·skip
  refine seq_list fun K17 k17 => ?_
  refine list_call H rfl rfl Try.func8 rfl rfl (top_measures _) ?_;clear H a
  rintro _ _ a ⟨rfl, S2⟩ H
  replace S := S.call S2;clear S2
  refine ls 1 H <| sr 1 rfl <| sE ?_;clear H a;intro a H
  refine k17 _ _ ?_;clear k17 K17
  refine wp_ret ?_
  refine ret1 (fn := Try.f4) rfl H rfl ?_
  exact ⟨rfl, (S.sel [] rfl rfl)⟩
 refine wp_skip ?_
 refine k15 _ _ ?_
 refine wp_seq_k fun K18 k18 => ?_
 refine sS H fun K19 k19=>sr 1 rfl <| sE ?_;clear H a;intro a H
 refine k19 _ ?_;clear k19 K19
 refine wp_block ?_
 refine loop_st (X := Nat) (R0 := _) [3, 5, 6, 7, 10] H rfl (fun t => [(12, .int .i64 (t : Int))]) (fun t => []) (fun g t => (t : Int) ≤ T0 + 1 ∧ (g : Int) + t = T0 + 1) (T0.toNat + 1) 0 ?_ (S.sel [0, 1, 2, 3, 4, 5] rfl rfl) (H.keep [12, 3, 5, 6, 7, 10] rfl) ?_
 · exact ⟨by omega, by omega⟩
 clear H S a
 intro g1 x1 a w1 hp S H K20 k20
 obtain ⟨t, rfl⟩ : ∃ y, y = x1 := ⟨_, rfl⟩
 refine wp_seq_k fun K21 k21 => ?_
 refine sS H fun K22 k22=>sr 1 rfl <| sf fo_51_2 rfl <| sl S 2 one_3 rfl rfl rfl <| sr 1 rfl <| sE ?_;clear H a;intro a H
 refine k22 _ ?_;clear k22 K22
 refine condG H rfl (fun hc5 => ?_) (fun hc5 => ?_)
 ·skip
  refine wp_skip ?_
  refine k21 _ _ ?_
  refine wp_seq_k fun K23 k23 => ?_
  refine wp_block ?_
  refine sS H fun K24 k24=>sr 1 rfl <| sE ?_;clear H a;intro a H
  refine k24 _ ?_;clear k24 K24
  refine wp_seq_k fun K25 k25 => ?_
  refine sS H fun K26 k26=>sr 1 rfl <| sE ?_;clear H a;intro a H
  refine k26 _ ?_;clear k26 K26
  refine wp_block ?_
  refine loop_st (X := Nat × Int) (R0 := _) [3, 5, 6, 7, 10, 12] H rfl (fun ⟨q, v⟩ => [(13, .int .i64 v), (14, .int .i64 (q : Int))]) (fun ⟨q, v⟩ => []) (fun g ⟨q, v⟩ => q ≤ lp.length ∧ g + q = lp.length ∧ v = onS ix t (ps.getD ix Psg.zero).ticks lp q) (lp.length) (0, 0) ?_ (S.sel [0, 1, 2, 3, 4, 5] rfl rfl) (H.keep [13, 14, 3, 5, 6, 7, 10, 12] rfl) ?_
  · exact ⟨by omega, by omega, rfl⟩
  clear H S a
  intro g2 x2 a w2 hp S H K27 k27
  obtain ⟨q, v⟩ := x2
  dsimp only at hp S H
  obtain ⟨hql, hgq, hv9⟩ := hp
  have hsb := onS_bd (ix := (ix : Int)) (t := (t : Int)) (tk := (ps.getD ix Psg.zero).ticks) hp1 q hql
  have hmm := fun h : q < lp.length => ((mvOk_iff.1 ((planB_iff.1 hp1).1 q h).1).1)
  refine wp_seq_k fun K28 k28 => ?_
  refine sS H fun K29 k29=>sr 2 rfl <| sL sl_66 rfl <| sr 1 rfl <| sE ?_;clear H a;intro a H
  refine k29 _ ?_;clear k29 K29
  refine condL H rfl (fun hc6 => ?_) (fun hc6 => ?_)
  ·skip
   refine wp_skip ?_
   refine k28 _ _ ?_
   refine wp_seq_k fun K30 k30 => ?_
   refine wp_block ?_
   replace H := H.keep [3, 5, 6, 7, 10, 12, 13, 14] rfl
   replace S := S.drew
   refine sD H fun K31 k31=>sr 2 rfl <| si sl_66 sz_70 rfl rfl (ownM.adr S (i := 0) rfl (by omega)) (by omega) <| sp fo_70_0 rfl <| slm one_3 rfl (ownM.rd S (i := 0) rfl (by omega) (by omega)) <| sf fo_55_1 rfl <| sl S 4 one_3 rfl rfl rfl <| sr 2 rfl <| sg 7 8 147 154 true rfl rfl (fun hg9 => by
       have hq9 := hg9;try simp only [o1,o2,o3,o4,o5,o6,o7,o8,o9,oa] at hq9
       exact sy hg9 <| sr 1 rfl <| sy hg9 <| sr 1 rfl <| sy hg9 <| si sl_66 sz_70 rfl rfl (ownM.adr S (i := 0) rfl (by omega)) (by omega) <| sy hg9 <| sp fo_70_2 rfl <| sy hg9 <| slm one_3 rfl (ownM.rd S (i := 0) rfl (by omega) (by omega)) <| sy hg9 <| sr 1 rfl <| sy hg9 <| sr 1 rfl <| sz 7 rfl rfl rfl) <| sa rfl rfl rfl <| sr 1 rfl <| sg 10 17 156 166 true rfl rfl (fun hg18 => by
       have hq18 := hg18;try simp only [o1,o2,o3,o4,o5,o6,o7,o8,o9,oa] at hq18
       exact sy hg18 <| sr 1 rfl <| sy hg18 <| sr 1 rfl <| sy hg18 <| si sl_66 sz_70 rfl rfl (ownM.adr S (i := 0) rfl (by omega)) (by omega) <| sy hg18 <| sp fo_70_2 rfl <| sy hg18 <| slm one_3 rfl (ownM.rd S (i := 0) rfl (by omega) (by omega)) <| sy hg18 <| sr 1 rfl <| sy hg18 <| sf fo_62_3 rfl <| sy hg18 <| sl S 1 one_3 rfl rfl rfl <| sy hg18 <| sd (does_sub rfl rfl (by unfold i64ok; omega)) <| sy hg18 <| sr 1 rfl <| sz 10 rfl rfl rfl) <| sa rfl rfl rfl <| sE ?_;clear H a;intro a H
   refine k31 _ ?_;clear k31 K31
   refine cond_ H rfl (fun hc7 => ?_) (fun hc7 => ?_)
   ·skip
    try simp only [o1,o2,o3,o4,o5,o6,o7,o8,o9,oa] at hc7
    have hmq := hmm (by omega); unfold mvIn at hmq
    replace H := H.keep [3, 5, 6, 7, 10, 12, 13, 14] rfl
    refine sO H <| sr 3 rfl <| si sl_66 sz_70 rfl rfl (ownM.adr S (i := 0) rfl (by omega)) (by omega) <| sp fo_70_3 rfl <| slm one_3 rfl (ownM.rd S (i := 0) rfl (by omega) (by omega)) <| sd (does_add rfl rfl (by unfold i64ok; omega)) <| sr 1 rfl <| sE ?_;clear H a;intro a H
    refine k30 _ _ ?_
    replace H := H.keep [3, 5, 6, 7, 10, 12, 13, 14] rfl
    refine sO H <| sr 1 rfl <| sd (does_add rfl rfl (by unfold i64ok; omega)) <| sr 1 rfl <| sE ?_;clear H a;intro a H
    exact k27 (g2 - 1) (q + 1, _) a _ (by omega) (by first | exact ⟨by omega, by omega, onS_yes hv9 hc7⟩ | exact ⟨by omega, by omega, onS_no hv9 (by omega)⟩) (S.sel [0, 1, 2, 3, 4, 5] rfl rfl) (H.keep [13, 14, 3, 5, 6, 7, 10, 12] rfl)
   try simp only [o1,o2,o3,o4,o5,o6,o7,o8,o9,oa] at hc7
   refine wp_skip ?_
   refine k30 _ _ ?_
   refine sO H <| sr 1 rfl <| sd (does_add rfl rfl (by unfold i64ok; omega)) <| sr 1 rfl <| sE ?_;clear H a;intro a H
   exact k27 (g2 - 1) (q + 1, _) a _ (by omega) (by first | exact ⟨by omega, by omega, onS_yes hv9 hc7⟩ | exact ⟨by omega, by omega, onS_no hv9 (by omega)⟩) (S.sel [0, 1, 2, 3, 4, 5] rfl rfl) (H.keep [13, 14, 3, 5, 6, 7, 10, 12] rfl)
  refine wp_exit ?_
  refine k25 _ _ ?_
  obtain rfl : q = lp.length := by omega
  subst hv9
  have hbm : 0 ≤ onS ix t (ps.getD ix Psg.zero).ticks lp lp.length * body ∧ onS ix t (ps.getD ix Psg.zero).ticks lp lp.length * body ≤ 3000000 * 100 := ⟨Int.mul_nonneg (by omega) (by omega), Int.mul_le_mul (by omega) (by omega) (by omega) (by omega)⟩
  replace H := H.keep [3, 5, 6, 7, 10, 12, 13] rfl
  refine sS H fun K35 k35=>sr 1 rfl <| sf fo_53_3 rfl <| sl S 3 one_3 rfl rfl rfl <| sd (does_mul rfl rfl (by unfold i64ok; omega)) <| sf fo_53_5 rfl <| sl S 3 one_3 rfl rfl rfl <| sr 1 rfl <| sE ?_;clear H a;intro a H
  refine k35 _ ?_;clear k35 K35
  refine condL H rfl (fun hc8 => ?_) (fun hc8 => ?_)
  ·skip
   exfalso
   have h9 := on_le (t := (t : Int)) (n := (ps.getD ix Psg.zero).ticks.toNat) hp1 hk3 hnb (by omega) (by omega) (by omega)
   rw [Int.toNat_of_nonneg (by omega)] at h9
   have h8 := Int.mul_le_mul_of_nonneg_right h9 (show 0 ≤ body by omega)
   omega
  refine wp_skip ?_
  refine k23 _ _ ?_
  replace H := H.keep [3, 5, 6, 7, 10, 12] rfl
  refine sO H <| sr 1 rfl <| sd (does_add rfl rfl (by unfold i64ok; omega)) <| sr 1 rfl <| sE ?_;clear H a;intro a H
  exact k20 (g1 - 1) (t + 1) a _ (by omega) (⟨by omega, by omega⟩) (S.sel [0, 1, 2, 3, 4, 5] rfl rfl) (H.keep [12, 3, 5, 6, 7, 10] rfl)
 refine wp_exit ?_
 refine k18 _ _ ?_
 refine seq_list fun K37 k37 => ?_
 refine list_call H rfl rfl Try.func8 rfl rfl (top_measures _) ?_;clear H a
 rintro _ _ a ⟨rfl, S2⟩ H
 replace S := S.call S2;clear S2
 refine ls 1 H <| sr 1 rfl <| sE ?_;clear H a;intro a H
 refine k37 _ _ ?_;clear k37 K37
 refine wp_ret ?_
 refine ret1 (fn := Try.f4) rfl H rfl ?_
 exact ⟨rfl, (S.sel [] rfl rfl)⟩

end Go.Proofs.Ytdepakimbagonaa
