/- TpL. Printed by gen.py. -/
import Derived.Test.YtdfjdkhgdmndjaaTpB
namespace Go.Proofs.Ytdfjdkhgdmndjaa
open Go.RowKit
set_option linter.unusedVariables false
set_option linter.unusedSimpArgs false
set_option maxRecDepth 100000
set_option maxHeartbeats 4000000


theorem all_at {α : Type} {l : List α} {p : α → Bool} {k : Nat} {d : α} (h : l.all p = true) (hk : k < l.length) : p (l.getD k d) = true := by
  rw [List.getD_eq_getElem?_getD, List.getElem?_eq_getElem hk]
  exact List.all_eq_true.1 h _ (List.getElem_mem hk)
theorem run_at {c : Chain} {l : List Gauge} {M : IM} {a b : Int} (hk : checkE c l = 0) (hM : weaveW c l yes = some M) (h0 : 0 ≤ a) (hab : a ≤ b) (hb : b ≤ c.links) : runO c l a b = (-(M b.toNat a.toNat), M a.toNat b.toNat, 0) := by
  have h1 : isRunB c a b = true := by unfold isRunB; simp only [Bool.and_eq_true, decide_eq_true_eq]; exact ⟨⟨h0, hab⟩, hb⟩
  unfold runO wholeO
  rw [h1, if_neg (by omega), if_pos rfl, hM]
theorem hist_mem {lo hi : Int} {l : List Int} (h : histB lo hi l = true) : ∀ x ∈ l, lo ≤ x ∧ x ≤ hi := by
  unfold histB at h
  rw [Bool.and_eq_true] at h
  intro x hx
  have := List.all_eq_true.1 h.1 x hx
  simpa using this
theorem hist_all {lo hi : Int} {l : List Int} (h : histB lo hi l = true) : ∀ k, k < l.length → lo ≤ l.getD k 0 ∧ l.getD k 0 ≤ hi := fun k hk => by
  refine hist_mem h _ ?_
  rw [List.getD_eq_getElem?_getD, List.getElem?_eq_getElem hk]
  exact List.getElem_mem hk
theorem dist_e3 {e : Esc} {s : Stp} (h : stopE e s = 0) : (distI e s).2.2 = if (goI e s true 100 s.speed 0).2 = true then 0 else 12 := by
  unfold distI
  rw [if_neg (by omega)]
  split <;> rfl
theorem dist_o3 {e : Esc} {s : Stp} (h : stopE e s = 0) (h2 : (distI e s).2.2 = 0) : (distI e s).1 = (goI e s false 100 s.speed 0).1 ∧ (distI e s).2.1 = (goI e s true 100 s.speed 0).1 ∧ (goI e s true 100 s.speed 0).2 = true := by
  unfold distI at h2 ⊢
  rw [if_neg (by omega)] at h2 ⊢
  split
  · rename_i h3; rw [if_pos h3] at *; exact ⟨rfl, rfl, h3⟩
  · rename_i h3; rw [if_neg h3] at h2; cases h2
theorem top_betweenI (l : List Int) (A : Option Addr) (cp : Nat) (a b : Int) (w : World) (hl : InS w noF 1 A l.length (icl l)) (h0 : 0 ≤ a) (hab : a ≤ b) (hb : b ≤ l.length) (hn : l.length ≤ 1000) (hf : ∀ k, k < l.length → 0 ≤ l.getD k 0 ∧ l.getD k 0 ≤ 100000) :
    Calls Try.prog 11 [.slice A l.length cp, .int .i64 a, .int .i64 b].toArray w (Ret fun v w' => v = .int .i64 (sumR (fun k => l.getD k 0) a.toNat (b.toNat - a.toNat)) ∧ St w noF [] w') := by
  have h := top_between l A cp a.toNat b.toNat w hl (by omega) (by omega) hn hf
  rw [Int.toNat_of_nonneg h0, Int.toNat_of_nonneg (show 0 ≤ b by omega)] at h
  exact h
theorem ints_ok {o : Except Int (List Int)} {ks : List Int} {w w' : World} {v : Value} (h : o = .ok ks) (hw : IntsR w o v w') : ∃ A' c', v = .tuple #[.slice A' ks.length c', .int .i64 0] ∧ St w noF [ownM 3 1 A' ks.length c' (icl ks)] w' := by subst h; exact hw


theorem law_TopLinks (links pitch limit : Int) (l : List Gauge) (A : Option Addr) (cp : Nat) (up : Bool) (empty pull drag motor : Int) (br : List Brake) (BA : Option Addr) (bcp : Nat) (sp slo shi sfail : Int) (xs : List Int) (XA : Option Addr) (xc : Nat) (first many : Int) (ld : List Int) (LA : Option Addr) (lc : Nat) (w : World) (hl : InS w noF 4 A l.length (gcell l)) (hn : l.length ≤ 9223372036854775807) (hb : InS w noF 2 BA br.length (bcell br)) (hbn : br.length ≤ 9223372036854775807) (hx : InS w noF 1 XA xs.length (icl xs)) (hxn : xs.length ≤ 9223372036854775807) (hd : InS w noF 1 LA ld.length (icl ld)) (hdn : ld.length ≤ 9223372036854775807) :
    Calls Try.prog 3 [.agg [.int .i64 links, .int .i64 pitch, .int .i64 limit, .slice A l.length cp].toArray, .agg [.bool up, .int .i64 empty, .int .i64 pull, .int .i64 drag, .int .i64 motor, .slice BA br.length bcp, .int .i64 sp, .int .i64 slo, .int .i64 shi, .int .i64 sfail].toArray, .agg [.slice XA xs.length xc, .int .i64 first, .int .i64 many, .slice LA ld.length lc].toArray].toArray w (Ret (fun v w' => v = .bool true ∧ St w noF [] w')) := by
 have hmx : maxLen = 9223372036854775807 := rfl
 refine enter Try.func3 rfl Try.ntmps3 rfl (fun a H => ?_)
 have S := St.start w
 refine seq_list fun K1 k1 => ?_
 refine list_box H rfl S rfl rfl ?_;clear H a S;intro b3 _ a hb3 hbw3 S H
 refine list_box H rfl S rfl rfl ?_;clear H a S;intro b4 _ a hb4 hbw4 S H
 refine list_box H rfl S rfl rfl ?_;clear H a S;intro b5 _ a hb5 hbw5 S H
 refine ls 1 H <| sr 1 rfl <| sE ?_;clear H a;intro a H
 refine k1 _ _ ?_;clear k1 K1
 refine seq_list fun K2 k2 => ?_
 refine ls 2 H <| sf fo_26_0 rfl <| sd ((does_loadBox agg_23 sz_23 rfl S (i := 2) rfl rfl)) <| sE ?_;clear H a;intro a H
 refine list_alloc H rfl S ze_23 ?_;clear H a S;intro b7 _ a hb7 hbw7 S H
 refine list_store H S (i := 0) rfl rfl rfl rfl sz_23 rfl rfl ?_
 clear H a S;intro _ a S H
 refine k2 _ _ ?_;clear k2 K2
 refine wp_seq_k fun K3 k3 => ?_
 replace H := H.keep [3, 4, 5, 7] rfl
 refine seq_list fun K4 k4 => ?_
 refine ls 2 H <| sf fo_26_1 rfl <| sl S 3 one_24 rfl rfl rfl <| sE ?_;clear H a;intro a H
 refine list_call H rfl rfl Try.func5 rfl rfl (law_Far _ _ _ _) ?_;clear H a
 rintro _ _ a ⟨rfl, rfl⟩ H
 refine ls 1 H <| sr 1 rfl <| sE ?_;clear H a;intro a H
 apply list_guard (i := 3) (g := 28) (t := 31) (b := false) 3 H S rfl rfl (by kernel_rfl) (by kernel_rfl) rfl rfl
 case h1 =>
  intro hg4
  have hq4 := hg4; try simp only [o1,o2,o3,o4,o5,o6,o7,o8,o9,oa] at hq4
  refine ls 2 H <| sy hg4 <| sf fo_35_0 rfl <| sy hg4 <| sd ((does_loadBox agg_29 sz_29 rfl S (i := 2) rfl rfl)) <| sE ?_;intro a H
  refine list_yes' H rfl rfl (by assumption) ?_
  refine list_call H rfl rfl Try.func6 rfl rfl (dlaw_Far up empty pull drag motor br BA bcp _) ?_
  rintro _ _ a ⟨rfl, S2⟩ H
  replace S := S.call S2;clear S2
  exact wpList_nil ⟨H.strip 3 rfl rfl, (S.sel [0, 1, 2, 3] rfl rfl)⟩
 clear H a S;intro a _ H S
 refine ls 2 H <| so rfl rfl rfl <| sr 1 rfl <| sE ?_;clear H a;intro a H
 apply list_guard (i := 8) (g := 33) (t := 38) (b := false) 5 H S rfl rfl (by kernel_rfl) (by kernel_rfl) rfl rfl
 case h1 =>
  intro hg9
  have hq9 := hg9; try simp only [o1,o2,o3,o4,o5,o6,o7,o8,o9,oa] at hq9
  refine ls 3 H <| sy hg9 <| sd ((does_loadBox agg_23 sz_23 rfl S (i := 0) rfl rfl)) <| sy hg9 <| sf fo_26_1 rfl <| sy hg9 <| sl S 3 one_24 rfl rfl rfl <| sE ?_;intro a H
  refine list_yes' H rfl rfl (by assumption) ?_
  refine list_call H rfl rfl Try.func7 rfl rfl (ref_Check links pitch limit l A cp _ (hl.now S) hn) ?_
  rintro _ _ a ⟨rfl, S2⟩ H
  replace S := S.call S2;clear S2
  refine ls 1 H <| sy hg9 <| sr 1 rfl <| sE ?_;intro a H
  exact wpList_nil ⟨H.strip 5 rfl rfl, (S.sel [0, 1, 2, 3] rfl rfl)⟩
 clear H a S;intro a _ H S
 refine ls 2 H <| so rfl rfl rfl <| sr 1 rfl <| sE ?_;clear H a;intro a H
 apply list_guard (i := 15) (g := 40) (t := 46) (b := false) 6 H S rfl rfl (by kernel_rfl) (by kernel_rfl) rfl rfl
 case h1 =>
  intro hg16
  have hq16 := hg16; try simp only [o1,o2,o3,o4,o5,o6,o7,o8,o9,oa] at hq16
  refine ls 4 H <| sy hg16 <| sf fo_35_0 rfl <| sy hg16 <| sd ((does_loadBox agg_29 sz_29 rfl S (i := 2) rfl rfl)) <| sy hg16 <| sf fo_35_1 rfl <| sy hg16 <| sd ((does_loadBox agg_33 sz_33 rfl S (i := 2) rfl rfl)) <| sE ?_;intro a H
  refine list_yes' H rfl rfl (by assumption) ?_
  refine list_call H rfl rfl Try.func8 rfl rfl (dref_CheckStop up empty pull drag motor br BA bcp sp slo shi sfail _ (hb.now S) hbn) ?_
  rintro _ _ a ⟨rfl, S2⟩ H
  replace S := S.call S2;clear S2
  refine ls 1 H <| sy hg16 <| sr 1 rfl <| sE ?_;intro a H
  exact wpList_nil ⟨H.strip 6 rfl rfl, (S.sel [0, 1, 2, 3] rfl rfl)⟩
 clear H a S;intro a _ H S
 refine ls 55 H <| so rfl rfl rfl <| sr 1 rfl <| sg 6 23 48 54 false rfl rfl (fun hg24 => by
     have hq24 := hg24;try simp only [o1,o2,o3,o4,o5,o6,o7,o8,o9,oa] at hq24
     exact sy hg24 <| sf fo_38_0 rfl <| sy hg24 <| sl S 1 one_36 rfl rfl rfl <| sy hg24 <| sL sl_36 rfl <| sy hg24 <| sf fo_23_0 rfl <| sy hg24 <| sl S 0 one_3 rfl rfl rfl <| sy hg24 <| sr 1 rfl <| sz 6 rfl rfl rfl) <| so rfl rfl rfl <| sr 1 rfl <| sg 3 31 56 59 false rfl rfl (fun hg32 => by
     have hq32 := hg32;try simp only [o1,o2,o3,o4,o5,o6,o7,o8,o9,oa] at hq32
     exact sy hg32 <| sf fo_23_0 rfl <| sy hg32 <| sl S 0 one_3 rfl rfl rfl <| sy hg32 <| sr 1 rfl <| sz 3 rfl rfl rfl) <| so rfl rfl rfl <| sr 1 rfl <| sg 3 36 61 64 false rfl rfl (fun hg37 => by
     have hq37 := hg37;try simp only [o1,o2,o3,o4,o5,o6,o7,o8,o9,oa] at hq37
     exact sy hg37 <| sf fo_38_1 rfl <| sy hg37 <| sl S 1 one_3 rfl rfl rfl <| sy hg37 <| sr 1 rfl <| sz 3 rfl rfl rfl) <| so rfl rfl rfl <| sr 1 rfl <| sg 3 41 66 69 false rfl rfl (fun hg42 => by
     have hq42 := hg42;try simp only [o1,o2,o3,o4,o5,o6,o7,o8,o9,oa] at hq42
     exact sy hg42 <| sf fo_38_2 rfl <| sy hg42 <| sl S 1 one_3 rfl rfl rfl <| sy hg42 <| sr 1 rfl <| sz 3 rfl rfl rfl) <| so rfl rfl rfl <| sr 1 rfl <| sg 8 46 71 79 false rfl rfl (fun hg47 => by
     have hq47 := hg47;try simp only [o1,o2,o3,o4,o5,o6,o7,o8,o9,oa] at hq47
     exact sy hg47 <| sf fo_38_1 rfl <| sy hg47 <| sl S 1 one_3 rfl rfl rfl <| sy hg47 <| sf fo_38_2 rfl <| sy hg47 <| sl S 1 one_3 rfl rfl rfl <| sy hg47 <| sd (does_addW rfl rfl) <| sy hg47 <| sf fo_23_0 rfl <| sy hg47 <| sl S 0 one_3 rfl rfl rfl <| sy hg47 <| sr 1 rfl <| sz 8 rfl rfl rfl) <| so rfl rfl rfl <| sr 1 rfl <| sg 5 56 81 86 false rfl rfl (fun hg57 => by
     have hq57 := hg57;try simp only [o1,o2,o3,o4,o5,o6,o7,o8,o9,oa] at hq57
     exact sy hg57 <| sf fo_38_1 rfl <| sy hg57 <| sl S 1 one_3 rfl rfl rfl <| sy hg57 <| sf fo_23_0 rfl <| sy hg57 <| sl S 0 one_3 rfl rfl rfl <| sy hg57 <| sr 1 rfl <| sz 5 rfl rfl rfl) <| so rfl rfl rfl <| sr 1 rfl <| sg 5 63 88 93 false rfl rfl (fun hg64 => by
     have hq64 := hg64;try simp only [o1,o2,o3,o4,o5,o6,o7,o8,o9,oa] at hq64
     exact sy hg64 <| sf fo_38_2 rfl <| sy hg64 <| sl S 1 one_3 rfl rfl rfl <| sy hg64 <| sf fo_23_0 rfl <| sy hg64 <| sl S 0 one_3 rfl rfl rfl <| sy hg64 <| sr 1 rfl <| sz 5 rfl rfl rfl) <| so rfl rfl rfl <| sr 1 rfl <| sg 4 70 95 99 false rfl rfl (fun hg71 => by
     have hq71 := hg71;try simp only [o1,o2,o3,o4,o5,o6,o7,o8,o9,oa] at hq71
     exact sy hg71 <| sf fo_38_3 rfl <| sy hg71 <| sl S 1 one_36 rfl rfl rfl <| sy hg71 <| sL sl_36 rfl <| sy hg71 <| sr 1 rfl <| sz 4 rfl rfl rfl) <| so rfl rfl rfl <| sr 1 rfl <| sE ?_;clear H a;intro a H
 apply list_guard (i := 76) (g := 101) (t := 107) (b := false) 6 H S rfl rfl (by kernel_rfl) (by kernel_rfl) rfl rfl
 case h1 =>
  intro hg77
  have hq77 := hg77; try simp only [o1,o2,o3,o4,o5,o6,o7,o8,o9,oa] at hq77
  refine ls 4 H <| sy hg77 <| sf fo_35_1 rfl <| sy hg77 <| sd ((does_loadBox agg_33 sz_33 rfl S (i := 2) rfl rfl)) <| sy hg77 <| sf fo_38_3 rfl <| sy hg77 <| sl S 1 one_36 rfl rfl rfl <| sE ?_;intro a H
  refine list_yes' H rfl rfl (by assumption) ?_
  refine list_call H rfl rfl Try.func9 rfl rfl (dref_History sp slo shi sfail ld LA lc _ (hd.now S) hdn) ?_
  rintro _ _ a ⟨rfl, S2⟩ H
  replace S := S.call S2;clear S2
  refine ls 1 H <| sy hg77 <| sr 1 rfl <| sE ?_;intro a H
  exact wpList_nil ⟨H.strip 6 rfl rfl, (S.sel [0, 1, 2, 3] rfl rfl)⟩
 clear H a S;intro a _ H S
 refine ls 1 H <| so rfl rfl rfl <| sE ?_;clear H a;intro a H
 refine k4 _ _ ?_;clear k4 K4
 refine cond_ H rfl (fun hc1 => ?_) (fun hc1 => ?_)
 ·skip
  try simp only [o1,o2,o3,o4,o5,o6,o7,o8,o9,oa] at hc1
  replace H := H.keep [] rfl
  refine seq_list fun K5 k5 => ?_
  refine list_call H rfl rfl Try.func10 rfl rfl (top_linked _) ?_;clear H a
  rintro _ _ a ⟨rfl, S2⟩ H
  replace S := S.call S2;clear S2
  refine ls 1 H <| sr 1 rfl <| sE ?_;clear H a;intro a H
  refine k5 _ _ ?_;clear k5 K5
  refine wp_ret ?_
  refine ret1 (fn := Try.f3) rfl H rfl ?_
  exact ⟨rfl, (S.sel [] rfl rfl)⟩
 try simp only [o1,o2,o3,o4,o5,o6,o7,o8,o9,oa] at hc1
 obtain ⟨⟨⟨⟨⟨⟨⟨⟨⟨⟨⟨⟨hc11, hc12⟩, hkk⟩, hss⟩, hxl⟩, hl10⟩, hf0⟩, hm1⟩, hwr⟩, hfl⟩, hml⟩, hld⟩, hhi⟩ := hc1
 have hw9 : IntKind.i64.wrap (first + many) = first + many := i64ok.eq ⟨by omega, by omega⟩
 rw [hw9] at hwr
 obtain ⟨hck, hl40, hga⟩ := checkE_ok' hkk
 obtain ⟨hes, hst⟩ := stop_ok hss
 have hck2 := hck
 unfold chainOk at hck2
 simp only [decide_eq_true_eq] at hck2
 refine wp_skip ?_
 refine k3 _ _ ?_
 refine wp_seq_k fun K6 k6 => ?_
 skip
 refine sS H fun K7 k7=>sr 1 rfl <| sE ?_;clear H a;intro a H
 refine k7 _ ?_;clear k7 K7
 refine wp_block ?_
 refine loop_st (X := Nat) (R0 := _) [3, 4, 5, 7] H rfl (fun k => [(8, .int .i64 (k : Int))]) (fun k => []) (fun g k => k ≤ xs.length ∧ g + k = xs.length ∧ ∀ q, q < k → pitch ≤ xs.getD q 0 ∧ xs.getD q 0 ≤ limit) (xs.length) 0 ?_ (S.sel [0, 1, 2, 3] rfl rfl) (H.keep [8, 3, 4, 5, 7] rfl) ?_
 · exact ⟨by omega, by omega, fun q hq => absurd hq (Nat.not_lt_zero _)⟩
 clear H S a
 intro g1 x1 a w1 hp S H K8 k8
 obtain ⟨k, rfl⟩ : ∃ y, y = x1 := ⟨_, rfl⟩
 refine wp_seq_k fun K9 k9 => ?_
 refine sS H fun K10 k10=>sr 1 rfl <| sf fo_23_0 rfl <| sl S 0 one_3 rfl rfl rfl <| sr 1 rfl <| sE ?_;clear H a;intro a H
 refine k10 _ ?_;clear k10 K10
 refine condL H rfl (fun hc2 => ?_) (fun hc2 => ?_)
 ·skip
  refine wp_skip ?_
  refine k9 _ _ ?_
  refine wp_seq_k fun K11 k11 => ?_
  refine wp_block ?_
  replace H := H.keep [3, 4, 5, 7, 8] rfl
  replace S := S.drew
  refine sD H fun K12 k12=>sf fo_38_0 rfl <| sl S 1 one_36 rfl rfl rfl <| sr 1 rfl <| si sl_36 sz_3 rfl rfl (hx.adr (by omega)) (by omega) <| slm one_3 rfl (hx.rd S (by omega) (by omega)) <| sf fo_23_1 rfl <| sl S 0 one_3 rfl rfl rfl <| sr 2 rfl <| sg 8 8 124 132 false rfl rfl (fun hg9 => by
      have hq9 := hg9;try simp only [o1,o2,o3,o4,o5,o6,o7,o8,o9,oa] at hq9
      exact sy hg9 <| sf fo_38_0 rfl <| sy hg9 <| sl S 1 one_36 rfl rfl rfl <| sy hg9 <| sr 1 rfl <| sy hg9 <| si sl_36 sz_3 rfl rfl (hx.adr (by omega)) (by omega) <| sy hg9 <| slm one_3 rfl (hx.rd S (by omega) (by omega)) <| sy hg9 <| sf fo_23_2 rfl <| sy hg9 <| sl S 0 one_3 rfl rfl rfl <| sy hg9 <| sr 1 rfl <| sz 8 rfl rfl rfl) <| so rfl rfl rfl <| sE ?_;clear H a;intro a H
  refine k12 _ ?_;clear k12 K12
  refine cond_ H rfl (fun hc3 => ?_) (fun hc3 => ?_)
  ·skip
   try simp only [o1,o2,o3,o4,o5,o6,o7,o8,o9,oa] at hc3
   replace H := H.keep [] rfl
   refine seq_list fun K13 k13 => ?_
   refine list_call H rfl rfl Try.func10 rfl rfl (top_linked _) ?_;clear H a
   rintro _ _ a ⟨rfl, S2⟩ H
   replace S := S.call S2;clear S2
   refine ls 1 H <| sr 1 rfl <| sE ?_;clear H a;intro a H
   refine k13 _ _ ?_;clear k13 K13
   refine wp_ret ?_
   refine ret1 (fn := Try.f3) rfl H rfl ?_
   exact ⟨rfl, (S.sel [] rfl rfl)⟩
  try simp only [o1,o2,o3,o4,o5,o6,o7,o8,o9,oa] at hc3
  refine wp_skip ?_
  refine k11 _ _ ?_
  refine sO H <| sr 1 rfl <| sd (does_add rfl rfl (by unfold i64ok; omega)) <| sr 1 rfl <| sE ?_;clear H a;intro a H
  exact k8 (g1 - 1) (k + 1) a _ (by omega) (⟨by omega, by omega, fun q hq => by
    by_cases h : q = k
    · subst h; omega
    · exact hp.2.2 q (by omega)⟩) (S.sel [0, 1, 2, 3] rfl rfl) (H.keep [8, 3, 4, 5, 7] rfl)
 refine wp_exit ?_
 refine k6 _ _ ?_
 refine wp_seq_k fun K15 k15 => ?_
 have hf : ∀ q, q < xs.length → 0 ≤ xs.getD q 0 ∧ xs.getD q 0 ≤ 100000 := fun q hq => by have := hp.2.2 q (by omega); omega
 have hf2 : ∀ q, q < xs.length → pitch ≤ xs.getD q 0 ∧ xs.getD q 0 ≤ limit := fun q hq => hp.2.2 q (by omega)
 refine sS H fun K16 k16=>sr 1 rfl <| sE ?_;clear H a;intro a H
 refine k16 _ ?_;clear k16 K16
 refine wp_block ?_
 refine loop_st (X := Nat) (R0 := _) [3, 4, 5, 7] H rfl (fun j => [(9, .int .i64 (j : Int))]) (fun j => []) (fun g j => j ≤ l.length ∧ g + j = l.length ∧ (l.take j).all (runB (fun k => xs.getD k 0)) = true) (l.length) 0 ?_ (S.sel [0, 1, 2, 3] rfl rfl) (H.keep [9, 3, 4, 5, 7] rfl) ?_
 · exact ⟨by omega, by omega, rfl⟩
 clear H S a
 intro g2 x2 a w2 hp S H K17 k17
 obtain ⟨j, rfl⟩ : ∃ y, y = x2 := ⟨_, rfl⟩
 refine wp_seq_k fun K18 k18 => ?_
 refine sS H fun K19 k19=>sr 1 rfl <| sf fo_26_1 rfl <| sl S 3 one_24 rfl rfl rfl <| sL sl_24 rfl <| sr 1 rfl <| sE ?_;clear H a;intro a H
 refine k19 _ ?_;clear k19 K19
 refine condL H rfl (fun hc4 => ?_) (fun hc4 => ?_)
 ·skip
  refine wp_skip ?_
  refine k18 _ _ ?_
  refine wp_seq_k fun K20 k20 => ?_
  refine wp_block ?_
  have hgj := all_at (d := Gauge.zero) hga (show j < l.length by omega); unfold gaugeOk at hgj; simp only [decide_eq_true_eq] at hgj
  replace H := H.keep [3, 4, 5, 7, 9] rfl
  refine seq_list fun K21 k21 => ?_
  refine ls 5 H <| sf fo_26_1 rfl <| sl S 3 one_24 rfl rfl rfl <| sr 1 rfl <| si sl_24 sz_47 rfl rfl (hl.adr (by omega)) (by omega) <| sd ((does_loadIn agg_47 sz_47 rfl S hl (by omega) (by omega))) <| sE ?_;clear H a;intro a H
  refine list_alloc H rfl S ze_47 ?_;clear H a S;intro b10 _ a hb10 hbw10 S H
  refine list_store H S (i := 0) rfl rfl rfl rfl sz_47 rfl rfl ?_
  clear H a S;intro _ a S H
  refine k21 _ _ ?_;clear k21 K21
  replace H := H.keep [3, 4, 5, 7, 9, 10] rfl
  refine seq_list fun K22 k22 => ?_
  refine ls 6 H <| sf fo_38_0 rfl <| sl S 2 one_36 rfl rfl rfl <| sf fo_47_0 rfl <| sl S 0 one_3 rfl rfl rfl <| sf fo_47_1 rfl <| sl S 0 one_3 rfl rfl rfl <| sE ?_;clear H a;intro a H
  refine list_call H rfl rfl Try.func11 rfl rfl (top_betweenI xs XA xc (l.getD j Gauge.zero).fr (l.getD j Gauge.zero).to _ (hx.now S) (by omega) (by omega) (by omega) (by omega) hf) ?_;clear H a
  rintro _ _ a ⟨rfl, S2⟩ H
  replace S := S.call S2;clear S2
  refine ls 1 H <| sr 1 rfl <| sE ?_;clear H a;intro a H
  refine k22 _ _ ?_;clear k22 K22
  replace H := H.keep [3, 4, 5, 7, 9, 10, 11] rfl
  refine sS H fun K23 k23=>sr 1 rfl <| sf fo_47_2 rfl <| sf fo_31_0 rfl <| sl S 0 one_3 rfl rfl rfl <| sr 2 rfl <| sg 5 5 159 164 false rfl rfl (fun hg6 => by
      have hq6 := hg6;try simp only [o1,o2,o3,o4,o5,o6,o7,o8,o9,oa] at hq6
      exact sy hg6 <| sr 1 rfl <| sy hg6 <| sf fo_47_2 rfl <| sy hg6 <| sf fo_31_1 rfl <| sy hg6 <| sl S 0 one_3 rfl rfl rfl <| sy hg6 <| sr 1 rfl <| sz 5 rfl rfl rfl) <| so rfl rfl rfl <| sE ?_;clear H a;intro a H
  refine k23 _ ?_;clear k23 K23
  refine cond_ H rfl (fun hc5 => ?_) (fun hc5 => ?_)
  ·skip
   try simp only [o1,o2,o3,o4,o5,o6,o7,o8,o9,oa] at hc5
   replace H := H.keep [] rfl
   refine seq_list fun K24 k24 => ?_
   refine list_call H rfl rfl Try.func10 rfl rfl (top_linked _) ?_;clear H a
   rintro _ _ a ⟨rfl, S2⟩ H
   replace S := S.call S2;clear S2
   refine ls 1 H <| sr 1 rfl <| sE ?_;clear H a;intro a H
   refine k24 _ _ ?_;clear k24 K24
   refine wp_ret ?_
   refine ret1 (fn := Try.f3) rfl H rfl ?_
   exact ⟨rfl, (S.sel [] rfl rfl)⟩
  try simp only [o1,o2,o3,o4,o5,o6,o7,o8,o9,oa] at hc5
  refine wp_skip ?_
  refine k20 _ _ ?_
  refine sO H <| sr 1 rfl <| sd (does_add rfl rfl (by unfold i64ok; omega)) <| sr 1 rfl <| sE ?_;clear H a;intro a H
  exact k17 (g2 - 1) (j + 1) a _ (by omega) (⟨by omega, by omega, all_take (d := Gauge.zero) (by omega) hp.2.2 (by unfold runB; simp only [decide_eq_true_eq]; omega)⟩) (S.sel [1, 2, 3, 4] rfl rfl) (H.keep [9, 3, 4, 5, 7] rfl)
 refine wp_exit ?_
 refine k15 _ _ ?_
 have hps : Pos (⟨links, pitch, limit⟩ : Chain) l (fun k => xs.getD k 0) := ⟨fun q hq => hf2 q (by dsimp only at hq; omega), by rw [← List.take_of_length_le (l := l) (i := j) (by omega)]; exact hp.2.2⟩
 obtain ⟨M, hM, hbest⟩ := pos_best hkk hps
 have hrun : runO (⟨links, pitch, limit⟩ : Chain) l first (first + many) = (-(M (first + many).toNat first.toNat), M first.toNat (first + many).toNat, 0) := run_at hkk hM (by omega) (by omega) (by dsimp only; omega)
 have hb1 := hbest first.toNat (first + many).toNat (by unfold Chain.n; dsimp only; omega) (by unfold Chain.n; dsimp only; omega)
 have hb2 := hbest (first + many).toNat first.toNat (by unfold Chain.n; dsimp only; omega) (by unfold Chain.n; dsimp only; omega)
 have hsr := sumR_split (fun k => xs.getD k 0) first.toNat ((first + many).toNat - first.toNat)
 rw [show first.toNat + ((first + many).toNat - first.toNat) = (first + many).toNat by omega] at hsr
 have hpl := play_ok (e := (⟨up, empty, pull, drag, motor, br⟩ : Esc)) (s := (⟨sp, slo, shi, sfail⟩ : Stp)) (l := ld) hss hhi
 have hhx := hist_all hhi
 have hpb : ∀ q, q < (playI (⟨up, empty, pull, drag, motor, br⟩ : Esc) (⟨sp, slo, shi, sfail⟩ : Stp) sp 0 ld).length → -1000000000000 ≤ (playI (⟨up, empty, pull, drag, motor, br⟩ : Esc) (⟨sp, slo, shi, sfail⟩ : Stp) sp 0 ld).getD q 0 ∧ (playI (⟨up, empty, pull, drag, motor, br⟩ : Esc) (⟨sp, slo, shi, sfail⟩ : Stp) sp 0 ld).getD q 0 ≤ 1000000000000 := fun q hq => by
   rw [play_len] at hq
   have := spd_bd hes hst hhx (q + 1) (by omega)
   rw [play_at hq]
   omega
 have hpn : (playI (⟨up, empty, pull, drag, motor, br⟩ : Esc) (⟨sp, slo, shi, sfail⟩ : Stp) sp 0 ld).length = ld.length := play_len
 replace H := H.keep [3, 4, 5, 7] rfl
 refine seq_list fun K26 k26 => ?_
 refine ls 10 H <| sd ((does_loadBox agg_23 sz_23 rfl S (i := 0) rfl rfl)) <| sf fo_26_1 rfl <| sl S 3 one_24 rfl rfl rfl <| sf fo_38_1 rfl <| sl S 1 one_3 rfl rfl rfl <| sf fo_38_1 rfl <| sl S 1 one_3 rfl rfl rfl <| sf fo_38_2 rfl <| sl S 1 one_3 rfl rfl rfl <| sd (does_add rfl rfl (by unfold i64ok; omega)) <| sE ?_;clear H a;intro a H
 refine list_call H rfl rfl Try.func12 rfl rfl (chain_Run links pitch limit l A cp first (first + many) _ (hl.now S) hn) ?_;clear H a
 rintro _ _ a ⟨rfl, S2⟩ H
 replace S := S.call S2;clear S2
 rw [hrun] at H; simp only [runV] at H
 refine ls 3 H <| sr 3 rfl <| sE ?_;clear H a;intro a H
 refine list_alloc H rfl S ze_31 ?_;clear H a S;intro b12 _ a hb12 hbw12 S H
 refine list_store H S (i := 0) rfl rfl rfl rfl sz_31 rfl rfl ?_
 clear H a S;intro _ a S H
 refine ls 1 H <| sr 1 rfl <| sE ?_;clear H a;intro a H
 refine k26 _ _ ?_;clear k26 K26
 replace H := H.keep [4, 5, 12, 13] rfl
 refine seq_list fun K27 k27 => ?_
 refine ls 4 H <| sf fo_35_0 rfl <| sd ((does_loadBox agg_29 sz_29 rfl S (i := 3) rfl rfl)) <| sf fo_35_1 rfl <| sd ((does_loadBox agg_33 sz_33 rfl S (i := 3) rfl rfl)) <| sE ?_;clear H a;intro a H
 refine list_call H rfl rfl Try.func13 rfl rfl (drv_Distance up empty pull drag motor br BA bcp sp slo shi sfail _ (hb.now S) hbn) ?_;clear H a
 rintro _ _ a ⟨tl, th, rfl, S2⟩ H
 replace S := S.call S2;clear S2
 refine ls 4 H <| sr 4 rfl <| sE ?_;clear H a;intro a H
 refine list_alloc H rfl S ze_31 ?_;clear H a S;intro b14 _ a hb14 hbw14 S H
 refine list_alloc H rfl S ze_31 ?_;clear H a S;intro b15 _ a hb15 hbw15 S H
 refine list_store H S (i := 1) rfl rfl rfl rfl sz_31 rfl rfl ?_
 clear H a S;intro _ a S H
 refine list_store H S (i := 0) rfl rfl rfl rfl sz_31 rfl rfl ?_
 clear H a S;intro _ a S H
 refine ls 1 H <| sr 1 rfl <| sE ?_;clear H a;intro a H
 refine k27 _ _ ?_;clear k27 K27
 replace H := H.keep [4, 5, 12, 13, 14, 16] rfl
 refine seq_list fun K28 k28 => ?_
 refine ls 6 H <| sf fo_35_0 rfl <| sd ((does_loadBox agg_29 sz_29 rfl S (i := 5) rfl rfl)) <| sf fo_35_1 rfl <| sd ((does_loadBox agg_33 sz_33 rfl S (i := 5) rfl rfl)) <| sf fo_38_3 rfl <| sl S 4 one_36 rfl rfl rfl <| sE ?_;clear H a;intro a H
 refine list_call H rfl rfl Try.func14 rfl rfl (ret_imp (drv_Play up empty pull drag motor br BA bcp sp slo shi sfail ld LA lc _ (hb.now S) hbn (hd.now S) hdn) (fun _ _ h => ints_ok hpl h)) ?_;clear H a
 rintro _ _ a ⟨A7, c7, rfl, S2⟩ H
 replace S := S.call S2;clear S2
 refine ls 5 H <| sr 5 rfl <| sE ?_;clear H a;intro a H
 refine k28 _ _ ?_;clear k28 K28
 refine wp_seq_k fun K29 k29 => ?_
 replace H := H.keep [4, 5, 12, 13, 14, 16, 17, 18] rfl
 refine sS H fun K30 k30=>sr 3 rfl <| sg 2 2 202 204 false rfl rfl (fun hg3 => by
     have hq3 := hg3;try simp only [o1,o2,o3,o4,o5,o6,o7,o8,o9,oa] at hq3
     exact sy hg3 <| sr 1 rfl <| sy hg3 <| sr 1 rfl <| sz 2 rfl rfl rfl) <| so rfl rfl rfl <| sr 1 rfl <| sg 6 6 206 212 false rfl rfl (fun hg7 => by
     have hq7 := hg7;try simp only [o1,o2,o3,o4,o5,o6,o7,o8,o9,oa] at hq7
     exact sy hg7 <| sr 1 rfl <| sy hg7 <| sr 1 rfl <| sy hg7 <| sr 1 rfl <| sg 2 9 209 211 true rfl rfl (fun hg10 => by
          have hq10 := hg10;try simp only [o1,o2,o3,o4,o5,o6,o7,o8,o9,oa] at hq10
          exact sy hg10 <| sr 1 rfl <| sy hg10 <| sr 1 rfl <| sz 2 rfl rfl rfl) <| sy hg7 <| sa rfl rfl rfl <| sz 5 rfl rfl rfl) <| so rfl rfl rfl <| sr 1 rfl <| sg 6 14 214 220 false rfl rfl (fun hg15 => by
     have hq15 := hg15;try simp only [o1,o2,o3,o4,o5,o6,o7,o8,o9,oa] at hq15
     exact sy hg15 <| sr 1 rfl <| sy hg15 <| sL sl_36 rfl <| sy hg15 <| sf fo_38_3 rfl <| sy hg15 <| sl S 5 one_36 rfl rfl rfl <| sy hg15 <| sL sl_36 rfl <| sy hg15 <| sr 1 rfl <| sz 6 rfl rfl rfl) <| so rfl rfl rfl <| sE ?_;clear H a;intro a H
 refine k30 _ ?_;clear k30 K30
 refine cond_ H rfl (fun hc6 => ?_) (fun hc6 => ?_)
 ·skip
  try simp only [o1,o2,o3,o4,o5,o6,o7,o8,o9,oa] at hc6
  exfalso; rw [dist_e3 hss, play_len] at hc6; revert hc6; split <;> simp
 try simp only [o1,o2,o3,o4,o5,o6,o7,o8,o9,oa] at hc6
 refine wp_skip ?_
 refine k29 _ _ ?_
 refine wp_seq_k fun K31 k31 => ?_
 replace H := H.keep [4, 5, 12, 14, 16, 17] rfl
 refine sS H fun K32 k32=>sr 2 rfl <| sE ?_;clear H a;intro a H
 refine k32 _ ?_;clear k32 K32
 refine condN H rfl (fun hc7 => ?_) (fun hc7 => ?_)
 ·skip
  refine seq_list fun K33 k33 => ?_
  refine list_call H rfl rfl Try.func10 rfl rfl (top_linked _) ?_;clear H a
  rintro _ _ a ⟨rfl, S2⟩ H
  replace S := S.call S2;clear S2
  refine ls 1 H <| sr 1 rfl <| sE ?_;clear H a;intro a H
  refine k33 _ _ ?_;clear k33 K33
  refine wp_ret ?_
  refine ret1 (fn := Try.f3) rfl H rfl ?_
  exact ⟨rfl, (S.sel [] rfl rfl)⟩
 obtain ⟨hd1, hd2, hd3⟩ := dist_o3 hss hc7
 rw [hd1, hd2] at S
 have hspd : 0 ≤ sp := by have := hst; unfold stpOk at this; simp only [decide_eq_true_eq] at this; omega
 have hr1 := rest_most (n := 100) (l := ld) (t := 0) hes hst (by omega) hspd (Int.le_refl _) (hist_mem hhi)
 have hr2 := fun h => rest_least (n := 100) (l := ld) (t := 0) hes hst (by omega) hspd (Int.le_refl _) (hist_mem hhi) h
 try dsimp only at hr1 hr2
 refine wp_skip ?_
 refine k31 _ _ ?_
 replace H := H.keep [4, 5, 12, 14, 17] rfl
 refine seq_list fun K34 k34 => ?_
 refine ls 4 H <| sf fo_35_1 rfl <| sf fo_33_0 rfl <| sl S 6 one_3 rfl rfl rfl <| sr 1 rfl <| sE ?_;clear H a;intro a H
 refine list_call H rfl rfl Try.func15 rfl rfl (dref_Rest sp _ A7 c7 _ (ownM.inS S (i := 0) rfl) (Nat.le_trans (Nat.le_of_eq play_len) (by omega)) hpb) ?_;clear H a
 rintro _ _ a ⟨⟨n9, rfl⟩, S2⟩ H
 replace S := S.call S2;clear S2
 refine ls 7 H <| sr 7 rfl <| sE ?_;clear H a;intro a H
 refine k34 _ _ ?_;clear k34 K34
 replace H := H.keep [5, 12, 14, 19, 21] rfl
 refine seq_list fun K35 k35 => ?_
 refine ls 9 H <| sf fo_38_0 rfl <| sl S 5 one_36 rfl rfl rfl <| sf fo_38_1 rfl <| sl S 5 one_3 rfl rfl rfl <| sf fo_38_1 rfl <| sl S 5 one_3 rfl rfl rfl <| sf fo_38_2 rfl <| sl S 5 one_3 rfl rfl rfl <| sd (does_add rfl rfl (by unfold i64ok; omega)) <| sE ?_;clear H a;intro a H
 refine list_call H rfl rfl Try.func11 rfl rfl (top_betweenI xs XA xc first (first + many) _ (hx.now S) (by omega) (by omega) (by omega) (by omega) hf) ?_;clear H a
 rintro _ _ a ⟨rfl, S2⟩ H
 replace S := S.call S2;clear S2
 refine ls 1 H <| sr 1 rfl <| sE ?_;clear H a;intro a H
 refine k35 _ _ ?_;clear k35 K35
 refine wp_seq_k fun K36 k36 => ?_
 replace H := H.keep [12, 14, 19, 21, 22] rfl
 refine sS H fun K37 k37=>sf fo_31_0 rfl <| sl S 3 one_3 rfl rfl rfl <| sf fo_31_1 rfl <| sl S 2 one_3 rfl rfl rfl <| sr 2 rfl <| sg 3 5 249 252 true rfl rfl (fun hg6 => by
     have hq6 := hg6;try simp only [o1,o2,o3,o4,o5,o6,o7,o8,o9,oa] at hq6
     exact sy hg6 <| sr 1 rfl <| sy hg6 <| sr 1 rfl <| sy hg6 <| sr 1 rfl <| sz 3 rfl rfl rfl) <| sa rfl rfl rfl <| sE ?_;clear H a;intro a H
 refine k37 _ ?_;clear k37 K37
 refine cond_ H rfl (fun hc8 => ?_) (fun hc8 => ?_)
 ·skip
  try simp only [o1,o2,o3,o4,o5,o6,o7,o8,o9,oa] at hc8
  exfalso; omega
 try simp only [o1,o2,o3,o4,o5,o6,o7,o8,o9,oa] at hc8
 refine wp_skip ?_
 refine k36 _ _ ?_
 replace H := H.keep [12, 14, 19, 21, 22] rfl
 refine seq_list fun K38 k38 => ?_
 refine ls 15 H <| sr 3 rfl <| sg 5 2 256 261 false rfl rfl (fun hg3 => by
     have hq3 := hg3;try simp only [o1,o2,o3,o4,o5,o6,o7,o8,o9,oa] at hq3
     exact sy hg3 <| sf fo_31_1 rfl <| sy hg3 <| sl S 3 one_3 rfl rfl rfl <| sy hg3 <| sf fo_31_0 rfl <| sy hg3 <| sl S 2 one_3 rfl rfl rfl <| sy hg3 <| sr 1 rfl <| sz 5 rfl rfl rfl) <| so rfl rfl rfl <| sr 1 rfl <| sg 3 9 263 266 false rfl rfl (fun hg10 => by
     have hq10 := hg10;try simp only [o1,o2,o3,o4,o5,o6,o7,o8,o9,oa] at hq10
     exact sy hg10 <| sr 1 rfl <| sy hg10 <| sr 1 rfl <| sy hg10 <| sr 1 rfl <| sz 3 rfl rfl rfl) <| so rfl rfl rfl <| sr 1 rfl <| sE ?_;clear H a;intro a H
 apply list_guard (i := 14) (g := 268) (t := 269) (b := true) 1 H S rfl rfl (by kernel_rfl) (by kernel_rfl) rfl rfl
 case h1 =>
  intro hg15
  have hq15 := hg15; try simp only [o1,o2,o3,o4,o5,o6,o7,o8,o9,oa] at hq15
  refine list_yes' H rfl rfl (by assumption) ?_
  refine list_call H rfl rfl Try.func10 rfl rfl (top_linked _) ?_
  rintro _ _ a ⟨rfl, S2⟩ H
  replace S := S.call S2;clear S2
  exact wpList_nil ⟨H.strip 1 rfl rfl, (S.sel [0, 1, 2, 3, 4, 5, 6, 7] rfl rfl)⟩
 clear H a S;intro a _ H S
 refine ls 2 H <| sa rfl rfl rfl <| sr 1 rfl <| sE ?_;clear H a;intro a H
 refine k38 _ _ ?_;clear k38 K38
 refine wp_ret ?_
 refine ret1 (fn := Try.f3) rfl H rfl ?_
 refine ⟨congrArg Value.bool ?_, (S.sel [] rfl rfl)⟩
 rw [Bool.and_true]
 dsimp only
 simp only [o1, o3, o7]
 rcases Bool.eq_false_or_eq_true (restI sp (playI (⟨up, empty, pull, drag, motor, br⟩ : Esc) (⟨sp, slo, shi, sfail⟩ : Stp) sp 0 ld)).2 with h | h
 · have h9 := hr2 h
   by_cases h7 : (goI (⟨up, empty, pull, drag, motor, br⟩ : Esc) (⟨sp, slo, shi, sfail⟩ : Stp) false 100 sp 0).1 < M first.toNat (first + many).toNat
   · exact .inl (.inr h7)
   · refine .inr ?_
     omega
 · exact .inl (.inl h)

end Go.Proofs.Ytdfjdkhgdmndjaa
