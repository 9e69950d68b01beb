/- WyE. Printed by gen.py. -/
import Derived.Test.YtopmadlgolnmfaaWyC
import Derived.Test.YtopmadlgolnmfaaE2
import Derived.Test.YtopmadlgolnmfaaE4
namespace Go.Proofs.Ytopmadlgolnmfaa
open Go.RowKit
set_option linter.unusedVariables false
set_option linter.unusedSimpArgs false
set_option maxRecDepth 100000
set_option maxHeartbeats 4000000


theorem seven {p : Nat → Prop} (h0 : p 0) (h1 : p 1) (h2 : p 2) (h3 : p 3) (h4 : p 4) (h5 : p 5) (h6 : p 6) : ∀ j, j < 7 → p j := by
  intro j hj
  match j, hj with
  | 0, _ => exact h0
  | 1, _ => exact h1
  | 2, _ => exact h2
  | 3, _ => exact h3
  | 4, _ => exact h4
  | 5, _ => exact h5
  | 6, _ => exact h6
theorem snoc_len {T : Tab} {f : Nat} {e : Ent} (q : Nat) : upd (tlen T) f (tlen T f + 1) q = tlen (upd T f (T f ++ [e])) q := by
  unfold tlen upd
  split <;> simp
theorem len_snoc {T : Tab} {f : Nat} {e : Ent} : ((tlen (upd T f (T f ++ [e])) f : Nat) : Int) = ((T f).length : Int) + 1 := by
  unfold tlen
  rw [upd_same, List.length_append]
  simp
theorem tlen_ne {T : Tab} {f t : Nat} {l : List Ent} (h : f ≠ t) : tlen (upd T f l) t = tlen T t := by unfold tlen; rw [upd_ne _ _ (fun e => h e.symm)]
theorem joinT_eq {T : Tab} {f t : Nat} {room : Int} {mv : Mv} (h : f ≠ t) : joinT T f t room mv = upd (upd T f (T f ++ [⟨t, room, (T t).length, mv⟩])) t ((upd T f (T f ++ [⟨t, room, (T t).length, mv⟩])) t ++ [⟨f, 0, (T f).length, Mv.none⟩]) := by
  unfold joinT
  rw [upd_ne (i := t) _ _ (fun e => h e.symm)]
theorem snoc_cells {T : Tab} {f : Nat} {e : Ent} {vs : List Value} (h : ∀ j, j < 7 → vs.getD j undef = e.cell j) : ∀ i k j, k < upd (tlen T) f (tlen T f + 1) i → j < 7 →
    upd (tcell T) f (capp (tlen T f) (tcell T f) (fun k' j => ([vs].getD k' []).getD j undef)) i k j = tcell (upd T f (T f ++ [e])) i k j := by
  intro i k j hk hj
  by_cases hi : i = f
  · subst hi
    rw [upd_same] at hk ⊢
    unfold capp tcell
    rw [upd_same]
    unfold tlen at hk ⊢
    by_cases h1 : k < (T i).length
    · rw [if_pos h1, List.getD_eq_getElem?_getD, List.getD_eq_getElem?_getD, List.getElem?_append_left h1]
    · have h2 : k = (T i).length := by omega
      subst h2
      rw [if_neg h1, Nat.sub_self]
      rw [List.getD_eq_getElem?_getD (l := T i ++ [e]), List.getElem?_append_right (Nat.le_refl _), Nat.sub_self]
      exact h j hj
  · rw [upd_ne _ _ hi] at hk ⊢
    unfold tcell
    rw [upd_ne _ _ hi]
theorem hd_put {T : Tab} {f : Nat} {e : Ent} {A : Nat → Option Addr} {c : Nat → Nat} {A1 : Option Addr} {c1 : Nat} : ∀ k j, j < 1 → cput (hdc A (tlen T) c) f 0 (.slice A1 (tlen T f + 1) c1) k j = hdc (upd A f A1) (tlen (upd T f (T f ++ [e]))) (upd c f c1) k j := by
  intro k j hj
  have : j = 0 := by omega
  subst this
  unfold cput hdc
  rw [← snoc_len]
  by_cases h : k = f
  · subst h; simp [upd_same]
  · simp [upd_ne _ _ h, h]
theorem has_take {l : List Int} {x : Int} {k : Nat} (hk : k < l.length) (h : (l.take k).any (fun y => decide (x = y)) = false) (hx : ¬ x = l.getD k 0) : (l.take (k + 1)).any (fun y => decide (x = y)) = false := by
  rw [List.take_succ_eq_append_getElem hk, List.any_append, h]
  rw [List.getD_eq_getElem?_getD, List.getElem?_eq_getElem hk] at hx
  simpa using hx
theorem has_at {l : List Int} {x : Int} {k : Nat} (hk : k < l.length) (hx : x = l.getD k 0) : hasI l x = true := by
  rw [List.getD_eq_getElem?_getD, List.getElem?_eq_getElem hk] at hx
  unfold hasI
  rw [List.any_eq_true]
  exact ⟨l[k], List.getElem_mem hk, by simpa using hx⟩


theorem net_join (T : Tab) (k nb : Nat) (pl tk : Int) (st1 st2 : Value) (EA : Option Addr) (A : Nat → Option Addr) (c : Nat → Nat) (b x : Nat) (f t : Nat) (room m1 m2 m3 m4 : Int) (w : World) (F : Nat → Prop) (S : St w F [boxM nb 157 [.int .i64 pl, st1, st2, .int .i64 tk, .slice EA k k, .int .i64 (b : Int), .int .i64 (x : Int)], ownM 175 1 EA k k (hdc A (tlen T) c), ragM 177 7 (fun q => q < k) A (tlen T) c (tcell T)] w) (hf : f < k) (ht : t < k) (hft : f ≠ t) (hlen : ∀ i, i < k → (T i).length ≤ 1000000) :
    Calls Try.prog 88 [.pointer (some ⟨nb, 0, none⟩), .int .i64 (f : Int), .int .i64 (t : Int), .int .i64 room, .agg [.int .i64 m1, .int .i64 m2, .int .i64 m3, .int .i64 m4].toArray].toArray w (Ret (fun u w' => u = .tuple #[] ∧ ∃ A' c', St w F [boxM nb 157 [.int .i64 pl, st1, st2, .int .i64 tk, .slice EA k k, .int .i64 (b : Int), .int .i64 (x : Int)], ownM 175 1 EA k k (hdc A' (tlen (joinT T f t room ⟨m1, m2, m3, m4⟩)) c'), ragM 177 7 (fun q => q < k) A' (tlen (joinT T f t room ⟨m1, m2, m3, m4⟩)) c' (tcell (joinT T f t room ⟨m1, m2, m3, m4⟩))] w')) := by
 refine enter Try.func88 rfl Try.ntmps88 rfl (fun a H => ?_)
 skip
 refine seq_list fun K1 k1 => ?_
 refine list_box H rfl S rfl rfl ?_;clear H a S;intro b9 _ a hb9 hbw9 S H
 refine k1 _ _ ?_;clear k1 K1
 replace H := H.keep [0, 1, 2, 3, 9] rfl
 replace S := S.drew
 refine seq_wt 27 (.p 0 (.p 1 (.p 2 (.q 3 (.p 4 (.p 5 (.p 6 (.p 7 (.q 8 (.p 9 (.p 10 (.q 11 (.p 12 (.p 13 (.p 14 (.p 15 (.p 16 (.q 17 (.p 18 (.p 19 (.q 20 (.p 21 (.q 22 (.p 23 (.e 24 (.e 25 (.p 26 (.e 27 .nil)))))))))))))))))))))))))))) (by kernel_rfl) (by kernel_rfl) (S.sel [0, 1, 2] rfl rfl) fun K2 k2 => ?_
 refine wt_pure H rfl rfl (fun _ => does_move rfl) ?_;clear H a;intro a H
 refine wt_pure H rfl rfl (fun _ => does_nilCheck rfl) ?_;clear H a;intro a H
 refine wt_pure H rfl rfl (fun _ => (does_field fo_157_2 rfl)) ?_;clear H a;intro a H
 refine wt_does H rfl rfl (fun _ S => does_load one_155 rfl (boxM.rd S (i := 1) rfl rfl)) ?_;clear H a;intro a H
 refine wt_pure H rfl rfl (fun _ => does_move rfl) ?_;clear H a;intro a H
 refine wt_pure H rfl rfl (fun _ => does_move rfl) ?_;clear H a;intro a H
 refine wt_pure H rfl rfl (fun _ => does_nilCheck rfl) ?_;clear H a;intro a H
 refine wt_pure H rfl rfl (fun _ => (does_field fo_157_2 rfl)) ?_;clear H a;intro a H
 refine wt_does H rfl rfl (fun _ S => does_load one_155 rfl (boxM.rd S (i := 1) rfl rfl)) ?_;clear H a;intro a H
 refine wt_pure H rfl rfl (fun _ => does_move rfl) ?_;clear H a;intro a H
 refine wt_pure H rfl rfl (fun _ => does_indexN sl_155 sz_175 rfl rfl (ownM.adr S (i := 2) rfl (by omega)) (by omega)) ?_;clear H a;intro a H
 refine wt_does H rfl rfl (fun _ S => does_load one_175 rfl (ownM.rd S (i := 2) rfl (by omega) (by omega))) ?_;clear H a;intro a H
 refine wt_pure H rfl rfl (fun _ => does_move rfl) ?_;clear H a;intro a H
 refine wt_pure H rfl rfl (fun _ => does_move rfl) ?_;clear H a;intro a H
 refine wt_pure H rfl rfl (fun _ => does_move rfl) ?_;clear H a;intro a H
 refine wt_pure H rfl rfl (fun _ => does_nilCheck rfl) ?_;clear H a;intro a H
 refine wt_pure H rfl rfl (fun _ => (does_field fo_157_2 rfl)) ?_;clear H a;intro a H
 refine wt_does H rfl rfl (fun _ S => does_load one_155 rfl (boxM.rd S (i := 1) rfl rfl)) ?_;clear H a;intro a H
 refine wt_pure H rfl rfl (fun _ => does_move rfl) ?_;clear H a;intro a H
 refine wt_pure H rfl rfl (fun _ => does_indexN sl_155 sz_175 rfl rfl (ownM.adr S (i := 2) rfl (by omega)) (by omega)) ?_;clear H a;intro a H
 refine wt_does H rfl rfl (fun _ S => does_load one_175 rfl (ownM.rd S (i := 2) rfl (by omega) (by omega))) ?_;clear H a;intro a H
 refine wt_pure H rfl rfl (fun _ => does_len sl_175 rfl) ?_;clear H a;intro a H
 refine wt_does H rfl rfl (fun _ S => (does_loadBox agg_159 sz_159 rfl S (i := 0) rfl rfl)) ?_;clear H a;intro a H
 refine wt_pure H rfl rfl (fun _ => does_build bt_177 rfl rfl) ?_;clear H a;intro a H
 refine wt_eff rfl ?_
 refine list_build' H rfl S sl_175 sz_177 ze_177 rfl rfl rfl rfl rfl rfl rfl rfl rfl ?_;clear H a S;intro A1 _ a hA1 S H
 refine wpList_nil (And.intro (Or.inr (S.sel [1, 2, 3] rfl rfl)) ?_)
 refine wt_eff rfl ?_
 replace S := ragM.pull S (i := 4) rfl hf
 refine list_append H rfl S sl_175 sz_177 ze_177 by_177 rfl rfl (i := 0) rfl rfl rfl (ownM.inS S (i := 0 + 1) rfl) (w8one_vs (seven rfl rfl rfl rfl rfl rfl rfl)) (by have := hlen f hf; have h9 : tlen T f = (T f).length := rfl; omega) (by have := hlen f hf; have h9 : tlen T f = (T f).length := rfl; omega) ?_;clear H a S;intro Af cf _ a S H
 replace S := ragM.put S (i := 4) (p := f) rfl hf
 replace S := ragM.congr S (i := 4) rfl (n' := tlen (upd T f (T f ++ [⟨t, room, (T t).length, ⟨m1, m2, m3, m4⟩⟩]))) (cell' := tcell (upd T f (T f ++ [⟨t, room, (T t).length, ⟨m1, m2, m3, m4⟩⟩]))) (fun _ _ => rfl) (fun q _ => snoc_len q) (fun _ _ => rfl) (fun i _ => snoc_cells (seven rfl rfl rfl rfl rfl rfl rfl) i)
 refine wpList_nil (And.intro (Or.inr (S.sel [1, 2, 3] rfl rfl)) ?_)
 refine wt_pure H rfl rfl (fun _ => does_indexN sl_155 sz_175 rfl rfl (ownM.adr S (i := 3) rfl (by omega)) (by omega)) ?_;clear H a;intro a H
 refine wt_eff rfl ?_
 refine list_store_own H S (i := 3) rfl rfl rfl (by omega) (by omega) sz_175 rfl ?_
 clear H a S;intro _ a S H
 replace S := S.recell (i := 3) rfl (cell' := hdc (upd A f Af) (tlen (upd T f (T f ++ [⟨t, room, (T t).length, ⟨m1, m2, m3, m4⟩⟩]))) (upd c f cf)) (fun k j hk hj => hd_put k j hj)
 refine wpList_nil (And.intro (Or.inl rfl) ?_)
 refine wt_nil ?_
 refine k2 _ _ ?_
 clear k2 K2
 replace H := H.keep [0, 1, 2] rfl
 replace S := S.drew
 refine one_wt 27 (.p 0 (.p 1 (.p 2 (.q 3 (.p 4 (.p 5 (.p 6 (.p 7 (.q 8 (.p 9 (.p 10 (.q 11 (.p 12 (.p 13 (.p 14 (.p 15 (.q 16 (.p 17 (.p 18 (.q 19 (.p 20 (.p 21 (.p 22 (.p 23 (.e 24 (.e 25 (.p 26 (.e 27 .nil)))))))))))))))))))))))))))) (by kernel_rfl) (by kernel_rfl) (S.sel [0, 1, 2, 3] rfl rfl) ?_
 refine wt_pure H rfl rfl (fun _ => does_move rfl) ?_;clear H a;intro a H
 refine wt_pure H rfl rfl (fun _ => does_nilCheck rfl) ?_;clear H a;intro a H
 refine wt_pure H rfl rfl (fun _ => (does_field fo_157_2 rfl)) ?_;clear H a;intro a H
 refine wt_does H rfl rfl (fun _ S => does_load one_155 rfl (boxM.rd S (i := 2) rfl rfl)) ?_;clear H a;intro a H
 refine wt_pure H rfl rfl (fun _ => does_move rfl) ?_;clear H a;intro a H
 refine wt_pure H rfl rfl (fun _ => does_move rfl) ?_;clear H a;intro a H
 refine wt_pure H rfl rfl (fun _ => does_nilCheck rfl) ?_;clear H a;intro a H
 refine wt_pure H rfl rfl (fun _ => (does_field fo_157_2 rfl)) ?_;clear H a;intro a H
 refine wt_does H rfl rfl (fun _ S => does_load one_155 rfl (boxM.rd S (i := 2) rfl rfl)) ?_;clear H a;intro a H
 refine wt_pure H rfl rfl (fun _ => does_move rfl) ?_;clear H a;intro a H
 refine wt_pure H rfl rfl (fun _ => does_indexN sl_155 sz_175 rfl rfl (ownM.adr S (i := 3) rfl (by omega)) (by omega)) ?_;clear H a;intro a H
 refine wt_does H rfl rfl (fun _ S => does_load one_175 rfl (ownM.rd S (i := 3) rfl (by omega) (by omega))) ?_;clear H a;intro a H
 refine wt_pure H rfl rfl (fun _ => does_move rfl) ?_;clear H a;intro a H
 refine wt_pure H rfl rfl (fun _ => does_move rfl) ?_;clear H a;intro a H
 refine wt_pure H rfl rfl (fun _ => does_nilCheck rfl) ?_;clear H a;intro a H
 refine wt_pure H rfl rfl (fun _ => (does_field fo_157_2 rfl)) ?_;clear H a;intro a H
 refine wt_does H rfl rfl (fun _ S => does_load one_155 rfl (boxM.rd S (i := 2) rfl rfl)) ?_;clear H a;intro a H
 refine wt_pure H rfl rfl (fun _ => does_move rfl) ?_;clear H a;intro a H
 refine wt_pure H rfl rfl (fun _ => does_indexN sl_155 sz_175 rfl rfl (ownM.adr S (i := 3) rfl (by omega)) (by omega)) ?_;clear H a;intro a H
 refine wt_does H rfl rfl (fun _ S => does_load one_175 rfl (ownM.rd S (i := 3) rfl (by omega) (by omega))) ?_;clear H a;intro a H
 refine wt_pure H rfl rfl (fun _ => does_len sl_175 rfl) ?_;clear H a;intro a H
 refine wt_pure H rfl rfl (fun _ => (does_sub rfl rfl (by rw [len_snoc]; have := hlen f hf; unfold i64ok; omega)).to (v' := .int .i64 ((T f).length : Int)) (by rw [len_snoc]; congr 1; omega)) ?_;clear H a;intro a H
 refine wt_pure H rfl rfl (fun _ => does_build bt_159 rfl rfl) ?_;clear H a;intro a H
 refine wt_pure H rfl rfl (fun _ => does_build bt_177 rfl rfl) ?_;clear H a;intro a H
 refine wt_eff rfl ?_
 refine list_build' H rfl S sl_175 sz_177 ze_177 rfl rfl rfl rfl rfl rfl rfl rfl rfl ?_;clear H a S;intro A2 _ a hA2 S H
 refine wpList_nil (And.intro (Or.inr (S.sel [1, 2, 3, 4] rfl rfl)) ?_)
 refine wt_eff rfl ?_
 replace S := ragM.pull S (i := 5) rfl ht
 refine list_append H rfl S sl_175 sz_177 ze_177 by_177 rfl rfl (i := 0) rfl rfl rfl (ownM.inS S (i := 0 + 1) rfl) (w8one_vs (seven rfl rfl rfl rfl rfl rfl rfl)) (by have := hlen t ht; rw [tlen_ne hft]; have h9 : tlen T t = (T t).length := rfl; omega) (by have := hlen t ht; rw [tlen_ne hft]; have h9 : tlen T t = (T t).length := rfl; omega) ?_;clear H a S;intro At ct _ a S H
 replace S := ragM.put S (i := 5) (p := t) rfl ht
 replace S := ragM.congr S (i := 5) rfl (n' := tlen (upd (upd T f (T f ++ [⟨t, room, (T t).length, ⟨m1, m2, m3, m4⟩⟩])) t ((upd T f (T f ++ [⟨t, room, (T t).length, ⟨m1, m2, m3, m4⟩⟩])) t ++ [⟨f, 0, (T f).length, Mv.none⟩]))) (cell' := tcell (upd (upd T f (T f ++ [⟨t, room, (T t).length, ⟨m1, m2, m3, m4⟩⟩])) t ((upd T f (T f ++ [⟨t, room, (T t).length, ⟨m1, m2, m3, m4⟩⟩])) t ++ [⟨f, 0, (T f).length, Mv.none⟩]))) (fun _ _ => rfl) (fun q _ => snoc_len q) (fun _ _ => rfl) (fun i _ => snoc_cells (seven rfl rfl rfl rfl rfl rfl rfl) i)
 refine wpList_nil (And.intro (Or.inr (S.sel [1, 2, 3, 4] rfl rfl)) ?_)
 refine wt_pure H rfl rfl (fun _ => does_indexN sl_155 sz_175 rfl rfl (ownM.adr S (i := 4) rfl (by omega)) (by omega)) ?_;clear H a;intro a H
 refine wt_eff rfl ?_
 refine list_store_own H S (i := 4) rfl rfl rfl (by omega) (by omega) sz_175 rfl ?_
 clear H a S;intro _ a S H
 replace S := S.recell (i := 4) rfl (cell' := hdc (upd (upd A f Af) t At) (tlen (upd (upd T f (T f ++ [⟨t, room, (T t).length, ⟨m1, m2, m3, m4⟩⟩])) t ((upd T f (T f ++ [⟨t, room, (T t).length, ⟨m1, m2, m3, m4⟩⟩])) t ++ [⟨f, 0, (T f).length, Mv.none⟩]))) (upd (upd c f cf) t ct)) (fun k j hk hj => hd_put k j hj)
 refine wpList_nil (And.intro (Or.inl rfl) ?_)
 refine wt_nil ?_
 refine ret0 (fn := Try.f88) rfl H ?_
 rw [joinT_eq hft]
 exact ⟨rfl, _, _, (S.sel [3, 4, 5] rfl rfl)⟩

theorem slices_Index (l : List Int) (A : Option Addr) (cp : Nat) (x : Int) (w : World) (hl : InS w noF 1 A l.length (icl l)) (hn : l.length ≤ 9223372036854775807) :
    Calls Try.prog 103 [.slice A l.length cp, .int .i64 x].toArray w (Ret (fun u w' => ∃ n : Int, u = .int .i64 n ∧ decide (0 ≤ n) = hasI l x ∧ St w noF [] w')) := by
 refine enter Try.func103 rfl Try.ntmps103 rfl (fun a H => ?_)
 have S := St.start w
 refine sS H fun K1 k1=>sr 1 rfl <| sE ?_;clear H a;intro a H
 refine k1 _ ?_;clear k1 K1
 refine wp_seq_k fun K2 k2 => ?_
 refine sS H fun K3 k3=>sr 1 rfl <| sL sl_23 rfl <| sr 1 rfl <| sE ?_;clear H a;intro a H
 refine k3 _ ?_;clear k3 K3
 refine wp_block ?_
 refine loop_st (X := Nat) (R0 := _) [0, 1, 7] H rfl (fun k => [(8, .int .i64 (k : Int))]) (fun k => []) (fun g k => k ≤ l.length ∧ g + k = l.length ∧ (l.take k).any (fun y => decide (x = y)) = false) (l.length) 0 ?_ (S.sel [] rfl rfl) (H.keep [8, 0, 1, 7] rfl) ?_
 · exact ⟨by omega, by omega, rfl⟩
 clear H S a
 intro g1 x1 a w1 hp S H K4 k4
 obtain ⟨k, rfl⟩ : ∃ y, y = x1 := ⟨_, rfl⟩
 refine sS H fun K5 k5=>sr 1 rfl <| sE ?_;clear H a;intro a H
 refine k5 _ ?_;clear k5 K5
 refine wp_seq_k fun K6 k6 => ?_
 refine condL H rfl (fun hc1 => ?_) (fun hc1 => ?_)
 ·skip
  refine wp_skip ?_
  refine k6 _ _ ?_
  refine wp_seq_k fun K7 k7 => ?_
  refine wp_block ?_
  refine sS H fun K8 k8=>sr 2 rfl <| sE ?_;clear H a;intro a H
  refine k8 _ ?_;clear k8 K8
  refine sS H fun K9 k9=>sr 3 rfl <| si sl_23 sz_3 rfl rfl (hl.adr (by omega)) (by omega) <| slm one_3 rfl (hl.rd S (by omega) (by omega)) <| sr 1 rfl <| sE ?_;clear H a;intro a H
  refine k9 _ ?_;clear k9 K9
  refine condE H rfl (fun hc2 => ?_) (fun hc2 => ?_)
  ·skip
   replace H := H.keep [5] rfl
   refine sS H fun K10 k10=>sr 2 rfl <| sE ?_;clear H a;intro a H
   refine k10 _ ?_;clear k10 K10
   refine wp_ret ?_
   refine ret1 (fn := Try.f103) rfl H rfl ?_
   exact ⟨_, rfl, by rw [has_at (k := k) (by omega) hc2]; exact decide_eq_true (by omega), (S.sel [] rfl rfl)⟩
  refine wp_skip ?_
  refine k7 _ _ ?_
  refine sO H <| sd (does_add rfl rfl (by unfold i64ok; omega)) <| sr 1 rfl <| sE ?_;clear H a;intro a H
  exact k4 (g1 - 1) (k + 1) a _ (by omega) (⟨by omega, by omega, has_take (by omega) hp.2.2 hc2⟩) (S.sel [] rfl rfl) (H.keep [8, 0, 1, 7] rfl)
 refine wp_exit ?_
 refine k2 _ _ ?_
 refine sS H fun K12 k12=>sr 1 rfl <| sE ?_;clear H a;intro a H
 refine k12 _ ?_;clear k12 K12
 refine wp_ret ?_
 refine ret1 (fn := Try.f103) rfl H rfl ?_
 exact ⟨_, rfl, by unfold hasI; rw [← List.take_of_length_le (l := l) (i := k) (by omega), hp.2.2]; rfl, (S.sel [] rfl rfl)⟩

theorem slices_Contains (l : List Int) (A : Option Addr) (cp : Nat) (x : Int) (w : World) (hl : InS w noF 1 A l.length (icl l)) (hn : l.length ≤ 9223372036854775807) :
    Calls Try.prog 90 [.slice A l.length cp, .int .i64 x].toArray w (Ret (fun u w' => u = .bool (hasI l x) ∧ St w noF [] w')) := by
 refine enter Try.func90 rfl Try.ntmps90 rfl (fun a H => ?_)
 have S := St.start w
 refine sS H fun K1 k1=>sr 1 rfl <| sE ?_;clear H a;intro a H
 refine k1 _ ?_;clear k1 K1
 refine seq_list fun K2 k2 => ?_
 refine ls 2 H <| sr 2 rfl <| sE ?_;clear H a;intro a H
 refine list_call H rfl rfl Try.func103 rfl rfl (slices_Index l A cp x _ (hl.now S) hn) ?_;clear H a
 rintro _ _ a ⟨n, rfl, hn2, S2⟩ H
 replace S := S.call S2;clear S2
 refine ls 2 H <| sr 2 rfl <| sE ?_;clear H a;intro a H
 refine k2 _ _ ?_;clear k2 K2
 refine wp_ret ?_
 refine ret1 (fn := Try.f90) rfl H rfl ?_
 exact ⟨congrArg Value.bool hn2, (S.sel [] rfl rfl)⟩

end Go.Proofs.Ytopmadlgolnmfaa
