/- Lib. Printed by gen.py. -/
import Derived.Test.YtopmadlgolnmfaaFacts
import Derived.Test.YtopmadlgolnmfaaE2
import Derived.Test.YtopmadlgolnmfaaShelf
namespace Go.Proofs.Ytopmadlgolnmfaa
open Go.RowKit
set_option linter.unusedVariables false
set_option linter.unusedSimpArgs false
set_option maxRecDepth 100000
set_option maxHeartbeats 4000000


theorem w8bits_Mul1 (n : Nat) (hn : n ≤ 1000000) (w : World) : Calls Try.prog 109 #[.int .u64 (((1 : Nat) : Int)), .int .u64 ((n : Nat) : Int)] w (Ret fun u w' => u = .tuple #[.int .u64 0, .int .u64 (n : Int)] ∧ w' = w) := by
  refine Calls.mono (Try.bits_Mul 1 n (by omega) (by omega) w) fun e w' h => ?_
  obtain ⟨rfl, rfl⟩ := h
  refine ⟨?_, rfl⟩
  have h1 : 1 * n / 18446744073709551616 = 0 := by omega
  have h2 : 1 * n % 18446744073709551616 = n := by omega
  rw [h1, h2]
  rfl
theorem ownM.w8some' {w0 w : World} {F0 : Nat → Prop} {R : List Mem} {e sz n c i : Nat} {A : Option Addr} {cell : Nat → Nat → Value} (S : St w0 F0 R w) (hi : R[i]? = some (ownM e sz A n c cell)) (hn : 0 < n) : ∃ b, A = some ⟨b, 0, none⟩ := by
  rcases S.holds hi with ⟨_, h, _⟩ | ⟨b, cs, h, _⟩
  · omega
  · exact ⟨b, h⟩
theorem w8getD1 {v : Value} {j : Nat} (h : j < 1) : [v].getD j undef = v := by
  have : j = 0 := by omega
  subst this; rfl
theorem w8cutA1 (b c lo : Nat) (h : ¬ c = lo) : cutA (some ⟨b, 0, none⟩) c lo 1 = some ⟨b, lo, none⟩ := by simp [cutA, h, add_lit]


theorem w8ret_imp {P : Program} {f : Nat} {vs : Array Value} {w : World} {R R' : Value → World → Prop} (h : Calls P f vs w (Ret R)) (k : ∀ v w', R v w' → R' v w') : Calls P f vs w (Ret R') := Calls.mono h fun e w' he => by
  cases e with
  | returned v => exact k v w' he
  | _ => exact he
theorem w8getD2 {v : Value} {j k : Nat} (hk : k < 1) (h : j < 1) : ([[v]].getD k []).getD j undef = v := by
  have h1 : j = 0 := by omega
  have h2 : k = 0 := by omega
  subst h1; subst h2; rfl
theorem w8one {p : Nat → Prop} (h0 : p 0) : ∀ j, j < 1 → p j := by
  intro j hj
  have : j = 0 := by omega
  subst this
  exact h0
theorem w8one_vs {sz : Nat} {vs : List Value} (h : ∀ j, j < sz → (vs.getD j undef).oneCell' = true) : ∀ k j, k < 1 → j < sz → (([vs].getD k []).getD j undef).oneCell' = true := by
  intro k j hk hj
  have e : k = 0 := by omega
  subst e
  exact h j hj


theorem w8slices_Repeat (A : Option Addr) (cp : Nat) (v : Int) (n : Nat) (w : World) (hl : InS w noF 1 A 1 (fun _ _ => .int .i64 v)) (h0 : 0 < n) (hn : n ≤ 1000000) :
    Calls Try.prog 105 [.slice A 1 cp, .int .i64 (n : Int)].toArray w (Ret (fun u w' => ∃ b, u = .slice (some ⟨b, 0, none⟩) n n ∧ St w noF [ownM 3 1 (some ⟨b, 0, none⟩) n n (fun _ _ => .int .i64 v)] w')) := by
 refine enter Try.func105 rfl Try.ntmps105 rfl (fun a H => ?_)
 have S := St.start w
 refine sS H fun K1 k1=>sr 1 rfl <| sE ?_;clear H a;intro a H
 refine k1 _ ?_;clear k1 K1
 refine wp_seq_k fun K2 k2 => ?_
 refine sS H fun K3 k3=>sr 2 rfl <| sE ?_;clear H a;intro a H
 refine k3 _ ?_;clear k3 K3
 refine condL H rfl (fun hc1 => ?_) (fun hc1 => ?_)
 ·skip
  exfalso; omega
 refine wp_skip ?_
 refine k2 _ _ ?_
 replace H := H.keep [0, 1] rfl
 refine sS H fun K4 k4=>sr 1 rfl <| sL sl_23 rfl <| sd (does_convert Try.underlying3 Try.underlying66 rfl (by exact u64_in (by omega))) <| sr 1 rfl <| sd (does_convert Try.underlying3 Try.underlying66 rfl (by exact u64_in (by omega))) <| sc rfl Try.func109 rfl rfl (w8bits_Mul1 n hn _) <| sr 5 rfl <| sE ?_;clear H a;intro a H
 refine k4 _ ?_;clear k4 K4
 refine wp_seq_k fun K5 k5 => ?_
 replace H := H.keep [0, 5, 6] rfl
 refine sS H fun K6 k6=>sr 1 rfl <| sd (does_gtr rfl rfl) <| sr 1 rfl <| sg 2 2 23 25 false rfl rfl (fun hg3 => sy hg3 <| sr 1 rfl <| sy hg3 <| sd (does_gtr rfl rfl) <| sz 2 rfl rfl rfl) <| so rfl rfl rfl <| sE ?_;clear H a;intro a H
 refine k6 _ ?_;clear k6 K6
 refine cond_ H rfl (fun hc2 => ?_) (fun hc2 => ?_)
 ·skip
  try simp only [o1,o2,o3,o4,o5,o6,o7,o8,o9,oa] at hc2
  exfalso; omega
 try simp only [o1,o2,o3,o4,o5,o6,o7,o8,o9,oa] at hc2
 refine wp_skip ?_
 refine k5 _ _ ?_
 replace H := H.keep [0, 6] rfl
 refine seq_list fun K7 k7 => ?_
 refine ls 2 H <| sr 1 rfl <| sd (does_convert Try.underlying66 Try.underlying3 rfl (by exact IntWalk.i64_in _ (by omega))) <| sE ?_;clear H a;intro a H
 refine list_make (n := _) H rfl S sl_23 sz_3 ze_3 by_3 rfl (by decide) rfl rfl (by omega) (by omega) ?_;clear H a S;intro A1 _ a hA1 S H
 obtain ⟨b, rfl⟩ := ownM.w8some' S (i := 0) rfl h0
 replace S := S.recell (i := 0) rfl (cell' := fun i _ => if i < 0 then .int .i64 v else .int .i64 0) (fun k j _ hj => by rw [if_neg (by omega)]; exact w8getD1 hj)
 refine ls 1 H <| sr 1 rfl <| sE ?_;clear H a;intro a H
 refine k7 _ _ ?_;clear k7 K7
 refine seq_list fun K8 k8 => ?_
 refine ls 2 H <| sr 2 rfl <| sE ?_;clear H a;intro a H
 refine list_copy H rfl S sl_23 sz_3 (i := 0) (lo := 0) rfl rfl rfl (fun h => by cases h) rfl (hl.now S) (by omega) (fun _ _ _ _ => rfl) (by omega) ?_; clear H a S; intro _ a S H
 replace S := S.recell (i := 0) rfl (cell' := fun i _ => if i < 1 then .int .i64 v else .int .i64 0) (fun k j hk _ => by (try dsimp only); rw [Nat.min_eq_left (by omega)]; (repeat' split) <;> first | rfl | (exfalso; omega))
 rw [Nat.min_eq_left (by omega)] at H
 refine ls 1 H <| sr 1 rfl <| sE ?_;clear H a;intro a H
 refine k8 _ _ ?_;clear k8 K8
 refine wp_seq_k fun K9 k9 => ?_
 refine wp_block ?_
 refine loop_st (X := Nat) (R0 := _) [7] H rfl (fun k => [(8, .int .i64 (k : Int))]) (fun k => [ownM 3 1 (some ⟨b, 0, none⟩) n n (fun i _ => if i < k then .int .i64 v else .int .i64 0)]) (fun g k => 0 < k ∧ k ≤ n ∧ g + k = n) (n - 1) 1 ?_ (S.sel [0] rfl rfl) (H.keep [8, 7] rfl) ?_
 · exact ⟨by omega, by omega, by omega⟩
 clear H S a
 intro g1 x1 a w1 hp S H K10 k10
 obtain ⟨k, rfl⟩ : ∃ y, y = x1 := ⟨_, rfl⟩
 refine wp_seq_k fun K11 k11 => ?_
 refine sS H fun K12 k12=>sr 2 rfl <| sL sl_23 rfl <| sr 1 rfl <| sE ?_;clear H a;intro a H
 refine k12 _ ?_;clear k12 K12
 refine condL H rfl (fun hc3 => ?_) (fun hc3 => ?_)
 ·skip
  refine wp_skip ?_
  refine k11 _ _ ?_
  refine wp_block ?_
  replace H := H.keep [7, 8] rfl
  replace S := S.drew
  refine one_wq [(0, true), (1, true), (2, true), (3, true), (4, true), (5, true), (6, true), (7, false), (8, true), (9, true)] (by kernel_rfl) (by kernel_rfl) (S.sel [] rfl rfl) ?_
  refine qF H <| qr 3 rfl <| qd rfl (fun _ S => does_slice sl_23 sz_3 rfl (lo := k) (hi := n) (.inr ⟨_, rfl, _, rfl⟩) (.inl ⟨rfl, rfl⟩) (by omega) (by omega)) <| qr 2 rfl <| qd rfl (fun _ S => does_slice sl_23 sz_3 rfl (lo := 0) (hi := k) (.inl ⟨rfl, rfl⟩) (.inr ⟨_, rfl, _, rfl⟩) (by omega) (by omega)) <| qK ?_;clear H a;intro a H
  refine wq_eff rfl ?_
  refine list_copy H rfl S sl_23 sz_3 (i := 0) (lo := k) rfl rfl (w8cutA1 _ _ _ (by omega)) (fun h => by cases h) rfl (((ownM.inS S (i := 0) rfl).cut (lo := 0) (hi := k) (by omega) (by omega) (by omega))) (by omega) (fun k' j _ _ => by (try dsimp only); split <;> rfl) (by omega) ?_; clear H a S; intro _ a S H
  replace S := S.recell (i := 0) rfl (cell' := fun i _ => if i < k + min k (n - k) then .int .i64 v else .int .i64 0) (fun k' j hk _ => by (try dsimp only); (repeat' split) <;> first | rfl | (exfalso; omega))
  refine wpList_nil (And.intro (S.sel [] rfl rfl) ?_)
  refine qF H <| qd rfl (fun _ S => does_add rfl rfl (by unfold i64ok; omega)) <| qr 1 rfl <| qK ?_;clear H a;intro a H
  refine wq_nil ?_
  exact k10 (g1 - min k (n - k)) (k + min k (n - k)) a _ (by omega) (⟨by omega, by omega, by omega⟩) (S.sel [0] rfl rfl) (H.keep [8, 7] rfl)
 refine wp_exit ?_
 refine k9 _ _ ?_
 replace H := H.keep [7] rfl
 refine sS H fun K14 k14=>sr 2 rfl <| sE ?_;clear H a;intro a H
 refine k14 _ ?_;clear k14 K14
 refine wp_ret ?_
 refine ret1 (fn := Try.f105) rfl H rfl ?_
 replace S := S.recell (i := 0) rfl (cell' := fun _ _ => .int .i64 v) (fun k' j hk _ => by rw [if_pos (by omega)])
 exact ⟨_, rfl, (S.sel [0] rfl rfl)⟩

end Go.Proofs.Ytopmadlgolnmfaa
