/- ChPd. Printed by gen.py. -/
import Derived.Test.YtlejjfhgfajoiaaChPc
import Derived.Test.YtlejjfhgfajoiaaChV
namespace Go.Proofs.Ytlejjfhgfajoiaa
open Go.RowKit
set_option linter.unusedVariables false
set_option linter.unusedSimpArgs false


theorem fcell_sp2 {f : Nat → Int × Int} {n : Nat} : ∀ k j, k < n → j < 2 → fcell f k j = sp2 (fun k => (f k).1) (fun k => (f k).2) k j := by
  intro k j _ hj
  have : j = 0 ∨ j = 1 := by omega
  rcases this with rfl | rfl <;> rfl
theorem does_neqb_same {P : Program} {w : World} {L : List (Nat × Value)} {ty : TypeId} {pos : String} {af : Array Edge} {dd : Option Nat} {g : Option (Nat × Bool)} {x y : Operand} {xt yt : TypeId} {m n : Bool} (hu : P.underlying xt = some .bool) (hx : ev L x = some (.bool m)) (hy : ev L y = some (.bool n)) (h : m = n) : Does P L ⟨dd, .binOp .neq xt x y yt, ty, pos, af, g⟩ w (.bool false) := by
  have h1 := does_neqb (P := P) (d := dd) (w := w) (ty := ty) (pos := pos) (af := af) (g := g) (xt := xt) (yt := yt) hu hx hy
  subst h
  simpa using h1


set_option maxRecDepth 100000 in
set_option maxHeartbeats 1000000 in
theorem law_ChainWears (rates : List (Int × Int)) (RA : Option Addr) (rcp : Nat) (pwn ptn pag : Int) (l : List Use) (A : Option Addr) (cp : Nat) (w : World) (hr : InS w noF 2 RA rates.length (scell rates)) (hrn : rates.length * 16 ≤ 140737488351232) (hl : InS w noF 6 A l.length (ucell l)) (hn : l.length * 48 ≤ 140737488351232) :
    Calls Try.prog 11 [.agg [.slice RA rates.length rcp, .int .i64 pwn, .int .i64 ptn, .int .i64 pag].toArray, .slice A l.length cp].toArray w (Ret (fun v w' => v = .bool true ∧ St w noF [] w')) := by
  have hrn1 : rates.length ≤ 9223372036854775807 := by omega
  have hn1 : l.length ≤ 9223372036854775807 := by omega
  refine enter Try.func11 rfl Try.ntmps11 rfl (fun a H => ?_)
  have S := St.start w
  refine seq_list (fun K1 hK1 => ?_)
  refine list_box H rfl S rfl rfl ?_; clear H a S; intro b2 _ a hb2 hbw2 S H
  refine list_does H rfl (does_assign rfl) ?_; clear H a; intro a H
  refine hK1 _ _ ?_
  clear hK1 K1
  replace H := H.keep [1, 2] rfl
  refine seq_list (fun K2 hK2 => ?_)
  refine list_does H rfl (by first | exact does_loadBox agg_62 sz_62 rfl S (i := 0) rfl rfl) ?_; clear H a; intro a H
  refine list_call H rfl rfl Try.func41 rfl rfl (ref_Copy rates pwn ptn pag RA rcp _ (hr.now S) hrn) ?_; clear H a
  rintro _ _ a ⟨A2, c2, rfl, S2⟩ H
  replace S := S.call S2; clear S2
  refine list_does H rfl (does_move rfl) ?_; clear H a; intro a H
  refine list_call H rfl rfl Try.func38 rfl rfl (ref_CopyUses l A cp _ (hl.now S) hn) ?_; clear H a
  rintro _ _ a ⟨A3, c3, rfl, S2⟩ H
  replace S := S.call S2; clear S2
  refine list_alloc H rfl S ze_62 ?_; clear H a S; intro b5 _ a hb5 hbw5 S H
  first | (refine list_store H S (i := 0) rfl rfl rfl rfl sz_62 rfl rfl ?_) | (refine list_store H S (i := 1) rfl rfl rfl rfl sz_62 rfl rfl ?_) | (refine list_store H S (i := 2) rfl rfl rfl rfl sz_62 rfl rfl ?_) | (refine list_store H S (i := 3) rfl rfl rfl rfl sz_62 rfl rfl ?_) | (refine list_store_own H S (i := 0) rfl rfl rfl (by omega) (by omega) sz_62 rfl ?_) | (refine list_store_own H S (i := 1) rfl rfl rfl (by omega) (by omega) sz_62 rfl ?_) | (refine list_store_own H S (i := 2) rfl rfl rfl (by omega) (by omega) sz_62 rfl ?_) | (refine list_store_own H S (i := 3) rfl rfl rfl (by omega) (by omega) sz_62 rfl ?_)
  clear H a S; intro _ a S H
  refine list_does H rfl (does_assign rfl) ?_; clear H a; intro a H
  refine hK2 _ _ ?_
  clear hK2 K2
  refine wp_seq_k (fun K3 hK3 => ?_)
  replace H := H.keep [1, 2, 5, 6] rfl
  replace S := S.drew
  refine seq_wq [(0, true), (1, true), (3, true), (4, true), (2, false), (5, false), (6, true)] (by kernel_rfl) (by kernel_rfl) (S.sel [0, 1, 2, 3] rfl rfl) (fun K4 hK4 => ?_)
  refine wq_does H rfl rfl (fun _ S => by first | exact does_loadBox agg_62 sz_62 rfl S (i := 0) rfl rfl | exact does_loadBox agg_62 sz_62 rfl S (i := 1) rfl rfl | exact does_loadBox agg_62 sz_62 rfl S (i := 2) rfl rfl | exact does_loadBox agg_62 sz_62 rfl S (i := 3) rfl rfl) ?_; clear H a; intro a H
  refine wq_does H rfl rfl (fun _ S => does_move rfl) ?_; clear H a; intro a H
  refine wq_does H rfl rfl (fun _ S => by first | exact does_loadBox agg_62 sz_62 rfl S (i := 0) rfl rfl | exact does_loadBox agg_62 sz_62 rfl S (i := 1) rfl rfl | exact does_loadBox agg_62 sz_62 rfl S (i := 2) rfl rfl | exact does_loadBox agg_62 sz_62 rfl S (i := 3) rfl rfl) ?_; clear H a; intro a H
  refine wq_does H rfl rfl (fun _ S => does_move rfl) ?_; clear H a; intro a H
  refine wq_eff rfl ?_
  refine list_call H rfl rfl Try.func42 rfl rfl (chain_CheckPart rates pwn ptn pag A2 c2 l A3 c3 _ (ownM.inS S (i := 2) rfl) hrn1 (ownM.inS S (i := 1) rfl) hn1) ?_; clear H a
  rintro _ _ a ⟨rfl, S2⟩ H
  replace S := S.call S2; clear S2
  refine wpList_nil (And.intro (S.sel [0, 1, 2, 3] rfl rfl) ?_)
  refine wq_eff rfl ?_
  refine list_call H rfl rfl Try.func36 rfl rfl (ref_CheckPart rates pwn ptn pag RA rcp l A cp _ (hr.now S) hrn1 (hl.now S) hn1) ?_; clear H a
  rintro _ _ a ⟨rfl, S2⟩ H
  replace S := S.call S2; clear S2
  refine wpList_nil (And.intro (S.sel [0, 1, 2, 3] rfl rfl) ?_)
  refine wq_does H rfl rfl (fun _ S => does_neq_same rfl rfl rfl) ?_; clear H a; intro a H
  refine wq_nil ?_
  refine hK4 _ _ ?_
  clear hK4 K4
  refine cond_ H rfl (fun hc1 => ?_) (fun hc1 => ?_)
  · skip
    cases hc1
  · skip
    refine wp_skip ?_
    refine hK3 _ _ ?_
    by_cases hA : wearE (⟨rates, pwn, ptn, pag⟩ : Part) l = 0
    · skip
      have hlk : l.length ≤ 1000000 := by have := (checkP_ok (wearE_zero hA).1).len; omega
      replace H := H.keep [1, 2, 5, 6] rfl
      refine seq_list (fun K5 hK5 => ?_)
      refine list_does H rfl (by first | exact does_loadBox agg_62 sz_62 rfl S (i := 0) rfl rfl | exact does_loadBox agg_62 sz_62 rfl S (i := 1) rfl rfl | exact does_loadBox agg_62 sz_62 rfl S (i := 2) rfl rfl | exact does_loadBox agg_62 sz_62 rfl S (i := 3) rfl rfl) ?_; clear H a; intro a H
      refine list_does H rfl (does_move rfl) ?_; clear H a; intro a H
      refine list_call H rfl rfl Try.func37 rfl rfl (ret_imp (chain_Wear rates pwn ptn pag A2 c2 l A3 c3 _ (ownM.inS S (i := 2) rfl) hrn1 (ownM.inS S (i := 1) rfl) hn1) (fun _ _ => wearR_yes hA)) ?_; clear H a
      rintro _ _ a ⟨A5, c5, rfl, S2⟩ H
      replace S := S.call S2; clear S2
      refine list_does H rfl (does_move rfl) ?_; clear H a; intro a H
      refine list_does H rfl (does_extract rfl rfl) ?_; clear H a; intro a H
      refine list_does H rfl (does_extract rfl rfl) ?_; clear H a; intro a H
      refine list_does H rfl (does_assign rfl) ?_; clear H a; intro a H
      refine list_does H rfl (does_assign rfl) ?_; clear H a; intro a H
      refine hK5 _ _ ?_
      clear hK5 K5
      replace H := H.keep [1, 2, 5, 6, 7, 8] rfl
      refine seq_list (fun K6 hK6 => ?_)
      refine list_does H rfl (by first | exact does_loadBox agg_62 sz_62 rfl S (i := 0) rfl rfl | exact does_loadBox agg_62 sz_62 rfl S (i := 1) rfl rfl | exact does_loadBox agg_62 sz_62 rfl S (i := 2) rfl rfl | exact does_loadBox agg_62 sz_62 rfl S (i := 3) rfl rfl | exact does_loadBox agg_62 sz_62 rfl S (i := 4) rfl rfl) ?_; clear H a; intro a H
      refine list_does H rfl (does_move rfl) ?_; clear H a; intro a H
      refine list_call H rfl rfl Try.func43 rfl rfl (ret_imp (ref_Wear rates pwn ptn pag RA rcp l A cp _ (hr.now S) hrn1 (hl.now S) hn1) (fun _ _ => wearR_yes hA)) ?_; clear H a
      rintro _ _ a ⟨A6, c6, rfl, S2⟩ H
      replace S := S.call S2; clear S2
      refine list_does H rfl (does_move rfl) ?_; clear H a; intro a H
      refine list_does H rfl (does_extract rfl rfl) ?_; clear H a; intro a H
      refine list_does H rfl (does_extract rfl rfl) ?_; clear H a; intro a H
      refine list_does H rfl (does_assign rfl) ?_; clear H a; intro a H
      refine list_does H rfl (does_assign rfl) ?_; clear H a; intro a H
      refine hK6 _ _ ?_
      clear hK6 K6
      refine wp_seq_k (fun K7 hK7 => ?_)
      replace H := H.keep [1, 2, 5, 6, 7, 8, 9, 10] rfl
      refine seq_list (fun K8 hK8 => ?_)
      refine list_does H rfl (does_move rfl) ?_; clear H a; intro a H
      refine list_does H rfl (does_move rfl) ?_; clear H a; intro a H
      refine list_does H rfl (does_neq_same rfl rfl rfl) ?_; clear H a; intro a H
      refine list_does H rfl (does_move rfl) ?_; clear H a; intro a H
      refine list_yes H rfl rfl ?_
      refine list_does H rfl (does_move rfl) ?_; clear H a; intro a H
      refine list_yes H rfl rfl ?_
      refine list_does H rfl (does_move rfl) ?_; clear H a; intro a H
      refine list_yes H rfl rfl ?_
      refine list_call H rfl rfl Try.func27 rfl rfl (ret_imp (law_sameSpans A5 A6 _ _ c5 c6 (fun k => (wearAt (⟨rates, pwn, ptn, pag⟩ : Part) l k).1) (fun k => (wearAt (⟨rates, pwn, ptn, pag⟩ : Part) l k).2) (fun k => (wearAt (⟨rates, pwn, ptn, pag⟩ : Part) l k).1) (fun k => (wearAt (⟨rates, pwn, ptn, pag⟩ : Part) l k).2) _ ((ownM.inS S (i := 1) rfl).congr fcell_sp2) ((ownM.inS S (i := 0) rfl).congr fcell_sp2) hlk hlk) (fun _ _ h => (⟨h.1.trans (congrArg Value.bool (sameSp_self _ _ _ _ _ (fun _ _ => ⟨rfl, rfl⟩))), h.2⟩ : _ ∧ _))) ?_; clear H a
      rintro _ _ a ⟨rfl, S2⟩ H
      replace S := S.call S2; clear S2
      refine list_yes H rfl rfl ?_
      refine list_does H rfl (does_not rfl) ?_; clear H a; intro a H
      refine list_does H rfl (by first | exact does_or rfl rfl rfl | exact does_pick rfl rfl rfl) ?_; clear H a; intro a H
      refine hK8 _ _ ?_
      clear hK8 K8
      refine cond_ H rfl (fun hc2 => ?_) (fun hc2 => ?_)
      · skip
        cases hc2
      · skip
        refine wp_skip ?_
        refine hK7 _ _ ?_
        replace H := H.keep [1, 2, 5, 6] rfl
        refine seq_list (fun K9 hK9 => ?_)
        refine list_does H rfl (by first | exact does_loadBox agg_62 sz_62 rfl S (i := 0) rfl rfl | exact does_loadBox agg_62 sz_62 rfl S (i := 1) rfl rfl | exact does_loadBox agg_62 sz_62 rfl S (i := 2) rfl rfl | exact does_loadBox agg_62 sz_62 rfl S (i := 3) rfl rfl | exact does_loadBox agg_62 sz_62 rfl S (i := 4) rfl rfl | exact does_loadBox agg_62 sz_62 rfl S (i := 5) rfl rfl) ?_; clear H a; intro a H
        refine list_does H rfl (does_move rfl) ?_; clear H a; intro a H
        refine list_call H rfl rfl Try.func44 rfl rfl (chain_Refuted rates pwn ptn pag A2 c2 l A3 c3 _ (ownM.inS S (i := 4) rfl) hrn1 (ownM.inS S (i := 3) rfl) hn1) ?_; clear H a
        rintro _ _ a ⟨rfl, S2⟩ H
        replace S := S.call S2; clear S2
        refine list_does H rfl (does_move rfl) ?_; clear H a; intro a H
        refine list_does H rfl (does_extract rfl rfl) ?_; clear H a; intro a H
        refine list_does H rfl (does_extract rfl rfl) ?_; clear H a; intro a H
        refine list_does H rfl (does_extract rfl rfl) ?_; clear H a; intro a H
        refine list_does H rfl (does_assign rfl) ?_; clear H a; intro a H
        refine list_does H rfl (does_assign rfl) ?_; clear H a; intro a H
        refine list_does H rfl (does_assign rfl) ?_; clear H a; intro a H
        refine hK9 _ _ ?_
        clear hK9 K9
        replace H := H.keep [1, 2, 5, 6, 8, 11, 12] rfl
        refine seq_list (fun K10 hK10 => ?_)
        refine list_does H rfl (by first | exact does_loadBox agg_62 sz_62 rfl S (i := 0) rfl rfl | exact does_loadBox agg_62 sz_62 rfl S (i := 1) rfl rfl | exact does_loadBox agg_62 sz_62 rfl S (i := 2) rfl rfl | exact does_loadBox agg_62 sz_62 rfl S (i := 3) rfl rfl | exact does_loadBox agg_62 sz_62 rfl S (i := 4) rfl rfl | exact does_loadBox agg_62 sz_62 rfl S (i := 5) rfl rfl) ?_; clear H a; intro a H
        refine list_does H rfl (does_move rfl) ?_; clear H a; intro a H
        refine list_call H rfl rfl Try.func45 rfl rfl (ref_Refuted rates pwn ptn pag RA rcp l A cp _ (hr.now S) hrn1 (hl.now S) hn1) ?_; clear H a
        rintro _ _ a ⟨rfl, S2⟩ H
        replace S := S.call S2; clear S2
        refine list_does H rfl (does_move rfl) ?_; clear H a; intro a H
        refine list_does H rfl (does_extract rfl rfl) ?_; clear H a; intro a H
        refine list_does H rfl (does_extract rfl rfl) ?_; clear H a; intro a H
        refine list_does H rfl (does_extract rfl rfl) ?_; clear H a; intro a H
        refine list_does H rfl (does_assign rfl) ?_; clear H a; intro a H
        refine list_does H rfl (does_assign rfl) ?_; clear H a; intro a H
        refine list_does H rfl (does_assign rfl) ?_; clear H a; intro a H
        refine hK10 _ _ ?_
        clear hK10 K10
        refine wp_seq_k (fun K11 hK11 => ?_)
        replace H := H.keep [1, 2, 5, 6, 8, 10, 11, 12, 13, 14] rfl
        refine seq_still (fun K12 hK12 => ?_)
        refine still_does H rfl (does_move rfl) ?_; clear H a; intro a H
        refine still_does H rfl (does_move rfl) ?_; clear H a; intro a H
        refine still_does H rfl (does_neq_same rfl rfl rfl) ?_; clear H a; intro a H
        refine still_does H rfl (does_move rfl) ?_; clear H a; intro a H
        refine still_yes H rfl rfl ?_
        refine still_does H rfl (does_move rfl) ?_; clear H a; intro a H
        refine still_yes H rfl rfl ?_
        refine still_does H rfl (does_move rfl) ?_; clear H a; intro a H
        refine still_yes H rfl rfl ?_
        refine still_does H rfl (does_neqb_same Try.underlying4 rfl rfl rfl) ?_; clear H a; intro a H
        refine still_does H rfl (by first | exact does_or rfl rfl rfl | exact does_pick rfl rfl rfl) ?_; clear H a; intro a H
        refine still_does H rfl (does_move rfl) ?_; clear H a; intro a H
        refine still_yes H rfl rfl ?_
        refine still_does H rfl (does_move rfl) ?_; clear H a; intro a H
        refine still_yes H rfl rfl ?_
        refine still_does H rfl (does_move rfl) ?_; clear H a; intro a H
        refine still_yes H rfl rfl ?_
        refine still_does H rfl (does_neq_same rfl rfl rfl) ?_; clear H a; intro a H
        refine still_does H rfl (by first | exact does_or rfl rfl rfl | exact does_pick rfl rfl rfl) ?_; clear H a; intro a H
        refine wpStill_nil (hK12 _ ?_)
        clear hK12 K12
        refine cond_ H rfl (fun hc3 => ?_) (fun hc3 => ?_)
        · skip
          cases hc3
        · skip
          refine wp_skip ?_
          refine hK11 _ _ ?_
          replace H := H.keep [1, 2, 5, 6] rfl
          refine seq_list (fun K13 hK13 => ?_)
          refine list_does H rfl (by first | exact does_loadBox agg_62 sz_62 rfl S (i := 0) rfl rfl | exact does_loadBox agg_62 sz_62 rfl S (i := 1) rfl rfl | exact does_loadBox agg_62 sz_62 rfl S (i := 2) rfl rfl | exact does_loadBox agg_62 sz_62 rfl S (i := 3) rfl rfl | exact does_loadBox agg_62 sz_62 rfl S (i := 4) rfl rfl | exact does_loadBox agg_62 sz_62 rfl S (i := 5) rfl rfl) ?_; clear H a; intro a H
          refine list_does H rfl (does_move rfl) ?_; clear H a; intro a H
          refine list_call H rfl rfl Try.func40 rfl rfl (chain_Beyond rates pwn ptn pag A2 c2 l A3 c3 _ (ownM.inS S (i := 4) rfl) hrn1 (ownM.inS S (i := 3) rfl) hn1) ?_; clear H a
          rintro _ _ a ⟨rfl, S2⟩ H
          replace S := S.call S2; clear S2
          refine list_does H rfl (does_move rfl) ?_; clear H a; intro a H
          refine list_does H rfl (does_extract rfl rfl) ?_; clear H a; intro a H
          refine list_does H rfl (does_extract rfl rfl) ?_; clear H a; intro a H
          refine list_does H rfl (does_assign rfl) ?_; clear H a; intro a H
          refine list_does H rfl (does_assign rfl) ?_; clear H a; intro a H
          refine hK13 _ _ ?_
          clear hK13 K13
          replace H := H.keep [1, 2, 5, 6, 8, 11] rfl
          refine seq_list (fun K14 hK14 => ?_)
          refine list_does H rfl (by first | exact does_loadBox agg_62 sz_62 rfl S (i := 0) rfl rfl | exact does_loadBox agg_62 sz_62 rfl S (i := 1) rfl rfl | exact does_loadBox agg_62 sz_62 rfl S (i := 2) rfl rfl | exact does_loadBox agg_62 sz_62 rfl S (i := 3) rfl rfl | exact does_loadBox agg_62 sz_62 rfl S (i := 4) rfl rfl | exact does_loadBox agg_62 sz_62 rfl S (i := 5) rfl rfl) ?_; clear H a; intro a H
          refine list_does H rfl (does_move rfl) ?_; clear H a; intro a H
          refine list_call H rfl rfl Try.func46 rfl rfl (ref_Beyond rates pwn ptn pag RA rcp l A cp _ (hr.now S) hrn1 (hl.now S) hn1) ?_; clear H a
          rintro _ _ a ⟨rfl, S2⟩ H
          replace S := S.call S2; clear S2
          refine list_does H rfl (does_move rfl) ?_; clear H a; intro a H
          refine list_does H rfl (does_extract rfl rfl) ?_; clear H a; intro a H
          refine list_does H rfl (does_extract rfl rfl) ?_; clear H a; intro a H
          refine list_does H rfl (does_assign rfl) ?_; clear H a; intro a H
          refine list_does H rfl (does_assign rfl) ?_; clear H a; intro a H
          refine hK14 _ _ ?_
          clear hK14 K14
          refine wp_seq_k (fun K15 hK15 => ?_)
          replace H := H.keep [1, 2, 5, 6, 8, 10, 11, 13] rfl
          refine seq_still (fun K16 hK16 => ?_)
          refine still_does H rfl (does_move rfl) ?_; clear H a; intro a H
          refine still_does H rfl (does_move rfl) ?_; clear H a; intro a H
          refine still_does H rfl (does_neq_same rfl rfl rfl) ?_; clear H a; intro a H
          refine still_does H rfl (does_move rfl) ?_; clear H a; intro a H
          refine still_yes H rfl rfl ?_
          refine still_does H rfl (does_move rfl) ?_; clear H a; intro a H
          refine still_yes H rfl rfl ?_
          refine still_does H rfl (does_move rfl) ?_; clear H a; intro a H
          refine still_yes H rfl rfl ?_
          refine still_does H rfl (does_neq_same rfl rfl rfl) ?_; clear H a; intro a H
          refine still_does H rfl (by first | exact does_or rfl rfl rfl | exact does_pick rfl rfl rfl) ?_; clear H a; intro a H
          refine wpStill_nil (hK16 _ ?_)
          clear hK16 K16
          refine cond_ H rfl (fun hc4 => ?_) (fun hc4 => ?_)
          · skip
            cases hc4
          · skip
            refine wp_skip ?_
            refine hK15 _ _ ?_
            replace H := H.keep [1, 2, 5, 6] rfl
            refine seq_list (fun K17 hK17 => ?_)
            refine list_does H rfl (by first | exact does_loadBox agg_62 sz_62 rfl S (i := 0) rfl rfl | exact does_loadBox agg_62 sz_62 rfl S (i := 1) rfl rfl | exact does_loadBox agg_62 sz_62 rfl S (i := 2) rfl rfl | exact does_loadBox agg_62 sz_62 rfl S (i := 3) rfl rfl | exact does_loadBox agg_62 sz_62 rfl S (i := 4) rfl rfl | exact does_loadBox agg_62 sz_62 rfl S (i := 5) rfl rfl) ?_; clear H a; intro a H
            refine list_does H rfl (does_move rfl) ?_; clear H a; intro a H
            refine list_call H rfl rfl Try.func47 rfl rfl (chain_Surely rates pwn ptn pag A2 c2 l A3 c3 _ (ownM.inS S (i := 4) rfl) hrn1 (ownM.inS S (i := 3) rfl) hn1) ?_; clear H a
            rintro _ _ a ⟨rfl, S2⟩ H
            replace S := S.call S2; clear S2
            refine list_does H rfl (does_move rfl) ?_; clear H a; intro a H
            refine list_does H rfl (does_extract rfl rfl) ?_; clear H a; intro a H
            refine list_does H rfl (does_extract rfl rfl) ?_; clear H a; intro a H
            refine list_does H rfl (does_assign rfl) ?_; clear H a; intro a H
            refine list_does H rfl (does_assign rfl) ?_; clear H a; intro a H
            refine hK17 _ _ ?_
            clear hK17 K17
            replace H := H.keep [1, 2, 8, 11] rfl
            refine seq_list (fun K18 hK18 => ?_)
            refine list_does H rfl (by first | exact does_loadBox agg_62 sz_62 rfl S (i := 0) rfl rfl | exact does_loadBox agg_62 sz_62 rfl S (i := 1) rfl rfl | exact does_loadBox agg_62 sz_62 rfl S (i := 2) rfl rfl | exact does_loadBox agg_62 sz_62 rfl S (i := 3) rfl rfl | exact does_loadBox agg_62 sz_62 rfl S (i := 4) rfl rfl | exact does_loadBox agg_62 sz_62 rfl S (i := 5) rfl rfl) ?_; clear H a; intro a H
            refine list_does H rfl (does_move rfl) ?_; clear H a; intro a H
            refine list_call H rfl rfl Try.func48 rfl rfl (ref_Surely rates pwn ptn pag RA rcp l A cp _ (hr.now S) hrn1 (hl.now S) hn1) ?_; clear H a
            rintro _ _ a ⟨rfl, S2⟩ H
            replace S := S.call S2; clear S2
            refine list_does H rfl (does_move rfl) ?_; clear H a; intro a H
            refine list_does H rfl (does_extract rfl rfl) ?_; clear H a; intro a H
            refine list_does H rfl (does_extract rfl rfl) ?_; clear H a; intro a H
            refine list_does H rfl (does_assign rfl) ?_; clear H a; intro a H
            refine list_does H rfl (does_assign rfl) ?_; clear H a; intro a H
            refine hK18 _ _ ?_
            clear hK18 K18
            replace H := H.keep [8, 10, 11, 13] rfl
            refine seq_list (fun K19 hK19 => ?_)
            refine list_does H rfl (does_move rfl) ?_; clear H a; intro a H
            refine list_does H rfl (does_move rfl) ?_; clear H a; intro a H
            refine list_does H rfl (does_eql_same rfl rfl rfl) ?_; clear H a; intro a H
            refine list_does H rfl (does_move rfl) ?_; clear H a; intro a H
            refine list_yes H rfl rfl ?_
            refine list_does H rfl (does_move rfl) ?_; clear H a; intro a H
            refine list_yes H rfl rfl ?_
            refine list_does H rfl (does_move rfl) ?_; clear H a; intro a H
            refine list_yes H rfl rfl ?_
            refine list_does H rfl (does_eql_same rfl rfl rfl) ?_; clear H a; intro a H
            refine list_does H rfl (by first | exact does_and rfl rfl rfl | exact does_pick rfl rfl rfl) ?_; clear H a; intro a H
            refine list_does H rfl (does_move rfl) ?_; clear H a; intro a H
            refine list_yes H rfl rfl ?_
            refine list_call H rfl rfl Try.func18 rfl rfl (law_works _) ?_; clear H a
            rintro _ _ a ⟨rfl, S2⟩ H
            replace S := S.call S2; clear S2
            refine list_does H rfl (by first | exact does_and rfl rfl rfl | exact does_pick rfl rfl rfl) ?_; clear H a; intro a H
            refine list_does H rfl (does_assign rfl) ?_; clear H a; intro a H
            refine hK19 _ _ ?_
            clear hK19 K19
            refine wp_ret ?_
            refine ret1 (fn := Try.f11) rfl H rfl ?_
            exact ⟨rfl, (S.sel [] rfl rfl)⟩
    · skip
      skip
      replace H := H.keep [1, 2, 5, 6] rfl
      refine seq_list (fun K20 hK20 => ?_)
      refine list_does H rfl (by first | exact does_loadBox agg_62 sz_62 rfl S (i := 0) rfl rfl | exact does_loadBox agg_62 sz_62 rfl S (i := 1) rfl rfl | exact does_loadBox agg_62 sz_62 rfl S (i := 2) rfl rfl | exact does_loadBox agg_62 sz_62 rfl S (i := 3) rfl rfl) ?_; clear H a; intro a H
      refine list_does H rfl (does_move rfl) ?_; clear H a; intro a H
      refine list_call H rfl rfl Try.func37 rfl rfl (ret_imp (chain_Wear rates pwn ptn pag A2 c2 l A3 c3 _ (ownM.inS S (i := 2) rfl) hrn1 (ownM.inS S (i := 1) rfl) hn1) (fun _ _ => wearR_no hA)) ?_; clear H a
      rintro _ _ a ⟨rfl, S2⟩ H
      replace S := S.call S2; clear S2
      refine list_does H rfl (does_move rfl) ?_; clear H a; intro a H
      refine list_does H rfl (does_extract rfl rfl) ?_; clear H a; intro a H
      refine list_does H rfl (does_extract rfl rfl) ?_; clear H a; intro a H
      refine list_does H rfl (does_assign rfl) ?_; clear H a; intro a H
      refine list_does H rfl (does_assign rfl) ?_; clear H a; intro a H
      refine hK20 _ _ ?_
      clear hK20 K20
      replace H := H.keep [1, 2, 5, 6, 7, 8] rfl
      refine seq_list (fun K21 hK21 => ?_)
      refine list_does H rfl (by first | exact does_loadBox agg_62 sz_62 rfl S (i := 0) rfl rfl | exact does_loadBox agg_62 sz_62 rfl S (i := 1) rfl rfl | exact does_loadBox agg_62 sz_62 rfl S (i := 2) rfl rfl | exact does_loadBox agg_62 sz_62 rfl S (i := 3) rfl rfl) ?_; clear H a; intro a H
      refine list_does H rfl (does_move rfl) ?_; clear H a; intro a H
      refine list_call H rfl rfl Try.func43 rfl rfl (ret_imp (ref_Wear rates pwn ptn pag RA rcp l A cp _ (hr.now S) hrn1 (hl.now S) hn1) (fun _ _ => wearR_no hA)) ?_; clear H a
      rintro _ _ a ⟨rfl, S2⟩ H
      replace S := S.call S2; clear S2
      refine list_does H rfl (does_move rfl) ?_; clear H a; intro a H
      refine list_does H rfl (does_extract rfl rfl) ?_; clear H a; intro a H
      refine list_does H rfl (does_extract rfl rfl) ?_; clear H a; intro a H
      refine list_does H rfl (does_assign rfl) ?_; clear H a; intro a H
      refine list_does H rfl (does_assign rfl) ?_; clear H a; intro a H
      refine hK21 _ _ ?_
      clear hK21 K21
      refine wp_seq_k (fun K22 hK22 => ?_)
      replace H := H.keep [1, 2, 5, 6, 7, 8, 9, 10] rfl
      refine seq_list (fun K23 hK23 => ?_)
      refine list_does H rfl (does_move rfl) ?_; clear H a; intro a H
      refine list_does H rfl (does_move rfl) ?_; clear H a; intro a H
      refine list_does H rfl (does_neq_same rfl rfl rfl) ?_; clear H a; intro a H
      refine list_does H rfl (does_move rfl) ?_; clear H a; intro a H
      refine list_yes H rfl rfl ?_
      refine list_does H rfl (does_move rfl) ?_; clear H a; intro a H
      refine list_yes H rfl rfl ?_
      refine list_does H rfl (does_move rfl) ?_; clear H a; intro a H
      refine list_yes H rfl rfl ?_
      refine list_call H rfl rfl Try.func27 rfl rfl (ret_imp (law_sameSpans none none 0 0 0 0 (fun _ => 0) (fun _ => 0) (fun _ => 0) (fun _ => 0) _ InS.nil InS.nil (by decide) (by decide)) (fun _ _ h => (⟨h.1.trans (congrArg Value.bool (sameSp_self 0 _ _ _ _ (fun _ h => absurd h (Nat.not_lt_zero _)))), h.2⟩ : _ ∧ _))) ?_; clear H a
      rintro _ _ a ⟨rfl, S2⟩ H
      replace S := S.call S2; clear S2
      refine list_yes H rfl rfl ?_
      refine list_does H rfl (does_not rfl) ?_; clear H a; intro a H
      refine list_does H rfl (by first | exact does_or rfl rfl rfl | exact does_pick rfl rfl rfl) ?_; clear H a; intro a H
      refine hK23 _ _ ?_
      clear hK23 K23
      refine cond_ H rfl (fun hc5 => ?_) (fun hc5 => ?_)
      · skip
        cases hc5
      · skip
        refine wp_skip ?_
        refine hK22 _ _ ?_
        replace H := H.keep [1, 2, 5, 6] rfl
        refine seq_list (fun K24 hK24 => ?_)
        refine list_does H rfl (by first | exact does_loadBox agg_62 sz_62 rfl S (i := 0) rfl rfl | exact does_loadBox agg_62 sz_62 rfl S (i := 1) rfl rfl | exact does_loadBox agg_62 sz_62 rfl S (i := 2) rfl rfl | exact does_loadBox agg_62 sz_62 rfl S (i := 3) rfl rfl) ?_; clear H a; intro a H
        refine list_does H rfl (does_move rfl) ?_; clear H a; intro a H
        refine list_call H rfl rfl Try.func44 rfl rfl (chain_Refuted rates pwn ptn pag A2 c2 l A3 c3 _ (ownM.inS S (i := 2) rfl) hrn1 (ownM.inS S (i := 1) rfl) hn1) ?_; clear H a
        rintro _ _ a ⟨rfl, S2⟩ H
        replace S := S.call S2; clear S2
        refine list_does H rfl (does_move rfl) ?_; clear H a; intro a H
        refine list_does H rfl (does_extract rfl rfl) ?_; clear H a; intro a H
        refine list_does H rfl (does_extract rfl rfl) ?_; clear H a; intro a H
        refine list_does H rfl (does_extract rfl rfl) ?_; clear H a; intro a H
        refine list_does H rfl (does_assign rfl) ?_; clear H a; intro a H
        refine list_does H rfl (does_assign rfl) ?_; clear H a; intro a H
        refine list_does H rfl (does_assign rfl) ?_; clear H a; intro a H
        refine hK24 _ _ ?_
        clear hK24 K24
        replace H := H.keep [1, 2, 5, 6, 8, 11, 12] rfl
        refine seq_list (fun K25 hK25 => ?_)
        refine list_does H rfl (by first | exact does_loadBox agg_62 sz_62 rfl S (i := 0) rfl rfl | exact does_loadBox agg_62 sz_62 rfl S (i := 1) rfl rfl | exact does_loadBox agg_62 sz_62 rfl S (i := 2) rfl rfl | exact does_loadBox agg_62 sz_62 rfl S (i := 3) rfl rfl) ?_; clear H a; intro a H
        refine list_does H rfl (does_move rfl) ?_; clear H a; intro a H
        refine list_call H rfl rfl Try.func45 rfl rfl (ref_Refuted rates pwn ptn pag RA rcp l A cp _ (hr.now S) hrn1 (hl.now S) hn1) ?_; clear H a
        rintro _ _ a ⟨rfl, S2⟩ H
        replace S := S.call S2; clear S2
        refine list_does H rfl (does_move rfl) ?_; clear H a; intro a H
        refine list_does H rfl (does_extract rfl rfl) ?_; clear H a; intro a H
        refine list_does H rfl (does_extract rfl rfl) ?_; clear H a; intro a H
        refine list_does H rfl (does_extract rfl rfl) ?_; clear H a; intro a H
        refine list_does H rfl (does_assign rfl) ?_; clear H a; intro a H
        refine list_does H rfl (does_assign rfl) ?_; clear H a; intro a H
        refine list_does H rfl (does_assign rfl) ?_; clear H a; intro a H
        refine hK25 _ _ ?_
        clear hK25 K25
        refine wp_seq_k (fun K26 hK26 => ?_)
        replace H := H.keep [1, 2, 5, 6, 8, 10, 11, 12, 13, 14] rfl
        refine seq_still (fun K27 hK27 => ?_)
        refine still_does H rfl (does_move rfl) ?_; clear H a; intro a H
        refine still_does H rfl (does_move rfl) ?_; clear H a; intro a H
        refine still_does H rfl (does_neq_same rfl rfl rfl) ?_; clear H a; intro a H
        refine still_does H rfl (does_move rfl) ?_; clear H a; intro a H
        refine still_yes H rfl rfl ?_
        refine still_does H rfl (does_move rfl) ?_; clear H a; intro a H
        refine still_yes H rfl rfl ?_
        refine still_does H rfl (does_move rfl) ?_; clear H a; intro a H
        refine still_yes H rfl rfl ?_
        refine still_does H rfl (does_neqb_same Try.underlying4 rfl rfl rfl) ?_; clear H a; intro a H
        refine still_does H rfl (by first | exact does_or rfl rfl rfl | exact does_pick rfl rfl rfl) ?_; clear H a; intro a H
        refine still_does H rfl (does_move rfl) ?_; clear H a; intro a H
        refine still_yes H rfl rfl ?_
        refine still_does H rfl (does_move rfl) ?_; clear H a; intro a H
        refine still_yes H rfl rfl ?_
        refine still_does H rfl (does_move rfl) ?_; clear H a; intro a H
        refine still_yes H rfl rfl ?_
        refine still_does H rfl (does_neq_same rfl rfl rfl) ?_; clear H a; intro a H
        refine still_does H rfl (by first | exact does_or rfl rfl rfl | exact does_pick rfl rfl rfl) ?_; clear H a; intro a H
        refine wpStill_nil (hK27 _ ?_)
        clear hK27 K27
        refine cond_ H rfl (fun hc6 => ?_) (fun hc6 => ?_)
        · skip
          cases hc6
        · skip
          refine wp_skip ?_
          refine hK26 _ _ ?_
          replace H := H.keep [1, 2, 5, 6] rfl
          refine seq_list (fun K28 hK28 => ?_)
          refine list_does H rfl (by first | exact does_loadBox agg_62 sz_62 rfl S (i := 0) rfl rfl | exact does_loadBox agg_62 sz_62 rfl S (i := 1) rfl rfl | exact does_loadBox agg_62 sz_62 rfl S (i := 2) rfl rfl | exact does_loadBox agg_62 sz_62 rfl S (i := 3) rfl rfl) ?_; clear H a; intro a H
          refine list_does H rfl (does_move rfl) ?_; clear H a; intro a H
          refine list_call H rfl rfl Try.func40 rfl rfl (chain_Beyond rates pwn ptn pag A2 c2 l A3 c3 _ (ownM.inS S (i := 2) rfl) hrn1 (ownM.inS S (i := 1) rfl) hn1) ?_; clear H a
          rintro _ _ a ⟨rfl, S2⟩ H
          replace S := S.call S2; clear S2
          refine list_does H rfl (does_move rfl) ?_; clear H a; intro a H
          refine list_does H rfl (does_extract rfl rfl) ?_; clear H a; intro a H
          refine list_does H rfl (does_extract rfl rfl) ?_; clear H a; intro a H
          refine list_does H rfl (does_assign rfl) ?_; clear H a; intro a H
          refine list_does H rfl (does_assign rfl) ?_; clear H a; intro a H
          refine hK28 _ _ ?_
          clear hK28 K28
          replace H := H.keep [1, 2, 5, 6, 8, 11] rfl
          refine seq_list (fun K29 hK29 => ?_)
          refine list_does H rfl (by first | exact does_loadBox agg_62 sz_62 rfl S (i := 0) rfl rfl | exact does_loadBox agg_62 sz_62 rfl S (i := 1) rfl rfl | exact does_loadBox agg_62 sz_62 rfl S (i := 2) rfl rfl | exact does_loadBox agg_62 sz_62 rfl S (i := 3) rfl rfl) ?_; clear H a; intro a H
          refine list_does H rfl (does_move rfl) ?_; clear H a; intro a H
          refine list_call H rfl rfl Try.func46 rfl rfl (ref_Beyond rates pwn ptn pag RA rcp l A cp _ (hr.now S) hrn1 (hl.now S) hn1) ?_; clear H a
          rintro _ _ a ⟨rfl, S2⟩ H
          replace S := S.call S2; clear S2
          refine list_does H rfl (does_move rfl) ?_; clear H a; intro a H
          refine list_does H rfl (does_extract rfl rfl) ?_; clear H a; intro a H
          refine list_does H rfl (does_extract rfl rfl) ?_; clear H a; intro a H
          refine list_does H rfl (does_assign rfl) ?_; clear H a; intro a H
          refine list_does H rfl (does_assign rfl) ?_; clear H a; intro a H
          refine hK29 _ _ ?_
          clear hK29 K29
          refine wp_seq_k (fun K30 hK30 => ?_)
          replace H := H.keep [1, 2, 5, 6, 8, 10, 11, 13] rfl
          refine seq_still (fun K31 hK31 => ?_)
          refine still_does H rfl (does_move rfl) ?_; clear H a; intro a H
          refine still_does H rfl (does_move rfl) ?_; clear H a; intro a H
          refine still_does H rfl (does_neq_same rfl rfl rfl) ?_; clear H a; intro a H
          refine still_does H rfl (does_move rfl) ?_; clear H a; intro a H
          refine still_yes H rfl rfl ?_
          refine still_does H rfl (does_move rfl) ?_; clear H a; intro a H
          refine still_yes H rfl rfl ?_
          refine still_does H rfl (does_move rfl) ?_; clear H a; intro a H
          refine still_yes H rfl rfl ?_
          refine still_does H rfl (does_neq_same rfl rfl rfl) ?_; clear H a; intro a H
          refine still_does H rfl (by first | exact does_or rfl rfl rfl | exact does_pick rfl rfl rfl) ?_; clear H a; intro a H
          refine wpStill_nil (hK31 _ ?_)
          clear hK31 K31
          refine cond_ H rfl (fun hc7 => ?_) (fun hc7 => ?_)
          · skip
            cases hc7
          · skip
            refine wp_skip ?_
            refine hK30 _ _ ?_
            replace H := H.keep [1, 2, 5, 6] rfl
            refine seq_list (fun K32 hK32 => ?_)
            refine list_does H rfl (by first | exact does_loadBox agg_62 sz_62 rfl S (i := 0) rfl rfl | exact does_loadBox agg_62 sz_62 rfl S (i := 1) rfl rfl | exact does_loadBox agg_62 sz_62 rfl S (i := 2) rfl rfl | exact does_loadBox agg_62 sz_62 rfl S (i := 3) rfl rfl) ?_; clear H a; intro a H
            refine list_does H rfl (does_move rfl) ?_; clear H a; intro a H
            refine list_call H rfl rfl Try.func47 rfl rfl (chain_Surely rates pwn ptn pag A2 c2 l A3 c3 _ (ownM.inS S (i := 2) rfl) hrn1 (ownM.inS S (i := 1) rfl) hn1) ?_; clear H a
            rintro _ _ a ⟨rfl, S2⟩ H
            replace S := S.call S2; clear S2
            refine list_does H rfl (does_move rfl) ?_; clear H a; intro a H
            refine list_does H rfl (does_extract rfl rfl) ?_; clear H a; intro a H
            refine list_does H rfl (does_extract rfl rfl) ?_; clear H a; intro a H
            refine list_does H rfl (does_assign rfl) ?_; clear H a; intro a H
            refine list_does H rfl (does_assign rfl) ?_; clear H a; intro a H
            refine hK32 _ _ ?_
            clear hK32 K32
            replace H := H.keep [1, 2, 8, 11] rfl
            refine seq_list (fun K33 hK33 => ?_)
            refine list_does H rfl (by first | exact does_loadBox agg_62 sz_62 rfl S (i := 0) rfl rfl | exact does_loadBox agg_62 sz_62 rfl S (i := 1) rfl rfl | exact does_loadBox agg_62 sz_62 rfl S (i := 2) rfl rfl | exact does_loadBox agg_62 sz_62 rfl S (i := 3) rfl rfl) ?_; clear H a; intro a H
            refine list_does H rfl (does_move rfl) ?_; clear H a; intro a H
            refine list_call H rfl rfl Try.func48 rfl rfl (ref_Surely rates pwn ptn pag RA rcp l A cp _ (hr.now S) hrn1 (hl.now S) hn1) ?_; clear H a
            rintro _ _ a ⟨rfl, S2⟩ H
            replace S := S.call S2; clear S2
            refine list_does H rfl (does_move rfl) ?_; clear H a; intro a H
            refine list_does H rfl (does_extract rfl rfl) ?_; clear H a; intro a H
            refine list_does H rfl (does_extract rfl rfl) ?_; clear H a; intro a H
            refine list_does H rfl (does_assign rfl) ?_; clear H a; intro a H
            refine list_does H rfl (does_assign rfl) ?_; clear H a; intro a H
            refine hK33 _ _ ?_
            clear hK33 K33
            replace H := H.keep [8, 10, 11, 13] rfl
            refine seq_list (fun K34 hK34 => ?_)
            refine list_does H rfl (does_move rfl) ?_; clear H a; intro a H
            refine list_does H rfl (does_move rfl) ?_; clear H a; intro a H
            refine list_does H rfl (does_eql_same rfl rfl rfl) ?_; clear H a; intro a H
            refine list_does H rfl (does_move rfl) ?_; clear H a; intro a H
            refine list_yes H rfl rfl ?_
            refine list_does H rfl (does_move rfl) ?_; clear H a; intro a H
            refine list_yes H rfl rfl ?_
            refine list_does H rfl (does_move rfl) ?_; clear H a; intro a H
            refine list_yes H rfl rfl ?_
            refine list_does H rfl (does_eql_same rfl rfl rfl) ?_; clear H a; intro a H
            refine list_does H rfl (by first | exact does_and rfl rfl rfl | exact does_pick rfl rfl rfl) ?_; clear H a; intro a H
            refine list_does H rfl (does_move rfl) ?_; clear H a; intro a H
            refine list_yes H rfl rfl ?_
            refine list_call H rfl rfl Try.func18 rfl rfl (law_works _) ?_; clear H a
            rintro _ _ a ⟨rfl, S2⟩ H
            replace S := S.call S2; clear S2
            refine list_does H rfl (by first | exact does_and rfl rfl rfl | exact does_pick rfl rfl rfl) ?_; clear H a; intro a H
            refine list_does H rfl (does_assign rfl) ?_; clear H a; intro a H
            refine hK34 _ _ ?_
            clear hK34 K34
            refine wp_ret ?_
            refine ret1 (fn := Try.f11) rfl H rfl ?_
            exact ⟨rfl, (S.sel [] rfl rfl)⟩

set_option maxRecDepth 100000 in
set_option maxHeartbeats 1000000 in
theorem law_ChainPlans (rates : List (Int × Int)) (RA : Option Addr) (rcp : Nat) (pwn ptn pag : Int) (l : List Use) (A : Option Addr) (cp : Nat) (plan : List Use) (B : Option Addr) (cq : Nat) (cls day : Int) (w : World) (hr : InS w noF 2 RA rates.length (scell rates)) (hrn : rates.length * 16 ≤ 140737488351232) (hl : InS w noF 6 A l.length (ucell l)) (hn : l.length * 48 ≤ 140737488351232) (hpl : InS w noF 6 B plan.length (ucell plan)) (hpn : plan.length * 48 ≤ 140737488351232) (hsum : (l.length + plan.length) * 48 ≤ 140737488355328) :
    Calls Try.prog 14 [.agg [.slice RA rates.length rcp, .int .i64 pwn, .int .i64 ptn, .int .i64 pag].toArray, .slice A l.length cp, .agg [.slice B plan.length cq, .int .i64 cls, .int .i64 day].toArray].toArray w (Ret (fun v w' => v = .bool true ∧ St w noF [] w')) := by
  have hrn1 : rates.length ≤ 9223372036854775807 := by omega
  have hn1 : l.length ≤ 9223372036854775807 := by omega
  have hpn1 : plan.length ≤ 9223372036854775807 := by omega
  refine enter Try.func14 rfl Try.ntmps14 rfl (fun a H => ?_)
  have S := St.start w
  refine seq_list (fun K1 hK1 => ?_)
  refine list_box H rfl S rfl rfl ?_; clear H a S; intro b3 _ a hb3 hbw3 S H
  refine list_box H rfl S rfl rfl ?_; clear H a S; intro b5 _ a hb5 hbw5 S H
  refine list_does H rfl (does_assign rfl) ?_; clear H a; intro a H
  refine hK1 _ _ ?_
  clear hK1 K1
  replace H := H.keep [1, 3, 5] rfl
  refine seq_list (fun K2 hK2 => ?_)
  refine list_does H rfl (by first | exact does_loadBox agg_62 sz_62 rfl S (i := 0) rfl rfl | exact does_loadBox agg_62 sz_62 rfl S (i := 1) rfl rfl) ?_; clear H a; intro a H
  refine list_call H rfl rfl Try.func41 rfl rfl (ref_Copy rates pwn ptn pag RA rcp _ (hr.now S) hrn) ?_; clear H a
  rintro _ _ a ⟨A2, c2, rfl, S2⟩ H
  replace S := S.call S2; clear S2
  refine list_does H rfl (does_move rfl) ?_; clear H a; intro a H
  refine list_call H rfl rfl Try.func38 rfl rfl (ref_CopyUses l A cp _ (hl.now S) hn) ?_; clear H a
  rintro _ _ a ⟨A3, c3, rfl, S2⟩ H
  replace S := S.call S2; clear S2
  refine list_alloc H rfl S ze_62 ?_; clear H a S; intro b7 _ a hb7 hbw7 S H
  first | (refine list_store H S (i := 0) rfl rfl rfl rfl sz_62 rfl rfl ?_) | (refine list_store H S (i := 1) rfl rfl rfl rfl sz_62 rfl rfl ?_) | (refine list_store H S (i := 2) rfl rfl rfl rfl sz_62 rfl rfl ?_) | (refine list_store H S (i := 3) rfl rfl rfl rfl sz_62 rfl rfl ?_) | (refine list_store H S (i := 4) rfl rfl rfl rfl sz_62 rfl rfl ?_) | (refine list_store_own H S (i := 0) rfl rfl rfl (by omega) (by omega) sz_62 rfl ?_) | (refine list_store_own H S (i := 1) rfl rfl rfl (by omega) (by omega) sz_62 rfl ?_) | (refine list_store_own H S (i := 2) rfl rfl rfl (by omega) (by omega) sz_62 rfl ?_) | (refine list_store_own H S (i := 3) rfl rfl rfl (by omega) (by omega) sz_62 rfl ?_) | (refine list_store_own H S (i := 4) rfl rfl rfl (by omega) (by omega) sz_62 rfl ?_)
  clear H a S; intro _ a S H
  refine list_does H rfl (does_assign rfl) ?_; clear H a; intro a H
  refine hK2 _ _ ?_
  clear hK2 K2
  replace H := H.keep [1, 3, 5, 7, 8] rfl
  replace S := S.drew
  refine seq_wq [(0, true), (1, true), (2, true), (3, true), (4, false), (5, false), (6, true), (7, true), (8, true), (9, true), (10, true)] (by kernel_rfl) (by kernel_rfl) (S.sel [0, 1, 2, 3, 4] rfl rfl) (fun K3 hK3 => ?_)
  refine wq_does H rfl rfl (fun _ S => by first | exact does_loadBox agg_62 sz_62 rfl S (i := 0) rfl rfl | exact does_loadBox agg_62 sz_62 rfl S (i := 1) rfl rfl | exact does_loadBox agg_62 sz_62 rfl S (i := 2) rfl rfl | exact does_loadBox agg_62 sz_62 rfl S (i := 3) rfl rfl | exact does_loadBox agg_62 sz_62 rfl S (i := 4) rfl rfl) ?_; clear H a; intro a H
  refine wq_does H rfl rfl (fun _ S => does_move rfl) ?_; clear H a; intro a H
  refine wq_does H rfl rfl (fun _ S => by first | exact does_field_pt fo_83_0 rfl | exact does_field fo_83_0 rfl) ?_; clear H a; intro a H
  refine wq_does H rfl rfl (fun _ S => does_load one_63 rfl (by first | exact boxM.rd S (i := 0) rfl rfl | exact boxM.rd S (i := 1) rfl rfl | exact boxM.rd S (i := 2) rfl rfl | exact boxM.rd S (i := 3) rfl rfl | exact boxM.rd S (i := 4) rfl rfl)) ?_; clear H a; intro a H
  refine wq_eff rfl ?_
  refine list_call H rfl rfl Try.func38 rfl rfl (ref_CopyUses plan B cq _ (hpl.now S) hpn) ?_; clear H a
  rintro _ _ a ⟨A4, c4, rfl, S2⟩ H
  replace S := S.call S2; clear S2
  refine wpList_nil (And.intro (S.sel [1, 2, 3, 4, 5] rfl rfl) ?_)
  refine wq_eff rfl ?_
  refine list_call H rfl rfl Try.func55 rfl rfl (chain_Last rates pwn ptn pag A2 c2 l A3 c3 plan A4 c4 _ (ownM.inS S (i := 3) rfl) hrn1 (ownM.inS S (i := 2) rfl) hn1 (ownM.inS S (i := 0) rfl) hsum hpn1) ?_; clear H a
  rintro _ _ a ⟨rfl, S2⟩ H
  replace S := S.call S2; clear S2
  refine wpList_nil (And.intro (S.sel [1, 2, 3, 4, 5] rfl rfl) ?_)
  refine wq_does H rfl rfl (fun _ S => does_move rfl) ?_; clear H a; intro a H
  refine wq_does H rfl rfl (fun _ S => does_extract rfl rfl) ?_; clear H a; intro a H
  refine wq_does H rfl rfl (fun _ S => does_extract rfl rfl) ?_; clear H a; intro a H
  refine wq_does H rfl rfl (fun _ S => does_assign rfl) ?_; clear H a; intro a H
  refine wq_does H rfl rfl (fun _ S => does_assign rfl) ?_; clear H a; intro a H
  refine wq_nil ?_
  refine hK3 _ _ ?_
  clear hK3 K3
  replace H := H.keep [1, 3, 5, 7, 8, 9, 10] rfl
  refine seq_list (fun K4 hK4 => ?_)
  refine list_does H rfl (by first | exact does_loadBox agg_62 sz_62 rfl S (i := 0) rfl rfl | exact does_loadBox agg_62 sz_62 rfl S (i := 1) rfl rfl | exact does_loadBox agg_62 sz_62 rfl S (i := 2) rfl rfl | exact does_loadBox agg_62 sz_62 rfl S (i := 3) rfl rfl | exact does_loadBox agg_62 sz_62 rfl S (i := 4) rfl rfl | exact does_loadBox agg_62 sz_62 rfl S (i := 5) rfl rfl) ?_; clear H a; intro a H
  refine list_does H rfl (does_move rfl) ?_; clear H a; intro a H
  refine list_does H rfl (by first | exact does_field_pt fo_83_0 rfl | exact does_field fo_83_0 rfl) ?_; clear H a; intro a H
  refine list_does H rfl (does_load one_63 rfl (by first | exact boxM.rd S (i := 0) rfl rfl | exact boxM.rd S (i := 1) rfl rfl | exact boxM.rd S (i := 2) rfl rfl | exact boxM.rd S (i := 3) rfl rfl | exact boxM.rd S (i := 4) rfl rfl | exact boxM.rd S (i := 5) rfl rfl)) ?_; clear H a; intro a H
  refine list_call H rfl rfl Try.func56 rfl rfl (ref_Last rates pwn ptn pag RA rcp l A cp plan B cq _ (hr.now S) hrn1 (hl.now S) hn1 (hpl.now S) hsum hpn1) ?_; clear H a
  rintro _ _ a ⟨rfl, S2⟩ H
  replace S := S.call S2; clear S2
  refine list_does H rfl (does_move rfl) ?_; clear H a; intro a H
  refine list_does H rfl (does_extract rfl rfl) ?_; clear H a; intro a H
  refine list_does H rfl (does_extract rfl rfl) ?_; clear H a; intro a H
  refine list_does H rfl (does_assign rfl) ?_; clear H a; intro a H
  refine list_does H rfl (does_assign rfl) ?_; clear H a; intro a H
  refine hK4 _ _ ?_
  clear hK4 K4
  refine wp_seq_k (fun K5 hK5 => ?_)
  replace H := H.keep [1, 3, 5, 7, 8, 9, 10, 11, 12] rfl
  refine seq_still (fun K6 hK6 => ?_)
  refine still_does H rfl (does_move rfl) ?_; clear H a; intro a H
  refine still_does H rfl (does_move rfl) ?_; clear H a; intro a H
  refine still_does H rfl (does_neq_same rfl rfl rfl) ?_; clear H a; intro a H
  refine still_does H rfl (does_move rfl) ?_; clear H a; intro a H
  refine still_yes H rfl rfl ?_
  refine still_does H rfl (does_move rfl) ?_; clear H a; intro a H
  refine still_yes H rfl rfl ?_
  refine still_does H rfl (does_move rfl) ?_; clear H a; intro a H
  refine still_yes H rfl rfl ?_
  refine still_does H rfl (does_neq_same rfl rfl rfl) ?_; clear H a; intro a H
  refine still_does H rfl (by first | exact does_or rfl rfl rfl | exact does_pick rfl rfl rfl) ?_; clear H a; intro a H
  refine wpStill_nil (hK6 _ ?_)
  clear hK6 K6
  refine cond_ H rfl (fun hc1 => ?_) (fun hc1 => ?_)
  · skip
    cases hc1
  · skip
    refine wp_skip ?_
    refine hK5 _ _ ?_
    replace H := H.keep [1, 3, 5, 7, 8] rfl
    refine seq_list (fun K7 hK7 => ?_)
    refine list_does H rfl (by first | exact does_loadBox agg_62 sz_62 rfl S (i := 0) rfl rfl | exact does_loadBox agg_62 sz_62 rfl S (i := 1) rfl rfl | exact does_loadBox agg_62 sz_62 rfl S (i := 2) rfl rfl | exact does_loadBox agg_62 sz_62 rfl S (i := 3) rfl rfl | exact does_loadBox agg_62 sz_62 rfl S (i := 4) rfl rfl | exact does_loadBox agg_62 sz_62 rfl S (i := 5) rfl rfl) ?_; clear H a; intro a H
    refine list_does H rfl (does_move rfl) ?_; clear H a; intro a H
    refine list_does H rfl (by first | exact does_field_pt fo_83_1 rfl | exact does_field fo_83_1 rfl) ?_; clear H a; intro a H
    refine list_does H rfl (does_load one_3 rfl (by first | exact boxM.rd S (i := 0) rfl rfl | exact boxM.rd S (i := 1) rfl rfl | exact boxM.rd S (i := 2) rfl rfl | exact boxM.rd S (i := 3) rfl rfl | exact boxM.rd S (i := 4) rfl rfl | exact boxM.rd S (i := 5) rfl rfl)) ?_; clear H a; intro a H
    refine list_does H rfl (by first | exact does_field_pt fo_83_2 rfl | exact does_field fo_83_2 rfl) ?_; clear H a; intro a H
    refine list_does H rfl (does_load one_3 rfl (by first | exact boxM.rd S (i := 0) rfl rfl | exact boxM.rd S (i := 1) rfl rfl | exact boxM.rd S (i := 2) rfl rfl | exact boxM.rd S (i := 3) rfl rfl | exact boxM.rd S (i := 4) rfl rfl | exact boxM.rd S (i := 5) rfl rfl)) ?_; clear H a; intro a H
    refine list_call H rfl rfl Try.func39 rfl rfl (chain_Due rates pwn ptn pag A2 c2 l A3 c3 cls day _ (ownM.inS S (i := 3) rfl) hrn1 (ownM.inS S (i := 2) rfl) hn1) ?_; clear H a
    rintro _ _ a ⟨rfl, S2⟩ H
    replace S := S.call S2; clear S2
    refine list_does H rfl (does_move rfl) ?_; clear H a; intro a H
    refine list_does H rfl (does_extract rfl rfl) ?_; clear H a; intro a H
    refine list_does H rfl (does_extract rfl rfl) ?_; clear H a; intro a H
    refine list_does H rfl (does_assign rfl) ?_; clear H a; intro a H
    refine list_does H rfl (does_assign rfl) ?_; clear H a; intro a H
    refine hK7 _ _ ?_
    clear hK7 K7
    replace H := H.keep [1, 3, 5, 9, 10] rfl
    refine seq_list (fun K8 hK8 => ?_)
    refine list_does H rfl (by first | exact does_loadBox agg_62 sz_62 rfl S (i := 0) rfl rfl | exact does_loadBox agg_62 sz_62 rfl S (i := 1) rfl rfl | exact does_loadBox agg_62 sz_62 rfl S (i := 2) rfl rfl | exact does_loadBox agg_62 sz_62 rfl S (i := 3) rfl rfl | exact does_loadBox agg_62 sz_62 rfl S (i := 4) rfl rfl | exact does_loadBox agg_62 sz_62 rfl S (i := 5) rfl rfl) ?_; clear H a; intro a H
    refine list_does H rfl (does_move rfl) ?_; clear H a; intro a H
    refine list_does H rfl (by first | exact does_field_pt fo_83_1 rfl | exact does_field fo_83_1 rfl) ?_; clear H a; intro a H
    refine list_does H rfl (does_load one_3 rfl (by first | exact boxM.rd S (i := 0) rfl rfl | exact boxM.rd S (i := 1) rfl rfl | exact boxM.rd S (i := 2) rfl rfl | exact boxM.rd S (i := 3) rfl rfl | exact boxM.rd S (i := 4) rfl rfl | exact boxM.rd S (i := 5) rfl rfl)) ?_; clear H a; intro a H
    refine list_does H rfl (by first | exact does_field_pt fo_83_2 rfl | exact does_field fo_83_2 rfl) ?_; clear H a; intro a H
    refine list_does H rfl (does_load one_3 rfl (by first | exact boxM.rd S (i := 0) rfl rfl | exact boxM.rd S (i := 1) rfl rfl | exact boxM.rd S (i := 2) rfl rfl | exact boxM.rd S (i := 3) rfl rfl | exact boxM.rd S (i := 4) rfl rfl | exact boxM.rd S (i := 5) rfl rfl)) ?_; clear H a; intro a H
    refine list_call H rfl rfl Try.func57 rfl rfl (ref_Due rates pwn ptn pag RA rcp l A cp cls day _ (hr.now S) hrn1 (hl.now S) hn1) ?_; clear H a
    rintro _ _ a ⟨rfl, S2⟩ H
    replace S := S.call S2; clear S2
    refine list_does H rfl (does_move rfl) ?_; clear H a; intro a H
    refine list_does H rfl (does_extract rfl rfl) ?_; clear H a; intro a H
    refine list_does H rfl (does_extract rfl rfl) ?_; clear H a; intro a H
    refine list_does H rfl (does_assign rfl) ?_; clear H a; intro a H
    refine list_does H rfl (does_assign rfl) ?_; clear H a; intro a H
    refine hK8 _ _ ?_
    clear hK8 K8
    replace H := H.keep [9, 10, 11, 12] rfl
    refine seq_list (fun K9 hK9 => ?_)
    refine list_does H rfl (does_move rfl) ?_; clear H a; intro a H
    refine list_does H rfl (does_move rfl) ?_; clear H a; intro a H
    refine list_does H rfl (does_eql_same rfl rfl rfl) ?_; clear H a; intro a H
    refine list_does H rfl (does_move rfl) ?_; clear H a; intro a H
    refine list_yes H rfl rfl ?_
    refine list_does H rfl (does_move rfl) ?_; clear H a; intro a H
    refine list_yes H rfl rfl ?_
    refine list_does H rfl (does_move rfl) ?_; clear H a; intro a H
    refine list_yes H rfl rfl ?_
    refine list_does H rfl (does_eql_same rfl rfl rfl) ?_; clear H a; intro a H
    refine list_does H rfl (by first | exact does_and rfl rfl rfl | exact does_pick rfl rfl rfl) ?_; clear H a; intro a H
    refine list_does H rfl (does_move rfl) ?_; clear H a; intro a H
    refine list_yes H rfl rfl ?_
    refine list_call H rfl rfl Try.func18 rfl rfl (law_works _) ?_; clear H a
    rintro _ _ a ⟨rfl, S2⟩ H
    replace S := S.call S2; clear S2
    refine list_does H rfl (by first | exact does_and rfl rfl rfl | exact does_pick rfl rfl rfl) ?_; clear H a; intro a H
    refine list_does H rfl (does_assign rfl) ?_; clear H a; intro a H
    refine hK9 _ _ ?_
    clear hK9 K9
    refine wp_ret ?_
    refine ret1 (fn := Try.f14) rfl H rfl ?_
    exact ⟨rfl, (S.sel [] rfl rfl)⟩

end Go.Proofs.Ytlejjfhgfajoiaa
