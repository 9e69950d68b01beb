/- Part 4 of the proof. -/
import Derived.Test.YtinghmelkmblmaaGreatQcc
namespace Go.Proofs.YtinghmelkmblmaaGreat
open Go.RowKit
set_option linter.unusedVariables false
set_option linter.unusedSimpArgs false
set_option maxRecDepth 100000
set_option maxHeartbeats 4000000
section
theorem xN (up:Bool) (empty pull drag motor:Int) (br:List Brake) (BA:Option Addr) (bcp:Nat) (sp slo shi sfail:Int) (w:World) (hb:InS w noF 2 BA br.length (bcell br)) (hbn:br.length≤9223372036854775807) :
    Calls Tryz.prog 75 [.agg [.bool up,.int .i64 empty,.int .i64 pull,.int .i64 drag,.int .i64 motor,.slice BA br.length bcp].toArray,.agg [.int .i64 sp,.int .i64 slo,.int .i64 shi,.int .i64 sfail].toArray].toArray w (Ret (fun v w'=>v = .int .i64 (stopE (⟨up,empty,pull,drag,motor,br⟩:Esc) (⟨sp,slo,shi,sfail⟩:Stp))∧St w noF [] w')):=by
 refine enter Tryz.func75 rfl Tryz.ntmps75 rfl (fun a H=>?_)
 have S:=St.start w
 refine seq_list fun K1 k1=>?_
 refine aO H rfl S G G ?_;intro b2 _ a hb2 hbw2 S H
 refine aO H rfl S G G ?_;intro b3 _ a hb3 hbw3 S H
 refine ls 1 H<|sr 1 G<|sE ?_;intro a H
 refine k1 _ _ ?_;refine wp_seq_k fun K2 k2=>?_
 cases hesc:escOk (⟨up,empty,pull,drag,motor,br⟩:Esc)
 ·skip
  refine seq_list fun K3 k3=>?_
  refine ls 1 H<|sd ((aB gC iX rfl S (i:=1) G G))<|sE ?_;intro a H
  refine aA H G G Tryz.func116 G G (yK up empty pull drag motor br BA bcp _ (hb.now S) hbn) ?_;clear H a
  rintro _ _ a ⟨rfl,S2⟩ H;replace S:=S.call S2;clear S2;rw [hesc] at H;simp only [if_true,Bool.false_eq_true,if_false] at H;refine ls 1 H<|sr 1 G<|sE ?_;intro a H
  refine k3 _ _ ?_;refine sS H fun K4 k4=>sr 2 G<|sE ?_;intro a H
  refine k4 _ ?_;refine cond_ H rfl (fun hc1=>?_) (fun hc1=>?_)
  ·skip
   skip
   replace H:=H.keep [5] rfl;refine sS H fun K5 k5=>sr 2 G<|sE ?_;intro a H
   refine k5 _ ?_;refine wp_ret ?_;refine ret1 (fn:=Tryz.f75) rfl H rfl ?_;refine ⟨?_,(S.sel [] G G)⟩;unfold stopE;rw [if_neg (by rw [hesc];simp)]
  skip
  exact absurd hc1 (by decide)
 refine seq_list fun K6 k6=>?_
 refine ls 1 H<|sd ((aB gC iX rfl S (i:=1) G G))<|sE ?_;intro a H
 refine aA H G G Tryz.func116 G G (yK up empty pull drag motor br BA bcp _ (hb.now S) hbn) ?_;clear H a
 rintro _ _ a ⟨rfl,S2⟩ H;replace S:=S.call S2;clear S2;rw [hesc] at H;simp only [if_true,Bool.false_eq_true,if_false] at H;refine ls 1 H<|sr 1 G<|sE ?_;intro a H
 refine k6 _ _ ?_;refine sS H fun K7 k7=>sr 2 G<|sE ?_;intro a H
 refine k7 _ ?_;refine cond_ H rfl (fun hc2=>?_) (fun hc2=>?_)
 ·skip
  skip
  exact absurd hc2 (by decide)
 skip
 refine wp_skip ?_;refine k2 _ _ ?_;refine wp_seq_k fun K8 k8=>?_
 rcases (show ((sp<0∨1000<sp)∨((0≤sp∧sp≤1000)∧slo<0)∨((0≤sp∧sp≤1000∧0≤slo)∧shi<slo))∨((0≤sp∧sp≤1000∧0≤slo∧slo≤shi)∧(100000<shi∨(shi≤100000∧sfail<0)∨((shi≤100000∧0≤sfail)∧(2:Int)^br.length≤sfail)∨((shi≤100000∧0≤sfail)∧sfail<(2:Int)^br.length))) by omega) with (hs|hs|hs)|⟨hs0,hs|hs|hs|hs⟩
 ·skip
  skip
  have hE:=dM hesc
  dsimp only at hE;obtain ⟨hE1,hE2,hE3,hE4,hE5⟩:=hE;replace H:=H.keep [2,3] rfl;replace S:=S.drew;refine seq_wq [(0,true),(1,true),(2,false),(3,false),(4,true),(5,true),(6,true),(7,true),(8,true),(9,true),(10,true),(11,true),(12,true),(13,true),(14,true),(15,true),(16,true),(17,true),(18,true),(19,true),(20,true),(21,true),(22,true),(23,true),(24,true),(25,true),(26,true),(27,true),(28,true),(29,true),(30,true),(31,true),(32,true),(33,true),(34,true),(35,true),(36,true),(37,true),(38,true),(39,true)] (by kernel_rfl) (by kernel_rfl) (S.sel [0,1] rfl rfl) fun K9 k9=>?_
  refine qF H<|qd G (fun _ S=>(aC iC rfl))<|qd G (fun _ S=>aF aD rfl (aEh S (i:=0) G G))<|qK ?_;intro a H
  refine aT rfl ?_
  refine aA H G G Tryz.func118 G G (eC _ _) ?_;clear H a
  rintro _ _ a ⟨rfl,S2⟩ H;replace S:=S.call S2;clear S2;refine wpList_nil (And.intro (S.sel [0,1] rfl rfl) ?_);refine aT rfl ?_;refine aA H rfl rfl Tryz.func117 rfl rfl (lW (by omega)) ?_;clear H a;rintro _ _ a ⟨rfl,S2⟩ H;replace S:=S.call S2;clear S2;refine wpList_nil (And.intro (S.sel [0,1] rfl rfl) ?_);refine qF H<|qr 2 G<|qK ?_;intro a H
  refine aK H G G G G G ?_;intro a H
  refine aK H G G G G G ?_;intro a H
  refine aK H G G G G G ?_;intro a H
  refine aK H G G G G G ?_;intro a H
  refine qF H<|qd G (fun _ S=>(aV G G G))<|qr 1 G<|qK ?_;intro a H
  refine aK H G G G G G ?_;intro a H
  refine aK H G G G G G ?_;intro a H
  refine aK H G G G G G ?_;intro a H
  refine aK H G G G G G ?_;intro a H
  refine aK H G G G G G ?_;intro a H
  refine aK H G G G G G ?_;intro a H
  refine aK H G G G G G ?_;intro a H
  refine qF H<|qd G (fun _ S=>(aV G G G))<|qr 1 G<|qK ?_;intro a H
  refine aK H G G G G G ?_;intro a H
  refine aK H G G G G G ?_;intro a H
  refine aK H G G G G G ?_;intro a H
  refine aK H G G G G G ?_;intro a H
  refine qF H<|qd G (fun _ S=>(aV G G G))<|qr 1 G<|qK ?_;intro a H
  refine aK H G G G G G ?_;intro a H
  refine aK H G G G G G ?_;intro a H
  refine aK H G G G G G ?_;intro a H
  refine qF H<|qd G (fun _ S=>(aV G G G))<|qr 1 G<|qK ?_;intro a H
  refine aK H G G G G G ?_;intro a H
  refine aK H G G G G G ?_;intro a H
  refine aK H G G G G G ?_;intro a H
  refine aK H G G G G G ?_;intro a H
  refine aK H G G G G G ?_;intro a H
  refine aK H G G G G G ?_;intro a H
  refine aK H G G G G G ?_;intro a H
  refine qF H<|qd G (fun _ S=>(aV G G G))<|qK ?_;intro a H
  refine bL ?_
  refine k9 _ _ ?_;refine cond_ H rfl (fun hc3=>?_) (fun hc3=>?_)
  ·skip
   skip
   replace H:=H.keep [] rfl;refine sS H fun K10 k10=>sr 1 G<|sE ?_;intro a H
   refine k10 _ ?_;refine wp_ret ?_;refine ret1 (fn:=Tryz.f75) rfl H rfl ?_;refine ⟨?_,(S.sel [] G G)⟩;unfold stopE;rw [if_pos hesc,if_neg (by unfold stpOk;simp only [decide_eq_true_eq];omega)]
  skip
  exact absurd hc3 (by decide)
 ·skip
  skip
  have hE:=dM hesc
  dsimp only at hE;obtain ⟨hE1,hE2,hE3,hE4,hE5⟩:=hE;replace H:=H.keep [2,3] rfl;replace S:=S.drew;refine seq_wq [(0,true),(1,true),(2,false),(3,false),(4,true),(5,true),(6,true),(7,true),(8,true),(9,true),(10,true),(11,true),(12,true),(13,true),(14,true),(15,true),(16,true),(17,true),(18,true),(19,true),(20,true),(21,true),(22,true),(23,true),(24,true),(25,true),(26,true),(27,true),(28,true),(29,true),(30,true),(31,true),(32,true),(33,true),(34,true),(35,true),(36,true),(37,true),(38,true),(39,true)] (by kernel_rfl) (by kernel_rfl) (S.sel [0,1] rfl rfl) fun K11 k11=>?_
  refine qF H<|qd G (fun _ S=>(aC iC rfl))<|qd G (fun _ S=>aF aD rfl (aEh S (i:=0) G G))<|qK ?_;intro a H
  refine aT rfl ?_
  refine aA H G G Tryz.func118 G G (eC _ _) ?_;clear H a
  rintro _ _ a ⟨rfl,S2⟩ H;replace S:=S.call S2;clear S2;refine wpList_nil (And.intro (S.sel [0,1] rfl rfl) ?_);refine aT rfl ?_;refine aA H rfl rfl Tryz.func117 rfl rfl (cL (by omega)) ?_;clear H a;rintro _ _ a ⟨rfl,S2⟩ H;replace S:=S.call S2;clear S2;refine wpList_nil (And.intro (S.sel [0,1] rfl rfl) ?_);refine qF H<|qr 2 G<|qK ?_;intro a H
  refine aG H G G G G (fun _ S=>(aC bU rfl)) ?_;intro a H
  refine aG H G G G G (fun _ S=>(aC bJ rfl)) ?_;intro a H
  refine aG H G G G G (fun _ S=>aF aD rfl (aEh S (i:=0) G G)) ?_;intro a H
  refine aG H G G G G (fun _ S=>Does.to (dE G G) (congrArg Value.bool (decide_eq_true (by omega)))) ?_;intro a H
  refine qF H<|qd G (fun _ S=>(aZ G G G))<|qr 1 G<|qK ?_;intro a H
  refine aK H G G G G G ?_;intro a H
  refine aK H G G G G G ?_;intro a H
  refine aK H G G G G G ?_;intro a H
  refine aK H G G G G G ?_;intro a H
  refine aK H G G G G G ?_;intro a H
  refine aK H G G G G G ?_;intro a H
  refine aK H G G G G G ?_;intro a H
  refine qF H<|qd G (fun _ S=>(aV G G G))<|qr 1 G<|qK ?_;intro a H
  refine aK H G G G G G ?_;intro a H
  refine aK H G G G G G ?_;intro a H
  refine aK H G G G G G ?_;intro a H
  refine aK H G G G G G ?_;intro a H
  refine qF H<|qd G (fun _ S=>(aV G G G))<|qr 1 G<|qK ?_;intro a H
  refine aK H G G G G G ?_;intro a H
  refine aK H G G G G G ?_;intro a H
  refine aK H G G G G G ?_;intro a H
  refine qF H<|qd G (fun _ S=>(aV G G G))<|qr 1 G<|qK ?_;intro a H
  refine aK H G G G G G ?_;intro a H
  refine aK H G G G G G ?_;intro a H
  refine aK H G G G G G ?_;intro a H
  refine aK H G G G G G ?_;intro a H
  refine aK H G G G G G ?_;intro a H
  refine aK H G G G G G ?_;intro a H
  refine aK H G G G G G ?_;intro a H
  refine qF H<|qd G (fun _ S=>(aV G G G))<|qK ?_;intro a H
  refine bL ?_
  refine k11 _ _ ?_;refine cond_ H rfl (fun hc4=>?_) (fun hc4=>?_)
  ·skip
   skip
   replace H:=H.keep [] rfl;refine sS H fun K12 k12=>sr 1 G<|sE ?_;intro a H
   refine k12 _ ?_;refine wp_ret ?_;refine ret1 (fn:=Tryz.f75) rfl H rfl ?_;refine ⟨?_,(S.sel [] G G)⟩;unfold stopE;rw [if_pos hesc,if_neg (by unfold stpOk;simp only [decide_eq_true_eq];omega)]
  skip
  exact absurd hc4 (by decide)
 ·skip
  skip
  have hE:=dM hesc
  dsimp only at hE;obtain ⟨hE1,hE2,hE3,hE4,hE5⟩:=hE;replace H:=H.keep [2,3] rfl;replace S:=S.drew;refine seq_wq [(0,true),(1,true),(2,false),(3,false),(4,true),(5,true),(6,true),(7,true),(8,true),(9,true),(10,true),(11,true),(12,true),(13,true),(14,true),(15,true),(16,true),(17,true),(18,true),(19,true),(20,true),(21,true),(22,true),(23,true),(24,true),(25,true),(26,true),(27,true),(28,true),(29,true),(30,true),(31,true),(32,true),(33,true),(34,true),(35,true),(36,true),(37,true),(38,true),(39,true)] (by kernel_rfl) (by kernel_rfl) (S.sel [0,1] rfl rfl) fun K13 k13=>?_
  refine qF H<|qd G (fun _ S=>(aC iC rfl))<|qd G (fun _ S=>aF aD rfl (aEh S (i:=0) G G))<|qK ?_;intro a H
  refine aT rfl ?_
  refine aA H G G Tryz.func118 G G (eC _ _) ?_;clear H a
  rintro _ _ a ⟨rfl,S2⟩ H;replace S:=S.call S2;clear S2;refine wpList_nil (And.intro (S.sel [0,1] rfl rfl) ?_);refine aT rfl ?_;refine aA H rfl rfl Tryz.func117 rfl rfl (cL (by omega)) ?_;clear H a;rintro _ _ a ⟨rfl,S2⟩ H;replace S:=S.call S2;clear S2;refine wpList_nil (And.intro (S.sel [0,1] rfl rfl) ?_);refine qF H<|qr 2 G<|qK ?_;intro a H
  refine aG H G G G G (fun _ S=>(aC bU rfl)) ?_;intro a H
  refine aG H G G G G (fun _ S=>(aC bJ rfl)) ?_;intro a H
  refine aG H G G G G (fun _ S=>aF aD rfl (aEh S (i:=0) G G)) ?_;intro a H
  refine aG H G G G G (fun _ S=>Does.to (dE G G) (congrArg Value.bool (decide_eq_false (by omega)))) ?_;intro a H
  refine qF H<|qd G (fun _ S=>(aZ G G G))<|qr 1 G<|qK ?_;intro a H
  refine aG H G G G G (fun _ S=>(aC bU rfl)) ?_;intro a H
  refine aG H G G G G (fun _ S=>(aC bJ rfl)) ?_;intro a H
  refine aG H G G G G (fun _ S=>aF aD rfl (aEh S (i:=0) G G)) ?_;intro a H
  refine aG H G G G G (fun _ S=>(aC bU rfl)) ?_;intro a H
  refine aG H G G G G (fun _ S=>(aC bH rfl)) ?_;intro a H
  refine aG H G G G G (fun _ S=>aF aD rfl (aEh S (i:=0) G G)) ?_;intro a H
  refine aG H G G G G (fun _ S=>Does.to (bX G G) (congrArg Value.bool (decide_eq_true (by omega)))) ?_;intro a H
  refine qF H<|qd G (fun _ S=>(aZ G G G))<|qr 1 G<|qK ?_;intro a H
  refine aK H G G G G G ?_;intro a H
  refine aK H G G G G G ?_;intro a H
  refine aK H G G G G G ?_;intro a H
  refine aK H G G G G G ?_;intro a H
  refine qF H<|qd G (fun _ S=>(aV G G G))<|qr 1 G<|qK ?_;intro a H
  refine aK H G G G G G ?_;intro a H
  refine aK H G G G G G ?_;intro a H
  refine aK H G G G G G ?_;intro a H
  refine qF H<|qd G (fun _ S=>(aV G G G))<|qr 1 G<|qK ?_;intro a H
  refine aK H G G G G G ?_;intro a H
  refine aK H G G G G G ?_;intro a H
  refine aK H G G G G G ?_;intro a H
  refine aK H G G G G G ?_;intro a H
  refine aK H G G G G G ?_;intro a H
  refine aK H G G G G G ?_;intro a H
  refine aK H G G G G G ?_;intro a H
  refine qF H<|qd G (fun _ S=>(aV G G G))<|qK ?_;intro a H
  refine bL ?_
  refine k13 _ _ ?_;refine cond_ H rfl (fun hc5=>?_) (fun hc5=>?_)
  ·skip
   skip
   replace H:=H.keep [] rfl;refine sS H fun K14 k14=>sr 1 G<|sE ?_;intro a H
   refine k14 _ ?_;refine wp_ret ?_;refine ret1 (fn:=Tryz.f75) rfl H rfl ?_;refine ⟨?_,(S.sel [] G G)⟩;unfold stopE;rw [if_pos hesc,if_neg (by unfold stpOk;simp only [decide_eq_true_eq];omega)]
  skip
  exact absurd hc5 (by decide)
 ·skip
  skip
  have hE:=dM hesc
  dsimp only at hE;obtain ⟨hE1,hE2,hE3,hE4,hE5⟩:=hE;replace H:=H.keep [2,3] rfl;replace S:=S.drew;refine seq_wq [(0,true),(1,true),(2,false),(3,false),(4,true),(5,true),(6,true),(7,true),(8,true),(9,true),(10,true),(11,true),(12,true),(13,true),(14,true),(15,true),(16,true),(17,true),(18,true),(19,true),(20,true),(21,true),(22,true),(23,true),(24,true),(25,true),(26,true),(27,true),(28,true),(29,true),(30,true),(31,true),(32,true),(33,true),(34,true),(35,true),(36,true),(37,true),(38,true),(39,true)] (by kernel_rfl) (by kernel_rfl) (S.sel [0,1] rfl rfl) fun K15 k15=>?_
  refine qF H<|qd G (fun _ S=>(aC iC rfl))<|qd G (fun _ S=>aF aD rfl (aEh S (i:=0) G G))<|qK ?_;intro a H
  refine aT rfl ?_
  refine aA H G G Tryz.func118 G G (eC _ _) ?_;clear H a
  rintro _ _ a ⟨rfl,S2⟩ H;replace S:=S.call S2;clear S2;refine wpList_nil (And.intro (S.sel [0,1] rfl rfl) ?_);refine aT rfl ?_;refine aA H rfl rfl Tryz.func117 rfl rfl (cL (by omega)) ?_;clear H a;rintro _ _ a ⟨rfl,S2⟩ H;replace S:=S.call S2;clear S2;refine wpList_nil (And.intro (S.sel [0,1] rfl rfl) ?_);refine qF H<|qr 2 G<|qK ?_;intro a H
  refine aG H G G G G (fun _ S=>(aC bU rfl)) ?_;intro a H
  refine aG H G G G G (fun _ S=>(aC bJ rfl)) ?_;intro a H
  refine aG H G G G G (fun _ S=>aF aD rfl (aEh S (i:=0) G G)) ?_;intro a H
  refine aG H G G G G (fun _ S=>Does.to (dE G G) (congrArg Value.bool (decide_eq_false (by omega)))) ?_;intro a H
  refine qF H<|qd G (fun _ S=>(aZ G G G))<|qr 1 G<|qK ?_;intro a H
  refine aG H G G G G (fun _ S=>(aC bU rfl)) ?_;intro a H
  refine aG H G G G G (fun _ S=>(aC bJ rfl)) ?_;intro a H
  refine aG H G G G G (fun _ S=>aF aD rfl (aEh S (i:=0) G G)) ?_;intro a H
  refine aG H G G G G (fun _ S=>(aC bU rfl)) ?_;intro a H
  refine aG H G G G G (fun _ S=>(aC bH rfl)) ?_;intro a H
  refine aG H G G G G (fun _ S=>aF aD rfl (aEh S (i:=0) G G)) ?_;intro a H
  refine aG H G G G G (fun _ S=>Does.to (bX G G) (congrArg Value.bool (decide_eq_false (by omega)))) ?_;intro a H
  refine qF H<|qd G (fun _ S=>(aZ G G G))<|qr 1 G<|qK ?_;intro a H
  refine aG H G G G G (fun _ S=>(aC bU rfl)) ?_;intro a H
  refine aG H G G G G (fun _ S=>(aC bH rfl)) ?_;intro a H
  refine aG H G G G G (fun _ S=>aF aD rfl (aEh S (i:=0) G G)) ?_;intro a H
  refine aG H G G G G (fun _ S=>Does.to (bX G G) (congrArg Value.bool (decide_eq_true (by omega)))) ?_;intro a H
  refine qF H<|qd G (fun _ S=>(aZ G G G))<|qr 1 G<|qK ?_;intro a H
  refine aK H G G G G G ?_;intro a H
  refine aK H G G G G G ?_;intro a H
  refine aK H G G G G G ?_;intro a H
  refine qF H<|qd G (fun _ S=>(aV G G G))<|qr 1 G<|qK ?_;intro a H
  refine aK H G G G G G ?_;intro a H
  refine aK H G G G G G ?_;intro a H
  refine aK H G G G G G ?_;intro a H
  refine aK H G G G G G ?_;intro a H
  refine aK H G G G G G ?_;intro a H
  refine aK H G G G G G ?_;intro a H
  refine aK H G G G G G ?_;intro a H
  refine qF H<|qd G (fun _ S=>(aV G G G))<|qK ?_;intro a H
  refine bL ?_
  refine k15 _ _ ?_;refine cond_ H rfl (fun hc6=>?_) (fun hc6=>?_)
  ·skip
   skip
   replace H:=H.keep [] rfl;refine sS H fun K16 k16=>sr 1 G<|sE ?_;intro a H
   refine k16 _ ?_;refine wp_ret ?_;refine ret1 (fn:=Tryz.f75) rfl H rfl ?_;refine ⟨?_,(S.sel [] G G)⟩;unfold stopE;rw [if_pos hesc,if_neg (by unfold stpOk;simp only [decide_eq_true_eq];omega)]
  skip
  exact absurd hc6 (by decide)
 ·skip
  skip
  have hE:=dM hesc
  dsimp only at hE;obtain ⟨hE1,hE2,hE3,hE4,hE5⟩:=hE;replace H:=H.keep [2,3] rfl;replace S:=S.drew;refine seq_wq [(0,true),(1,true),(2,false),(3,false),(4,true),(5,true),(6,true),(7,true),(8,true),(9,true),(10,true),(11,true),(12,true),(13,true),(14,true),(15,true),(16,true),(17,true),(18,true),(19,true),(20,true),(21,true),(22,true),(23,true),(24,true),(25,true),(26,true),(27,true),(28,true),(29,true),(30,true),(31,true),(32,true),(33,true),(34,true),(35,true),(36,true),(37,true),(38,true),(39,true)] (by kernel_rfl) (by kernel_rfl) (S.sel [0,1] rfl rfl) fun K17 k17=>?_
  refine qF H<|qd G (fun _ S=>(aC iC rfl))<|qd G (fun _ S=>aF aD rfl (aEh S (i:=0) G G))<|qK ?_;intro a H
  refine aT rfl ?_
  refine aA H G G Tryz.func118 G G (eC _ _) ?_;clear H a
  rintro _ _ a ⟨rfl,S2⟩ H;replace S:=S.call S2;clear S2;refine wpList_nil (And.intro (S.sel [0,1] rfl rfl) ?_);refine aT rfl ?_;refine aA H rfl rfl Tryz.func117 rfl rfl (cL (by omega)) ?_;clear H a;rintro _ _ a ⟨rfl,S2⟩ H;replace S:=S.call S2;clear S2;refine wpList_nil (And.intro (S.sel [0,1] rfl rfl) ?_);refine qF H<|qr 2 G<|qK ?_;intro a H
  refine aG H G G G G (fun _ S=>(aC bU rfl)) ?_;intro a H
  refine aG H G G G G (fun _ S=>(aC bJ rfl)) ?_;intro a H
  refine aG H G G G G (fun _ S=>aF aD rfl (aEh S (i:=0) G G)) ?_;intro a H
  refine aG H G G G G (fun _ S=>Does.to (dE G G) (congrArg Value.bool (decide_eq_false (by omega)))) ?_;intro a H
  refine qF H<|qd G (fun _ S=>(aZ G G G))<|qr 1 G<|qK ?_;intro a H
  refine aG H G G G G (fun _ S=>(aC bU rfl)) ?_;intro a H
  refine aG H G G G G (fun _ S=>(aC bJ rfl)) ?_;intro a H
  refine aG H G G G G (fun _ S=>aF aD rfl (aEh S (i:=0) G G)) ?_;intro a H
  refine aG H G G G G (fun _ S=>(aC bU rfl)) ?_;intro a H
  refine aG H G G G G (fun _ S=>(aC bH rfl)) ?_;intro a H
  refine aG H G G G G (fun _ S=>aF aD rfl (aEh S (i:=0) G G)) ?_;intro a H
  refine aG H G G G G (fun _ S=>Does.to (bX G G) (congrArg Value.bool (decide_eq_false (by omega)))) ?_;intro a H
  refine qF H<|qd G (fun _ S=>(aZ G G G))<|qr 1 G<|qK ?_;intro a H
  refine aG H G G G G (fun _ S=>(aC bU rfl)) ?_;intro a H
  refine aG H G G G G (fun _ S=>(aC bH rfl)) ?_;intro a H
  refine aG H G G G G (fun _ S=>aF aD rfl (aEh S (i:=0) G G)) ?_;intro a H
  refine aG H G G G G (fun _ S=>Does.to (bX G G) (congrArg Value.bool (decide_eq_false (by omega)))) ?_;intro a H
  refine qF H<|qd G (fun _ S=>(aZ G G G))<|qr 1 G<|qK ?_;intro a H
  refine aG H G G G G (fun _ S=>(aC lO rfl)) ?_;intro a H
  refine aG H G G G G (fun _ S=>aF aD rfl (aEh S (i:=0) G G)) ?_;intro a H
  refine aG H G G G G (fun _ S=>Does.to (dE G G) (congrArg Value.bool (decide_eq_true (by omega)))) ?_;intro a H
  refine qF H<|qd G (fun _ S=>(aZ G G G))<|qr 1 G<|qK ?_;intro a H
  refine aK H G G G G G ?_;intro a H
  refine aK H G G G G G ?_;intro a H
  refine aK H G G G G G ?_;intro a H
  refine aK H G G G G G ?_;intro a H
  refine aK H G G G G G ?_;intro a H
  refine aK H G G G G G ?_;intro a H
  refine aK H G G G G G ?_;intro a H
  refine qF H<|qd G (fun _ S=>(aV G G G))<|qK ?_;intro a H
  refine bL ?_
  refine k17 _ _ ?_;refine cond_ H rfl (fun hc7=>?_) (fun hc7=>?_)
  ·skip
   skip
   replace H:=H.keep [] rfl;refine sS H fun K18 k18=>sr 1 G<|sE ?_;intro a H
   refine k18 _ ?_;refine wp_ret ?_;refine ret1 (fn:=Tryz.f75) rfl H rfl ?_;refine ⟨?_,(S.sel [] G G)⟩;unfold stopE;rw [if_pos hesc,if_neg (by unfold stpOk;simp only [decide_eq_true_eq];omega)]
  skip
  exact absurd hc7 (by decide)
 ·skip
  skip
  have hE:=dM hesc
  dsimp only at hE;obtain ⟨hE1,hE2,hE3,hE4,hE5⟩:=hE;replace H:=H.keep [2,3] rfl;replace S:=S.drew;refine seq_wq [(0,true),(1,true),(2,false),(3,false),(4,true),(5,true),(6,true),(7,true),(8,true),(9,true),(10,true),(11,true),(12,true),(13,true),(14,true),(15,true),(16,true),(17,true),(18,true),(19,true),(20,true),(21,true),(22,true),(23,true),(24,true),(25,true),(26,true),(27,true),(28,true),(29,true),(30,true),(31,true),(32,true),(33,true),(34,true),(35,true),(36,true),(37,true),(38,true),(39,true)] (by kernel_rfl) (by kernel_rfl) (S.sel [0,1] rfl rfl) fun K19 k19=>?_
  refine qF H<|qd G (fun _ S=>(aC iC rfl))<|qd G (fun _ S=>aF aD rfl (aEh S (i:=0) G G))<|qK ?_;intro a H
  refine aT rfl ?_
  refine aA H G G Tryz.func118 G G (eC _ _) ?_;clear H a
  rintro _ _ a ⟨rfl,S2⟩ H;replace S:=S.call S2;clear S2;refine wpList_nil (And.intro (S.sel [0,1] rfl rfl) ?_);refine aT rfl ?_;refine aA H rfl rfl Tryz.func117 rfl rfl (cL (by omega)) ?_;clear H a;rintro _ _ a ⟨rfl,S2⟩ H;replace S:=S.call S2;clear S2;refine wpList_nil (And.intro (S.sel [0,1] rfl rfl) ?_);refine qF H<|qr 2 G<|qK ?_;intro a H
  refine aG H G G G G (fun _ S=>(aC bU rfl)) ?_;intro a H
  refine aG H G G G G (fun _ S=>(aC bJ rfl)) ?_;intro a H
  refine aG H G G G G (fun _ S=>aF aD rfl (aEh S (i:=0) G G)) ?_;intro a H
  refine aG H G G G G (fun _ S=>Does.to (dE G G) (congrArg Value.bool (decide_eq_false (by omega)))) ?_;intro a H
  refine qF H<|qd G (fun _ S=>(aZ G G G))<|qr 1 G<|qK ?_;intro a H
  refine aG H G G G G (fun _ S=>(aC bU rfl)) ?_;intro a H
  refine aG H G G G G (fun _ S=>(aC bJ rfl)) ?_;intro a H
  refine aG H G G G G (fun _ S=>aF aD rfl (aEh S (i:=0) G G)) ?_;intro a H
  refine aG H G G G G (fun _ S=>(aC bU rfl)) ?_;intro a H
  refine aG H G G G G (fun _ S=>(aC bH rfl)) ?_;intro a H
  refine aG H G G G G (fun _ S=>aF aD rfl (aEh S (i:=0) G G)) ?_;intro a H
  refine aG H G G G G (fun _ S=>Does.to (bX G G) (congrArg Value.bool (decide_eq_false (by omega)))) ?_;intro a H
  refine qF H<|qd G (fun _ S=>(aZ G G G))<|qr 1 G<|qK ?_;intro a H
  refine aG H G G G G (fun _ S=>(aC bU rfl)) ?_;intro a H
  refine aG H G G G G (fun _ S=>(aC bH rfl)) ?_;intro a H
  refine aG H G G G G (fun _ S=>aF aD rfl (aEh S (i:=0) G G)) ?_;intro a H
  refine aG H G G G G (fun _ S=>Does.to (bX G G) (congrArg Value.bool (decide_eq_false (by omega)))) ?_;intro a H
  refine qF H<|qd G (fun _ S=>(aZ G G G))<|qr 1 G<|qK ?_;intro a H
  refine aG H G G G G (fun _ S=>(aC lO rfl)) ?_;intro a H
  refine aG H G G G G (fun _ S=>aF aD rfl (aEh S (i:=0) G G)) ?_;intro a H
  refine aG H G G G G (fun _ S=>Does.to (dE G G) (congrArg Value.bool (decide_eq_false (by omega)))) ?_;intro a H
  refine qF H<|qd G (fun _ S=>(aZ G G G))<|qr 1 G<|qK ?_;intro a H
  refine aG H G G G G (fun _ S=>(aC lO rfl)) ?_;intro a H
  refine aG H G G G G (fun _ S=>aF aD rfl (aEh S (i:=0) G G)) ?_;intro a H
  refine aG H G G G G (fun _ S=>(aC lQ rfl)) ?_;intro a H
  refine aG H G G G G (fun _ S=>aF nV rfl (aEh S (i:=1) G G)) ?_;intro a H
  refine aG H G G G G (fun _ S=>cE mF rfl) ?_;intro a H
  refine aG H G G G G (fun _ S=>dU G G (by omega) (by omega) (by unfold i64ok;omega)) ?_;intro a H
  refine aG H G G G G (fun _ S=>Does.to (uE G G) (congrArg Value.bool (decide_eq_true (by omega)))) ?_;intro a H
  refine qF H<|qd G (fun _ S=>(aZ G G G))<|qK ?_;intro a H
  refine bL ?_
  refine k19 _ _ ?_;refine cond_ H rfl (fun hc8=>?_) (fun hc8=>?_)
  ·skip
   skip
   replace H:=H.keep [] rfl;refine sS H fun K20 k20=>sr 1 G<|sE ?_;intro a H
   refine k20 _ ?_;refine wp_ret ?_;refine ret1 (fn:=Tryz.f75) rfl H rfl ?_;refine ⟨?_,(S.sel [] G G)⟩;unfold stopE;rw [if_pos hesc,if_neg (by unfold stpOk;simp only [decide_eq_true_eq];omega)]
  skip
  exact absurd hc8 (by decide)
 skip
 have hE:=dM hesc
 dsimp only at hE;obtain ⟨hE1,hE2,hE3,hE4,hE5⟩:=hE;replace H:=H.keep [2,3] rfl;replace S:=S.drew;refine seq_wq [(0,true),(1,true),(2,false),(3,false),(4,true),(5,true),(6,true),(7,true),(8,true),(9,true),(10,true),(11,true),(12,true),(13,true),(14,true),(15,true),(16,true),(17,true),(18,true),(19,true),(20,true),(21,true),(22,true),(23,true),(24,true),(25,true),(26,true),(27,true),(28,true),(29,true),(30,true),(31,true),(32,true),(33,true),(34,true),(35,true),(36,true),(37,true),(38,true),(39,true)] (by kernel_rfl) (by kernel_rfl) (S.sel [0,1] rfl rfl) fun K21 k21=>?_
 refine qF H<|qd G (fun _ S=>(aC iC rfl))<|qd G (fun _ S=>aF aD rfl (aEh S (i:=0) G G))<|qK ?_;intro a H
 refine aT rfl ?_
 refine aA H G G Tryz.func118 G G (eC _ _) ?_;clear H a
 rintro _ _ a ⟨rfl,S2⟩ H;replace S:=S.call S2;clear S2;refine wpList_nil (And.intro (S.sel [0,1] rfl rfl) ?_);refine aT rfl ?_;refine aA H rfl rfl Tryz.func117 rfl rfl (cL (by omega)) ?_;clear H a;rintro _ _ a ⟨rfl,S2⟩ H;replace S:=S.call S2;clear S2;refine wpList_nil (And.intro (S.sel [0,1] rfl rfl) ?_);refine qF H<|qr 2 G<|qK ?_;intro a H
 refine aG H G G G G (fun _ S=>(aC bU rfl)) ?_;intro a H
 refine aG H G G G G (fun _ S=>(aC bJ rfl)) ?_;intro a H
 refine aG H G G G G (fun _ S=>aF aD rfl (aEh S (i:=0) G G)) ?_;intro a H
 refine aG H G G G G (fun _ S=>Does.to (dE G G) (congrArg Value.bool (decide_eq_false (by omega)))) ?_;intro a H
 refine qF H<|qd G (fun _ S=>(aZ G G G))<|qr 1 G<|qK ?_;intro a H
 refine aG H G G G G (fun _ S=>(aC bU rfl)) ?_;intro a H
 refine aG H G G G G (fun _ S=>(aC bJ rfl)) ?_;intro a H
 refine aG H G G G G (fun _ S=>aF aD rfl (aEh S (i:=0) G G)) ?_;intro a H
 refine aG H G G G G (fun _ S=>(aC bU rfl)) ?_;intro a H
 refine aG H G G G G (fun _ S=>(aC bH rfl)) ?_;intro a H
 refine aG H G G G G (fun _ S=>aF aD rfl (aEh S (i:=0) G G)) ?_;intro a H
 refine aG H G G G G (fun _ S=>Does.to (bX G G) (congrArg Value.bool (decide_eq_false (by omega)))) ?_;intro a H
 refine qF H<|qd G (fun _ S=>(aZ G G G))<|qr 1 G<|qK ?_;intro a H
 refine aG H G G G G (fun _ S=>(aC bU rfl)) ?_;intro a H
 refine aG H G G G G (fun _ S=>(aC bH rfl)) ?_;intro a H
 refine aG H G G G G (fun _ S=>aF aD rfl (aEh S (i:=0) G G)) ?_;intro a H
 refine aG H G G G G (fun _ S=>Does.to (bX G G) (congrArg Value.bool (decide_eq_false (by omega)))) ?_;intro a H
 refine qF H<|qd G (fun _ S=>(aZ G G G))<|qr 1 G<|qK ?_;intro a H
 refine aG H G G G G (fun _ S=>(aC lO rfl)) ?_;intro a H
 refine aG H G G G G (fun _ S=>aF aD rfl (aEh S (i:=0) G G)) ?_;intro a H
 refine aG H G G G G (fun _ S=>Does.to (dE G G) (congrArg Value.bool (decide_eq_false (by omega)))) ?_;intro a H
 refine qF H<|qd G (fun _ S=>(aZ G G G))<|qr 1 G<|qK ?_;intro a H
 refine aG H G G G G (fun _ S=>(aC lO rfl)) ?_;intro a H
 refine aG H G G G G (fun _ S=>aF aD rfl (aEh S (i:=0) G G)) ?_;intro a H
 refine aG H G G G G (fun _ S=>(aC lQ rfl)) ?_;intro a H
 refine aG H G G G G (fun _ S=>aF nV rfl (aEh S (i:=1) G G)) ?_;intro a H
 refine aG H G G G G (fun _ S=>cE mF rfl) ?_;intro a H
 refine aG H G G G G (fun _ S=>dU G G (by omega) (by omega) (by unfold i64ok;omega)) ?_;intro a H
 refine aG H G G G G (fun _ S=>Does.to (uE G G) (congrArg Value.bool (decide_eq_false (by omega)))) ?_;intro a H
 refine qF H<|qd G (fun _ S=>(aZ G G G))<|qK ?_;intro a H
 refine bL ?_
 refine k21 _ _ ?_;refine cond_ H rfl (fun hc9=>?_) (fun hc9=>?_)
 ·skip
  skip
  exact absurd hc9 (by decide)
 skip
 refine wp_skip ?_;refine k8 _ _ ?_;replace H:=H.keep [] rfl;refine sS H fun K22 k22=>sr 1 G<|sE ?_;intro a H
 refine k22 _ ?_;refine wp_ret ?_;refine ret1 (fn:=Tryz.f75) rfl H rfl ?_;refine ⟨?_,(S.sel [] G G)⟩;unfold stopE;rw [if_pos hesc,if_pos (by unfold stpOk;simp only [decide_eq_true_eq];omega)]
theorem qV (up:Bool) (empty pull drag motor:Int) (br:List Brake) (BA:Option Addr) (bcp:Nat) (sp slo shi sfail:Int) (mb:Nat) (v:Int) (t:Nat) (x:Int) (w:World) (F:Nat→Prop) (S:St w F [boxM mb 231 [.bool up,.int .i64 empty,.int .i64 pull,.int .i64 drag,.int .i64 motor,.slice BA br.length bcp,.int .i64 sp,.int .i64 slo,.int .i64 shi,.int .i64 sfail,.int .i64 (v),.int .i64 (t:Int)]] w) (hb:InS w F 2 BA br.length (bcell br)) (hesc:escOk (⟨up,empty,pull,drag,motor,br⟩:Esc)=true) (hstp:stpOk (⟨up,empty,pull,drag,motor,br⟩:Esc) (⟨sp,slo,shi,sfail⟩:Stp)=true) (hx:slo≤x∧x≤shi) (ht:t≤1000) (hv : -900000000000≤v∧v≤900000000000) :
    Calls Tryz.prog 148 [.pointer (some ⟨mb,0,none⟩),.int .i64 x].toArray w (Ret (fun u w'=>u = .int .i64 (tickI (⟨up,empty,pull,drag,motor,br⟩:Esc) v x (gripI (⟨up,empty,pull,drag,motor,br⟩:Esc) (⟨sp,slo,shi,sfail⟩:Stp) (t:Int)))∧St w F [boxM mb 231 [.bool up,.int .i64 empty,.int .i64 pull,.int .i64 drag,.int .i64 motor,.slice BA br.length bcp,.int .i64 sp,.int .i64 slo,.int .i64 shi,.int .i64 sfail,.int .i64 (tickI (⟨up,empty,pull,drag,motor,br⟩:Esc) v x (gripI (⟨up,empty,pull,drag,motor,br⟩:Esc) (⟨sp,slo,shi,sfail⟩:Stp) (t:Int))),.int .i64 ((t:Int)+1)]] w')):=by
 have hE:=dM hesc
 dsimp only at hE;obtain ⟨hE1,hE2,hE3,hE4,hE5⟩:=hE;have hS1:=hstp;unfold stpOk at hS1;simp only [decide_eq_true_eq] at hS1;have hgb:=Au (fail:=sfail) (t:=t) (l:=br) (by unfold escOk at hesc;simp only [Bool.and_eq_true] at hesc;exact hesc.2) br.length (Nat.le_refl _);have hgr:0≤gripI (⟨up,empty,pull,drag,motor,br⟩:Esc) (⟨sp,slo,shi,sfail⟩:Stp) (t:Int)∧gripI (⟨up,empty,pull,drag,motor,br⟩:Esc) (⟨sp,slo,shi,sfail⟩:Stp) (t:Int)≤30000000:=by unfold gripI;dsimp only;omega
 refine enter Tryz.func148 rfl Tryz.ntmps148 rfl (fun a H=>?_)
 skip
 refine sS H fun K1 k1=>sr 1 G<|sE ?_;intro a H
 refine k1 _ ?_;replace H:=H.keep [0,1] rfl;replace S:=S.drew;refine seq_wt 15 (.p 0 (.p 1 (.p 2 (.p 3 (.p 5 (.p 6 (.p 7 (.p 9 (.p 10 (.b3 4 (.b2 8 (.e 11 (.e 12 (.p 13 (.p 14 (.e 15 .nil))))) 11 (.e 8 (.e 12 (.p 13 (.p 14 (.e 15 .nil)))))) 8 (.b2 4 (.e 11 (.e 12 (.p 13 (.p 14 (.e 15 .nil))))) 11 (.e 4 (.e 12 (.p 13 (.p 14 (.e 15 .nil)))))) 11 (.b2 4 (.e 8 (.e 12 (.p 13 (.p 14 (.e 15 .nil))))) 8 (.e 4 (.e 12 (.p 13 (.p 14 (.e 15 .nil)))))))))))))))) (by kernel_rfl) (by kernel_rfl) (S.sel [0] G G) fun K2 k2=>?_
 refine aW H G G (fun _=>aL rfl) ?_;intro a H
 refine aW H G G (fun _=>aL rfl) ?_;intro a H
 refine aW H G G (fun _=>bN rfl) ?_;intro a H
 refine aW H G G (fun _=>(aC Cg rfl)) ?_;intro a H
 refine aW H G G (fun _=>aL rfl) ?_;intro a H
 refine aW H G G (fun _=>bN rfl) ?_;intro a H
 refine aW H G G (fun _=>(aC cS rfl)) ?_;intro a H
 refine aW H G G (fun _=>aL rfl) ?_;intro a H
 refine aW H G G (fun _=>aL rfl) ?_;intro a H
 refine xR G G G ?_ ?_ ?_
 ·skip
  refine ls 1 H<|sd ((aB gC iX rfl S (i:=0) G G))<|sE ?_;intro a H
  refine wpList_nil (And.intro (Or.inr (S.sel [0] G G)) ?_);refine eF G G ?_ ?_
  ·skip
   refine ls 1 H<|sl S 0 aD G G G<|sE ?_;intro a H
   refine wpList_nil (And.intro (Or.inr (S.sel [0] rfl rfl)) ?_);refine aM rfl ?_;have S1:=(S.sel [0] rfl rfl);refine aA H rfl rfl Tryz.func179 rfl rfl (nQ up empty pull drag motor br BA bcp sp slo shi sfail mb v t _ _ S1.startR (hb.nowR S1) hesc hstp) ?_;clear H a;rintro _ _ a ⟨rfl,S2⟩ H;replace S:=(S.sel [0] rfl rfl).callR (M:=[_]) S2;clear S1 S2;refine wpList_nil (And.intro (Or.inr (S.sel [0] rfl rfl)) ?_);refine aM rfl ?_;refine aA H rfl rfl Tryz.func178 rfl rfl (lX up empty pull drag motor br BA bcp v x _ _ hesc (by omega) (by omega) (by omega)) ?_;clear H a;rintro _ _ a ⟨rfl,S2⟩ H;replace S:=S.call S2;clear S2;refine wpList_nil (And.intro (Or.inr (S.sel [0] rfl rfl)) ?_);refine aW H rfl rfl (fun _=>bN rfl) ?_;intro a H;refine aW H rfl rfl (fun _=>(aC cS rfl)) ?_;intro a H;refine aM rfl ?_;refine aE H S (i:=0) rfl rfl rfl rfl aX rfl rfl ?_;clear H a S;intro _ a S H;refine wpList_nil (And.intro (Or.inl rfl) ?_);refine bD ?_;refine k2 _ _ ?_;replace H:=H.keep [0] rfl;refine seq_list fun K3 k3=>?_
   refine ls 7 H<|sr 2 G<|sf eH rfl<|sl S 0 aD G G G<|sd (aI G G (by unfold i64ok;omega))<|sr 1 G<|sf eH rfl<|sE ?_;intro a H
   refine aE H S (i:=0) G G G G aX G G ?_
   clear H a S;intro _ a S H;refine k3 _ _ ?_;replace H:=H.keep [0] rfl;refine sS H fun K4 k4=>sr 2 G<|sf cS rfl<|sl S 0 aD G G G<|sr 1 G<|sE ?_;intro a H
   refine k4 _ ?_;refine wp_ret ?_;refine ret1 (fn:=Tryz.f148) rfl H rfl ?_;exact ⟨rfl,(S.sel [0] G G)⟩
  ·skip
   have S1:=(S.sel [0] G G)
   refine aA H G G Tryz.func179 G G (nQ up empty pull drag motor br BA bcp sp slo shi sfail mb v t _ _ S1.startR (hb.nowR S1) hesc hstp) ?_;clear H a
   rintro _ _ a ⟨rfl,S2⟩ H;replace S:=(S.sel [0] rfl rfl).callR (M:=[_]) S2;clear S1 S2;refine wpList_nil (And.intro (Or.inr (S.sel [0] rfl rfl)) ?_);refine aM rfl ?_;refine ls 1 H<|sl S 0 aD rfl rfl rfl<|sE ?_;intro a H
   refine wpList_nil (And.intro (Or.inr (S.sel [0] rfl rfl)) ?_);refine aM rfl ?_;refine aA H rfl rfl Tryz.func178 rfl rfl (lX up empty pull drag motor br BA bcp v x _ _ hesc (by omega) (by omega) (by omega)) ?_;clear H a;rintro _ _ a ⟨rfl,S2⟩ H;replace S:=S.call S2;clear S2;refine wpList_nil (And.intro (Or.inr (S.sel [0] rfl rfl)) ?_);refine aW H rfl rfl (fun _=>bN rfl) ?_;intro a H;refine aW H rfl rfl (fun _=>(aC cS rfl)) ?_;intro a H;refine aM rfl ?_;refine aE H S (i:=0) rfl rfl rfl rfl aX rfl rfl ?_;clear H a S;intro _ a S H;refine wpList_nil (And.intro (Or.inl rfl) ?_);refine bD ?_;refine k2 _ _ ?_;replace H:=H.keep [0] rfl;refine seq_list fun K5 k5=>?_
   refine ls 7 H<|sr 2 G<|sf eH rfl<|sl S 0 aD G G G<|sd (aI G G (by unfold i64ok;omega))<|sr 1 G<|sf eH rfl<|sE ?_;intro a H
   refine aE H S (i:=0) G G G G aX G G ?_
   clear H a S;intro _ a S H;refine k5 _ _ ?_;replace H:=H.keep [0] rfl;refine sS H fun K6 k6=>sr 2 G<|sf cS rfl<|sl S 0 aD G G G<|sr 1 G<|sE ?_;intro a H
   refine k6 _ ?_;refine wp_ret ?_;refine ret1 (fn:=Tryz.f148) rfl H rfl ?_;exact ⟨rfl,(S.sel [0] G G)⟩
 ·skip
  refine ls 1 H<|sl S 0 aD G G G<|sE ?_;intro a H
  refine wpList_nil (And.intro (Or.inr (S.sel [0] G G)) ?_);refine eF G G ?_ ?_
  ·skip
   refine ls 1 H<|sd ((aB gC iX rfl S (i:=0) G G))<|sE ?_;intro a H
   refine wpList_nil (And.intro (Or.inr (S.sel [0] rfl rfl)) ?_);refine aM rfl ?_;have S1:=(S.sel [0] rfl rfl);refine aA H rfl rfl Tryz.func179 rfl rfl (nQ up empty pull drag motor br BA bcp sp slo shi sfail mb v t _ _ S1.startR (hb.nowR S1) hesc hstp) ?_;clear H a;rintro _ _ a ⟨rfl,S2⟩ H;replace S:=(S.sel [0] rfl rfl).callR (M:=[_]) S2;clear S1 S2;refine wpList_nil (And.intro (Or.inr (S.sel [0] rfl rfl)) ?_);refine aM rfl ?_;refine aA H rfl rfl Tryz.func178 rfl rfl (lX up empty pull drag motor br BA bcp v x _ _ hesc (by omega) (by omega) (by omega)) ?_;clear H a;rintro _ _ a ⟨rfl,S2⟩ H;replace S:=S.call S2;clear S2;refine wpList_nil (And.intro (Or.inr (S.sel [0] rfl rfl)) ?_);refine aW H rfl rfl (fun _=>bN rfl) ?_;intro a H;refine aW H rfl rfl (fun _=>(aC cS rfl)) ?_;intro a H;refine aM rfl ?_;refine aE H S (i:=0) rfl rfl rfl rfl aX rfl rfl ?_;clear H a S;intro _ a S H;refine wpList_nil (And.intro (Or.inl rfl) ?_);refine bD ?_;refine k2 _ _ ?_;replace H:=H.keep [0] rfl;refine seq_list fun K7 k7=>?_
   refine ls 7 H<|sr 2 G<|sf eH rfl<|sl S 0 aD G G G<|sd (aI G G (by unfold i64ok;omega))<|sr 1 G<|sf eH rfl<|sE ?_;intro a H
   refine aE H S (i:=0) G G G G aX G G ?_
   clear H a S;intro _ a S H;refine k7 _ _ ?_;replace H:=H.keep [0] rfl;refine sS H fun K8 k8=>sr 2 G<|sf cS rfl<|sl S 0 aD G G G<|sr 1 G<|sE ?_;intro a H
   refine k8 _ ?_;refine wp_ret ?_;refine ret1 (fn:=Tryz.f148) rfl H rfl ?_;exact ⟨rfl,(S.sel [0] G G)⟩
  ·skip
   have S1:=(S.sel [0] G G)
   refine aA H G G Tryz.func179 G G (nQ up empty pull drag motor br BA bcp sp slo shi sfail mb v t _ _ S1.startR (hb.nowR S1) hesc hstp) ?_;clear H a
   rintro _ _ a ⟨rfl,S2⟩ H;replace S:=(S.sel [0] rfl rfl).callR (M:=[_]) S2;clear S1 S2;refine wpList_nil (And.intro (Or.inr (S.sel [0] rfl rfl)) ?_);refine aM rfl ?_;refine ls 1 H<|sd ((aB gC iX rfl S (i:=0) rfl rfl))<|sE ?_;intro a H
   refine wpList_nil (And.intro (Or.inr (S.sel [0] rfl rfl)) ?_);refine aM rfl ?_;refine aA H rfl rfl Tryz.func178 rfl rfl (lX up empty pull drag motor br BA bcp v x _ _ hesc (by omega) (by omega) (by omega)) ?_;clear H a;rintro _ _ a ⟨rfl,S2⟩ H;replace S:=S.call S2;clear S2;refine wpList_nil (And.intro (Or.inr (S.sel [0] rfl rfl)) ?_);refine aW H rfl rfl (fun _=>bN rfl) ?_;intro a H;refine aW H rfl rfl (fun _=>(aC cS rfl)) ?_;intro a H;refine aM rfl ?_;refine aE H S (i:=0) rfl rfl rfl rfl aX rfl rfl ?_;clear H a S;intro _ a S H;refine wpList_nil (And.intro (Or.inl rfl) ?_);refine bD ?_;refine k2 _ _ ?_;replace H:=H.keep [0] rfl;refine seq_list fun K9 k9=>?_
   refine ls 7 H<|sr 2 G<|sf eH rfl<|sl S 0 aD G G G<|sd (aI G G (by unfold i64ok;omega))<|sr 1 G<|sf eH rfl<|sE ?_;intro a H
   refine aE H S (i:=0) G G G G aX G G ?_
   clear H a S;intro _ a S H;refine k9 _ _ ?_;replace H:=H.keep [0] rfl;refine sS H fun K10 k10=>sr 2 G<|sf cS rfl<|sl S 0 aD G G G<|sr 1 G<|sE ?_;intro a H
   refine k10 _ ?_;refine wp_ret ?_;refine ret1 (fn:=Tryz.f148) rfl H rfl ?_;exact ⟨rfl,(S.sel [0] G G)⟩
 ·skip
  have S1:=(S.sel [0] G G)
  refine aA H G G Tryz.func179 G G (nQ up empty pull drag motor br BA bcp sp slo shi sfail mb v t _ _ S1.startR (hb.nowR S1) hesc hstp) ?_;clear H a
  rintro _ _ a ⟨rfl,S2⟩ H;replace S:=(S.sel [0] rfl rfl).callR (M:=[_]) S2;clear S1 S2;refine wpList_nil (And.intro (Or.inr (S.sel [0] rfl rfl)) ?_);refine eF rfl rfl ?_ ?_
  ·skip
   refine ls 1 H<|sd ((aB gC iX rfl S (i:=0) G G))<|sE ?_;intro a H
   refine wpList_nil (And.intro (Or.inr (S.sel [0] G G)) ?_);refine aM rfl ?_;refine ls 1 H<|sl S 0 aD G G G<|sE ?_;intro a H
   refine wpList_nil (And.intro (Or.inr (S.sel [0] rfl rfl)) ?_);refine aM rfl ?_;refine aA H rfl rfl Tryz.func178 rfl rfl (lX up empty pull drag motor br BA bcp v x _ _ hesc (by omega) (by omega) (by omega)) ?_;clear H a;rintro _ _ a ⟨rfl,S2⟩ H;replace S:=S.call S2;clear S2;refine wpList_nil (And.intro (Or.inr (S.sel [0] rfl rfl)) ?_);refine aW H rfl rfl (fun _=>bN rfl) ?_;intro a H;refine aW H rfl rfl (fun _=>(aC cS rfl)) ?_;intro a H;refine aM rfl ?_;refine aE H S (i:=0) rfl rfl rfl rfl aX rfl rfl ?_;clear H a S;intro _ a S H;refine wpList_nil (And.intro (Or.inl rfl) ?_);refine bD ?_;refine k2 _ _ ?_;replace H:=H.keep [0] rfl;refine seq_list fun K11 k11=>?_
   refine ls 7 H<|sr 2 G<|sf eH rfl<|sl S 0 aD G G G<|sd (aI G G (by unfold i64ok;omega))<|sr 1 G<|sf eH rfl<|sE ?_;intro a H
   refine aE H S (i:=0) G G G G aX G G ?_
   clear H a S;intro _ a S H;refine k11 _ _ ?_;replace H:=H.keep [0] rfl;refine sS H fun K12 k12=>sr 2 G<|sf cS rfl<|sl S 0 aD G G G<|sr 1 G<|sE ?_;intro a H
   refine k12 _ ?_;refine wp_ret ?_;refine ret1 (fn:=Tryz.f148) rfl H rfl ?_;exact ⟨rfl,(S.sel [0] G G)⟩
  ·skip
   refine ls 1 H<|sl S 0 aD G G G<|sE ?_;intro a H
   refine wpList_nil (And.intro (Or.inr (S.sel [0] G G)) ?_);refine aM rfl ?_;refine ls 1 H<|sd ((aB gC iX rfl S (i:=0) G G))<|sE ?_;intro a H
   refine wpList_nil (And.intro (Or.inr (S.sel [0] rfl rfl)) ?_);refine aM rfl ?_;refine aA H rfl rfl Tryz.func178 rfl rfl (lX up empty pull drag motor br BA bcp v x _ _ hesc (by omega) (by omega) (by omega)) ?_;clear H a;rintro _ _ a ⟨rfl,S2⟩ H;replace S:=S.call S2;clear S2;refine wpList_nil (And.intro (Or.inr (S.sel [0] rfl rfl)) ?_);refine aW H rfl rfl (fun _=>bN rfl) ?_;intro a H;refine aW H rfl rfl (fun _=>(aC cS rfl)) ?_;intro a H;refine aM rfl ?_;refine aE H S (i:=0) rfl rfl rfl rfl aX rfl rfl ?_;clear H a S;intro _ a S H;refine wpList_nil (And.intro (Or.inl rfl) ?_);refine bD ?_;refine k2 _ _ ?_;replace H:=H.keep [0] rfl;refine seq_list fun K13 k13=>?_
   refine ls 7 H<|sr 2 G<|sf eH rfl<|sl S 0 aD G G G<|sd (aI G G (by unfold i64ok;omega))<|sr 1 G<|sf eH rfl<|sE ?_;intro a H
   refine aE H S (i:=0) G G G G aX G G ?_
   clear H a S;intro _ a S H;refine k13 _ _ ?_;replace H:=H.keep [0] rfl;refine sS H fun K14 k14=>sr 2 G<|sf cS rfl<|sl S 0 aD G G G<|sr 1 G<|sE ?_;intro a H
   refine k14 _ ?_;refine wp_ret ?_;refine ret1 (fn:=Tryz.f148) rfl H rfl ?_;exact ⟨rfl,(S.sel [0] G G)⟩
end
section
theorem tD (up:Bool) (empty pull drag motor:Int) (br:List Brake) (BA:Option Addr) (bcp:Nat) (sp slo shi sfail:Int) (mb:Nat) (v:Int) (t:Nat) (most:Bool) (w:World) (F:Nat→Prop) (S:St w F [boxM mb 231 [.bool up,.int .i64 empty,.int .i64 pull,.int .i64 drag,.int .i64 motor,.slice BA br.length bcp,.int .i64 sp,.int .i64 slo,.int .i64 shi,.int .i64 sfail,.int .i64 (v),.int .i64 (t:Int)]] w) (hb:InS w F 2 BA br.length (bcell br)) (hesc:escOk (⟨up,empty,pull,drag,motor,br⟩:Esc)=true) (hstp:stpOk (⟨up,empty,pull,drag,motor,br⟩:Esc) (⟨sp,slo,shi,sfail⟩:Stp)=true) (ht:t≤1000) (hv : -900000000000≤v∧v≤900000000000) :
    Calls Tryz.prog 119 [.pointer (some ⟨mb,0,none⟩),.bool most].toArray w (Ret (fun u w'=>∃ n:Int,u = .int .i64 n∧St w F [boxM mb 231 [.bool up,.int .i64 empty,.int .i64 pull,.int .i64 drag,.int .i64 motor,.slice BA br.length bcp,.int .i64 sp,.int .i64 slo,.int .i64 shi,.int .i64 sfail,.int .i64 (extI (⟨up,empty,pull,drag,motor,br⟩:Esc) (⟨sp,slo,shi,sfail⟩:Stp) most v (t:Int)),.int .i64 ((t:Int)+1)]] w')):=by
 have hE:=dM hesc
 dsimp only at hE;obtain ⟨hE1,hE2,hE3,hE4,hE5⟩:=hE;have hS1:=hstp;unfold stpOk at hS1;simp only [decide_eq_true_eq] at hS1;refine enter Tryz.func119 rfl Tryz.ntmps119 rfl (fun a H=>?_);skip;refine sS H fun K1 k1=>sr 1 G<|sE ?_;intro a H
 refine k1 _ ?_;replace H:=H.keep [0,1] rfl;replace S:=S.drew;refine seq_wt 999999 (.q 0 (.q 1 (.q 2 (.q 3 (.q 4 (.q 5 (.b2 6 (.e 7 (.e 8 (.e 9 .nil))) 7 (.e 6 (.e 8 (.e 9 .nil)))))))))) (by kernel_rfl) (by kernel_rfl) (S.sel [0] G G) fun K2 k2=>?_
 refine aH H G G (fun _ S=>aL rfl) ?_;intro a H
 refine aH H G G (fun _ S=>bN rfl) ?_;intro a H
 refine aH H G G (fun _ S=>(aB nW gH rfl S (i:=0) G G)) ?_;intro a H
 refine aH H G G (fun _ S=>aL rfl) ?_;intro a H
 refine aH H G G (fun _ S=>bN rfl) ?_;intro a H
 refine aH H G G (fun _ S=>(aB nW gH rfl S (i:=0) G G)) ?_;intro a H
 refine eF G G ?_ ?_
 ·skip
  refine aJ H rfl S rS ?_;intro b5 _ a hb5 hbw5 S H
  refine wpList_nil (And.intro (Or.inr (S.sel [1] G G)) ?_);refine aM rfl ?_;refine aJ H rfl S rS ?_;intro b6 _ a hb6 hbw6 S H;refine wpList_nil (And.intro (Or.inr (S.sel [2] G G)) ?_);refine aM rfl ?_;refine aE H S (i:=1) G G G G gH G G ?_;clear H a S;intro _ a S H;refine wpList_nil (And.intro (Or.inr (S.sel [2] G G)) ?_);refine aM rfl ?_;refine aE H S (i:=0) G G G G gH G G ?_;clear H a S;intro _ a S H;refine wpList_nil (And.intro (Or.inr (S.sel [2] G G)) ?_);refine bD ?_;refine k2 _ _ ?_;replace H:=H.keep [0,1,5,6] rfl;replace S:=S.drew;refine seq_wq [(0,true),(1,true),(2,true),(3,true),(4,true),(5,true),(7,true),(8,true),(9,true),(10,true),(11,true),(12,true),(6,false),(13,false),(14,true),(15,true)] (by kernel_rfl) (by kernel_rfl) (S.sel [2] G G) fun K3 k3=>?_
  refine qF H<|qr 2 G<|qd G (fun _ S=>(aC iD rfl))<|qd G (fun _ S=>(aC bU rfl))<|qd G (fun _ S=>(aC bJ rfl))<|qd G (fun _ S=>aF aD rfl (aEh S (i:=0) G G))<|qr 2 G<|qd G (fun _ S=>(aC iD rfl))<|qd G (fun _ S=>(aC bU rfl))<|qd G (fun _ S=>(aC bH rfl))<|qd G (fun _ S=>aF aD rfl (aEh S (i:=0) G G))<|qK ?_;intro a H
  refine aT rfl ?_
  have S1:=(S.sel [1] G G)
  refine aA H G G Tryz.func148 G G (qV up empty pull drag motor br BA bcp sp slo shi sfail b5 v t slo _ _ S1.startR (hb.nowR S1) hesc hstp (by omega) (by omega) (by omega)) ?_;clear H a
  rintro _ _ a ⟨rfl,S2⟩ H;replace S:=(S.sel [1,0,2] rfl rfl).callR (M:=[_]) S2;clear S1 S2;refine wpList_nil (And.intro (S.sel [2] rfl rfl) ?_);refine aT rfl ?_;have S1:=(S.sel [1] rfl rfl);refine aA H rfl rfl Tryz.func148 rfl rfl (qV up empty pull drag motor br BA bcp sp slo shi sfail b6 v t shi _ _ S1.startR (hb.nowR S1) hesc hstp (by omega) (by omega) (by omega)) ?_;clear H a;rintro _ _ a ⟨rfl,S2⟩ H;replace S:=(S.sel [1,0,2] rfl rfl).callR (M:=[_]) S2;clear S1 S2;refine wpList_nil (And.intro (S.sel [2] rfl rfl) ?_);refine qF H<|qr 2 G<|qK ?_;intro a H
  refine bL ?_
  refine k3 _ _ ?_;refine wp_seq_k fun K4 k4=>?_
  replace H:=H.keep [0,1,5,6,7,8] rfl;refine sS H fun K5 k5=>sr 2 G<|sg 3 1 30 33 true G G (fun hg2=>sy hg2<|sr 1 G<|sy hg2<|sr 1 G<|sy hg2<|sr 1 G<|sz 3 G G G)<|sa G G G<|sr 1 G<|sg 7 6 35 42 false G G (fun hg7=>sy hg7<|sr 1 G<|sy hg7<|sr 1 G<|sy hg7<|sr 1 G<|sg 3 9 38 41 true G G (fun hg10=>sy hg10<|sr 1 G<|sy hg10<|sr 1 G<|sy hg10<|sr 1 G<|sz 3 G G G)<|sy hg7<|sa G G G<|sz 5 G G G)<|so G G G<|sE ?_;intro a H
  refine k5 _ ?_;refine cond_ H rfl (fun hc1=>?_) (fun hc1=>?_)
  ·skip
   try simp only [oz] at hc1
   have hcx:=hc1
   replace H:=H.keep [0,6] rfl;refine seq_list fun K6 k6=>?_
   refine ls 3 H<|sr 1 G<|sd ((aB nW gH rfl S (i:=0) G G))<|sr 1 G<|sE ?_;intro a H
   refine aE H S (i:=2) G G G G gH G G ?_
   clear H a S;intro _ a S H;refine k6 _ _ ?_;replace H:=H.keep [0] rfl;refine sS H fun K7 k7=>sr 2 G<|sf iD rfl<|sf bU rfl<|sf bH rfl<|sl S 2 aD G G G<|sr 1 G<|sE ?_;intro a H
   refine k7 _ ?_;refine wp_ret ?_;refine ret1 (fn:=Tryz.f119) rfl H rfl ?_;first|(rw [Av (by cases most <;> simp at hcx ⊢ <;> omega)];exact ⟨_,rfl,(S.sel [2] G G)⟩)|(rw [Aw (by cases most <;> simp at hcx ⊢ <;> omega)];exact ⟨_,rfl,(S.sel [2] G G)⟩)
  try simp only [oz] at hc1
  have hcx:=hc1
  refine wp_skip ?_;refine k4 _ _ ?_;replace H:=H.keep [0,5] rfl;refine seq_list fun K8 k8=>?_
  refine ls 3 H<|sr 1 G<|sd ((aB nW gH rfl S (i:=1) G G))<|sr 1 G<|sE ?_;intro a H
  refine aE H S (i:=2) G G G G gH G G ?_
  clear H a S;intro _ a S H;refine k8 _ _ ?_;replace H:=H.keep [0] rfl;refine sS H fun K9 k9=>sr 2 G<|sf iD rfl<|sf bU rfl<|sf bJ rfl<|sl S 2 aD G G G<|sr 1 G<|sE ?_;intro a H
  refine k9 _ ?_;refine wp_ret ?_;refine ret1 (fn:=Tryz.f119) rfl H rfl ?_;first|(rw [Av (by cases most <;> simp at hcx ⊢ <;> omega)];exact ⟨_,rfl,(S.sel [2] G G)⟩)|(rw [Aw (by cases most <;> simp at hcx ⊢ <;> omega)];exact ⟨_,rfl,(S.sel [2] G G)⟩)
 ·skip
  refine aJ H rfl S rS ?_;intro b6 _ a hb6 hbw6 S H
  refine wpList_nil (And.intro (Or.inr (S.sel [1] G G)) ?_);refine aM rfl ?_;refine aJ H rfl S rS ?_;intro b5 _ a hb5 hbw5 S H;refine wpList_nil (And.intro (Or.inr (S.sel [2] G G)) ?_);refine aM rfl ?_;refine aE H S (i:=0) G G G G gH G G ?_;clear H a S;intro _ a S H;refine wpList_nil (And.intro (Or.inr (S.sel [2] G G)) ?_);refine aM rfl ?_;refine aE H S (i:=1) G G G G gH G G ?_;clear H a S;intro _ a S H;refine wpList_nil (And.intro (Or.inr (S.sel [2] G G)) ?_);refine bD ?_;refine k2 _ _ ?_;replace H:=H.keep [0,1,5,6] rfl;replace S:=S.drew;refine seq_wq [(0,true),(1,true),(2,true),(3,true),(4,true),(5,true),(7,true),(8,true),(9,true),(10,true),(11,true),(12,true),(6,false),(13,false),(14,true),(15,true)] (by kernel_rfl) (by kernel_rfl) (S.sel [2] G G) fun K10 k10=>?_
  refine qF H<|qr 2 G<|qd G (fun _ S=>(aC iD rfl))<|qd G (fun _ S=>(aC bU rfl))<|qd G (fun _ S=>(aC bJ rfl))<|qd G (fun _ S=>aF aD rfl (aEh S (i:=0) G G))<|qr 2 G<|qd G (fun _ S=>(aC iD rfl))<|qd G (fun _ S=>(aC bU rfl))<|qd G (fun _ S=>(aC bH rfl))<|qd G (fun _ S=>aF aD rfl (aEh S (i:=0) G G))<|qK ?_;intro a H
  refine aT rfl ?_
  have S1:=(S.sel [0] G G)
  refine aA H G G Tryz.func148 G G (qV up empty pull drag motor br BA bcp sp slo shi sfail b5 v t slo _ _ S1.startR (hb.nowR S1) hesc hstp (by omega) (by omega) (by omega)) ?_;clear H a
  rintro _ _ a ⟨rfl,S2⟩ H;replace S:=(S.sel [0,1,2] rfl rfl).callR (M:=[_]) S2;clear S1 S2;refine wpList_nil (And.intro (S.sel [2] rfl rfl) ?_);refine aT rfl ?_;have S1:=(S.sel [1] rfl rfl);refine aA H rfl rfl Tryz.func148 rfl rfl (qV up empty pull drag motor br BA bcp sp slo shi sfail b6 v t shi _ _ S1.startR (hb.nowR S1) hesc hstp (by omega) (by omega) (by omega)) ?_;clear H a;rintro _ _ a ⟨rfl,S2⟩ H;replace S:=(S.sel [1,0,2] rfl rfl).callR (M:=[_]) S2;clear S1 S2;refine wpList_nil (And.intro (S.sel [2] rfl rfl) ?_);refine qF H<|qr 2 G<|qK ?_;intro a H
  refine bL ?_
  refine k10 _ _ ?_;refine wp_seq_k fun K11 k11=>?_
  replace H:=H.keep [0,1,5,6,7,8] rfl;refine sS H fun K12 k12=>sr 2 G<|sg 3 1 30 33 true G G (fun hg2=>sy hg2<|sr 1 G<|sy hg2<|sr 1 G<|sy hg2<|sr 1 G<|sz 3 G G G)<|sa G G G<|sr 1 G<|sg 7 6 35 42 false G G (fun hg7=>sy hg7<|sr 1 G<|sy hg7<|sr 1 G<|sy hg7<|sr 1 G<|sg 3 9 38 41 true G G (fun hg10=>sy hg10<|sr 1 G<|sy hg10<|sr 1 G<|sy hg10<|sr 1 G<|sz 3 G G G)<|sy hg7<|sa G G G<|sz 5 G G G)<|so G G G<|sE ?_;intro a H
  refine k12 _ ?_;refine cond_ H rfl (fun hc2=>?_) (fun hc2=>?_)
  ·skip
   try simp only [oz] at hc2
   have hcx:=hc2
   replace H:=H.keep [0,6] rfl;refine seq_list fun K13 k13=>?_
   refine ls 3 H<|sr 1 G<|sd ((aB nW gH rfl S (i:=0) G G))<|sr 1 G<|sE ?_;intro a H
   refine aE H S (i:=2) G G G G gH G G ?_
   clear H a S;intro _ a S H;refine k13 _ _ ?_;replace H:=H.keep [0] rfl;refine sS H fun K14 k14=>sr 2 G<|sf iD rfl<|sf bU rfl<|sf bH rfl<|sl S 2 aD G G G<|sr 1 G<|sE ?_;intro a H
   refine k14 _ ?_;refine wp_ret ?_;refine ret1 (fn:=Tryz.f119) rfl H rfl ?_;first|(rw [Av (by cases most <;> simp at hcx ⊢ <;> omega)];exact ⟨_,rfl,(S.sel [2] G G)⟩)|(rw [Aw (by cases most <;> simp at hcx ⊢ <;> omega)];exact ⟨_,rfl,(S.sel [2] G G)⟩)
  try simp only [oz] at hc2
  have hcx:=hc2
  refine wp_skip ?_;refine k11 _ _ ?_;replace H:=H.keep [0,5] rfl;refine seq_list fun K15 k15=>?_
  refine ls 3 H<|sr 1 G<|sd ((aB nW gH rfl S (i:=1) G G))<|sr 1 G<|sE ?_;intro a H
  refine aE H S (i:=2) G G G G gH G G ?_
  clear H a S;intro _ a S H;refine k15 _ _ ?_;replace H:=H.keep [0] rfl;refine sS H fun K16 k16=>sr 2 G<|sf iD rfl<|sf bU rfl<|sf bJ rfl<|sl S 2 aD G G G<|sr 1 G<|sE ?_;intro a H
  refine k16 _ ?_;refine wp_ret ?_;refine ret1 (fn:=Tryz.f119) rfl H rfl ?_;first|(rw [Av (by cases most <;> simp at hcx ⊢ <;> omega)];exact ⟨_,rfl,(S.sel [2] G G)⟩)|(rw [Aw (by cases most <;> simp at hcx ⊢ <;> omega)];exact ⟨_,rfl,(S.sel [2] G G)⟩)
theorem Ax {e:Esc} {s:Stp} {m:Bool} {g:Nat} {v t:Int} (hg:0<g) (hv:v≠0):goI e s m g v t=(extI e s m v t+(goI e s m (g-1) (extI e s m v t) (t+1)).1,(goI e s m (g-1) (extI e s m v t) (t+1)).2):=by
 obtain ⟨n,rfl⟩:∃ n,g=n+1:=⟨g-1,by omega⟩;rw [goI,if_neg hv,Nat.add_sub_cancel]
theorem Wm {e:Esc} {s:Stp} {m:Bool} {g:Nat} {v t:Int} (h:v=0∨g=0):goI e s m g v t=(0,decide (v=0)):=by
  cases g with
  | zero=>rfl
  | succ n=>
    rcases h with h|h
    · rw [goI,if_pos h,decide_eq_true h]
    · cases h
theorem aBo {e:Esc} {s:Stp} {m:Bool} {v t B:Int} (he:escOk e=true) (hs:stpOk e s=true) (hv : -B≤v∧v≤B) : -(B+50000000)≤extI e s m v t∧extI e s m v t≤B+50000000:=by
 have hS:=hs;unfold stpOk at hS;simp only [decide_eq_true_eq] at hS
 have hq:e.br.all iJ=true:=by unfold escOk at he;simp only [Bool.and_eq_true] at he;exact he.2
 have hgb:=Au (fail:=s.fail) (t:=t) hq e.br.length (Nat.le_refl _)
 have hE:=(dM he).1
 have hgr:0≤gripI e s t∧gripI e s t≤30000000:=by unfold gripI;omega
 rcases aBn (e:=e) (s:=s) (m:=m) (v:=v) (t:=t) with h|h
 ·rw [h];exact Ip he (by omega) hgr hv
 ·rw [h];exact Ip he (by omega) hgr hv
theorem eO (up:Bool) (empty pull drag motor:Int) (br:List Brake) (BA:Option Addr) (bcp:Nat) (sp slo shi sfail:Int) (most:Bool) (w:World) (hb:InS w noF 2 BA br.length (bcell br)) (hbn:br.length≤9223372036854775807) (hesc:escOk (⟨up,empty,pull,drag,motor,br⟩:Esc)=true) (hstp:stpOk (⟨up,empty,pull,drag,motor,br⟩:Esc) (⟨sp,slo,shi,sfail⟩:Stp)=true) :
    Calls Tryz.prog 76 [.agg [.bool up,.int .i64 empty,.int .i64 pull,.int .i64 drag,.int .i64 motor,.slice BA br.length bcp].toArray,.agg [.int .i64 sp,.int .i64 slo,.int .i64 shi,.int .i64 sfail].toArray,.bool most].toArray w (Ret (fun u w'=>∃ A' n c' f,u = .agg [.int .i64 (goI (⟨up,empty,pull,drag,motor,br⟩:Esc) (⟨sp,slo,shi,sfail⟩:Stp) most 100 sp 0).1,.slice A' n c',.bool (goI (⟨up,empty,pull,drag,motor,br⟩:Esc) (⟨sp,slo,shi,sfail⟩:Stp) most 100 sp 0).2].toArray∧St w noF [ownM 3 1 A' n c' f] w')):=by
 have hE:=dM hesc
 dsimp only at hE;obtain ⟨hE1,hE2,hE3,hE4,hE5⟩:=hE;have hS1:=hstp;unfold stpOk at hS1;simp only [decide_eq_true_eq] at hS1;have hmx:maxLen=9223372036854775807:=rfl;refine enter Tryz.func76 rfl Tryz.ntmps76 rfl (fun a H=>?_);have S:=St.start w;refine seq_list fun K1 k1=>?_
 refine aO H rfl S G G ?_;intro b3 _ a hb3 hbw3 S H
 refine aO H rfl S G G ?_;intro b4 _ a hb4 hbw4 S H
 refine aJ H rfl S eK ?_;intro b6 _ a hb6 hbw6 S H
 refine k1 _ _ ?_;replace H:=H.keep [2,3,4,6] rfl;refine seq_list fun K2 k2=>?_
 refine ls 5 H<|sd ((aB gC iX rfl S (i:=2) G G))<|sd ((aB pW rP rfl S (i:=1) G G))<|sf iC rfl<|sl S 1 aD G G G<|sd (aN aAm G G)<|sE ?_;intro a H
 refine aJ H rfl S rS ?_;intro b7 _ a hb7 hbw7 S H
 refine aE H S (i:=0) G G G G gH G G ?_
 clear H a S;intro _ a S H;refine k2 _ _ ?_;replace H:=H.keep [2,4,6,7] rfl;refine seq_list fun K3 k3=>?_
 refine ls 4 H<|sf iC rfl<|sl S 2 aD G G G<|sr 1 G<|sd (aN aAj G G)<|sE ?_;intro a H
 refine aJ H rfl S eK ?_;intro b8 _ a hb8 hbw8 S H
 refine aE H S (i:=0) G G G G cX G G ?_
 clear H a S;intro _ a S H;refine k3 _ _ ?_;refine wp_seq_k fun K4 k4=>?_
 refine wp_block ?_;replace S:=S.newNil 3 1 (fun _ _=>undef);refine loop_st (X:=Int×Nat×Int×Option Addr×Nat×(Nat→Nat→Value)) (R0:=_) [2,6,7,8] H rfl (fun ⟨v,t,way,A',c',f'⟩=>[]) (fun ⟨v,t,way,A',c',f'⟩=>[boxM b7 231 [.bool up,.int .i64 empty,.int .i64 pull,.int .i64 drag,.int .i64 motor,.slice BA br.length bcp,.int .i64 sp,.int .i64 slo,.int .i64 shi,.int .i64 sfail,.int .i64 (v),.int .i64 (t:Int)],boxM b8 190 [.int .i64 way,.slice A' t c',.bool (decide (v=0))],ownM 3 1 A' t c' f']) (fun g ⟨v,t,way,A',c',f'⟩=>t≤100∧g+t=100∧(-(1000+50000000*(t:Int))≤v∧v≤1000+50000000*(t:Int))∧(-(6000000000*(t:Int))≤way∧way≤6000000000*(t:Int))∧way+(goI (⟨up,empty,pull,drag,motor,br⟩:Esc) (⟨sp,slo,shi,sfail⟩:Stp) most g v t).1=(goI (⟨up,empty,pull,drag,motor,br⟩:Esc) (⟨sp,slo,shi,sfail⟩:Stp) most 100 sp 0).1∧(goI (⟨up,empty,pull,drag,motor,br⟩:Esc) (⟨sp,slo,shi,sfail⟩:Stp) most g v t).2=(goI (⟨up,empty,pull,drag,motor,br⟩:Esc) (⟨sp,slo,shi,sfail⟩:Stp) most 100 sp 0).2) (100) (sp,0,0,none,0,fun _ _=>undef) ?_ (S.sel [2,1,0,3,4,5] G G) (H.keep [2,6,7,8] rfl) ?_
 · exact ⟨by omega,by omega,by omega,by omega,Int.zero_add _,rfl⟩
 clear H S a;intro g1 x1 a w1 hp S H K5 k5;obtain ⟨v,t,way,A',c',f'⟩:=x1;dsimp only at hp S H;refine wp_seq_k fun K6 k6=>?_
 refine sS H fun K7 k7=>sf nF rfl<|sl S 1 iP G G G<|sr 2 G<|sg 3 3 21 24 true G G (fun hg4=>sy hg4<|sf eH rfl<|sy hg4<|sl S 0 aD G G G<|sy hg4<|sr 1 G<|sz 3 G G G)<|sa G G G<|sE ?_;intro a H
 refine k7 _ ?_;refine cond_ H rfl (fun hc1=>?_) (fun hc1=>?_)
 ·skip
  try simp only [oz] at hc1
  refine wp_skip ?_;refine k6 _ _ ?_;refine wp_block ?_;have hxb:=aBo (m:=most) (v:=v) (t:=(t:Int)) (B:=1000+50000000*t) hesc hstp (by omega);replace H:=H.keep [2,6,7,8] rfl;replace S:=S.drew;refine seq_wt 7 (.p 0 (.p 2 (.b2 1 (.e 3 (.e 4 (.e 5 (.p 6 (.e 7 .nil))))) 3 (.b2 1 (.e 4 (.e 5 (.p 6 (.e 7 .nil)))) 4 (.e 1 (.e 5 (.p 6 (.e 7 .nil)))))))) (by kernel_rfl) (by kernel_rfl) (S.sel [3,4,5] G G) fun K8 k8=>?_
  refine aW H G G (fun _=>(aC lR rfl)) ?_;intro a H
  refine aW H G G (fun _=>aL rfl) ?_;intro a H
  refine eF G G ?_ ?_
  ·skip
   refine ls 1 H<|sl S 1 bE G G G<|sE ?_;intro a H
   refine wpList_nil (And.intro (Or.inr (S.sel [3,4,5] rfl rfl)) ?_);refine aM rfl ?_;have S1:=(S.sel [0] rfl rfl);refine aA H rfl rfl Tryz.func119 rfl rfl (tD up empty pull drag motor br BA bcp sp slo shi sfail b7 v t most _ _ S1.startR (hb.nowR S1) hesc hstp (by omega) (by omega)) ?_;clear H a;rintro _ _ a ⟨nl,rfl,S2⟩ H;replace S:=(S.sel [0,1,2,3,4,5] rfl rfl).callR (M:=[_]) S2;clear S1 S2;refine wpList_nil (And.intro (Or.inr (S.sel [3,4,5] rfl rfl)) ?_);refine aM rfl ?_;refine aY H rfl S aP aX fD rfl rfl rfl rfl rfl rfl rfl rfl rfl ?_;intro A1 _ a hA1 S H;refine wpList_nil (And.intro (Or.inr (S.sel [4,5,6] rfl rfl)) ?_);refine aM rfl ?_;refine bM H rfl S aP aX fD mQ rfl rfl (i:=3) rfl rfl rfl (aEi S (i:=0) rfl) (jA (one rfl)) (by omega) (by omega) ?_;intro A2 c2 _ a S H;refine wpList_nil (And.intro (Or.inr (S.sel [4,5,6] rfl rfl)) ?_);refine aW H rfl rfl (fun _=>(aC lR rfl)) ?_;intro a H;refine aM rfl ?_;refine aE H S (i:=2) rfl rfl rfl rfl Cb rfl rfl ?_;clear H a S;intro _ a S H;refine wpList_nil (And.intro (Or.inl rfl) ?_);refine bD ?_;refine k8 _ _ ?_;replace H:=H.keep [2,6,7,8] rfl;refine seq_list fun K9 k9=>?_
   refine ls 6 H<|sf jV rfl<|sl S 2 aD G G G<|sf cS rfl<|sl S 1 aD G G G<|sd (aI G G (by unfold i64ok;omega))<|sf jV rfl<|sE ?_;intro a H
   refine aE H S (i:=2) G G G G aX G G ?_
   clear H a S;intro _ a S H;refine k9 _ _ ?_;replace H:=H.keep [2,6,7,8] rfl;refine one_list ?_;refine ls 4 H<|sf cS rfl<|sl S 1 aD G G G<|sr 1 G<|sf nF rfl<|sE ?_;intro a H
   refine aE H S (i:=2) G G G G Oc G G ?_
   clear H a S;intro _ a S H;have hgs:=Ax (e:=(⟨up,empty,pull,drag,motor,br⟩:Esc)) (s:=(⟨sp,slo,shi,sfail⟩:Stp)) (m:=most) (g:=g1) (v:=v) (t:=(t:Int)) (by omega) (by omega);exact k5 (g1-1) (extI (⟨up,empty,pull,drag,motor,br⟩:Esc) (⟨sp,slo,shi,sfail⟩:Stp) most v (t:Int),t+1,way+extI (⟨up,empty,pull,drag,motor,br⟩:Esc) (⟨sp,slo,shi,sfail⟩:Stp) most v (t:Int),_,_,_) a _ (by omega) (⟨by omega,by omega,by omega,by omega,by have h9:=hp.2.2.2.2.1;rw [hgs] at h9;(try dsimp only at h9 ⊢);push_cast;omega,by have h9:=hp.2.2.2.2.2;rw [hgs] at h9;exact h9⟩) (S.sel [1,2,3,4,5,6] G G) (H.keep [2,6,7,8] rfl)
  ·skip
   have S1:=(S.sel [0] G G)
   refine aA H G G Tryz.func119 G G (tD up empty pull drag motor br BA bcp sp slo shi sfail b7 v t most _ _ S1.startR (hb.nowR S1) hesc hstp (by omega) (by omega)) ?_;clear H a
   rintro _ _ a ⟨nl,rfl,S2⟩ H;replace S:=(S.sel [0,1,2,3,4,5] rfl rfl).callR (M:=[_]) S2;clear S1 S2;refine wpList_nil (And.intro (Or.inr (S.sel [3,4,5] rfl rfl)) ?_);refine eF rfl rfl ?_ ?_
   ·skip
    refine ls 1 H<|sl S 1 bE G G G<|sE ?_;intro a H
    refine wpList_nil (And.intro (Or.inr (S.sel [3,4,5] G G)) ?_);refine aM rfl ?_;refine aY H rfl S aP aX fD G G G G G G G G G ?_;intro A3 _ a hA3 S H;refine wpList_nil (And.intro (Or.inr (S.sel [4,5,6] G G)) ?_);refine aM rfl ?_;refine bM H rfl S aP aX fD mQ G G (i:=3) G G G (aEi S (i:=0) rfl) (jA (one rfl)) (by omega) (by omega) ?_;intro A4 c4 _ a S H;refine wpList_nil (And.intro (Or.inr (S.sel [4,5,6] G G)) ?_);refine aW H G G (fun _=>(aC lR rfl)) ?_;intro a H;refine aM rfl ?_;refine aE H S (i:=2) G G G G Cb G G ?_;clear H a S;intro _ a S H;refine wpList_nil (And.intro (Or.inl rfl) ?_);refine bD ?_;refine k8 _ _ ?_;replace H:=H.keep [2,6,7,8] rfl;refine seq_list fun K11 k11=>?_
    refine ls 6 H<|sf jV rfl<|sl S 2 aD G G G<|sf cS rfl<|sl S 1 aD G G G<|sd (aI G G (by unfold i64ok;omega))<|sf jV rfl<|sE ?_;intro a H
    refine aE H S (i:=2) G G G G aX G G ?_
    clear H a S;intro _ a S H;refine k11 _ _ ?_;replace H:=H.keep [2,6,7,8] rfl;refine one_list ?_;refine ls 4 H<|sf cS rfl<|sl S 1 aD G G G<|sr 1 G<|sf nF rfl<|sE ?_;intro a H
    refine aE H S (i:=2) G G G G Oc G G ?_
    clear H a S;intro _ a S H;have hgs:=Ax (e:=(⟨up,empty,pull,drag,motor,br⟩:Esc)) (s:=(⟨sp,slo,shi,sfail⟩:Stp)) (m:=most) (g:=g1) (v:=v) (t:=(t:Int)) (by omega) (by omega);exact k5 (g1-1) (extI (⟨up,empty,pull,drag,motor,br⟩:Esc) (⟨sp,slo,shi,sfail⟩:Stp) most v (t:Int),t+1,way+extI (⟨up,empty,pull,drag,motor,br⟩:Esc) (⟨sp,slo,shi,sfail⟩:Stp) most v (t:Int),_,_,_) a _ (by omega) (⟨by omega,by omega,by omega,by omega,by have h9:=hp.2.2.2.2.1;rw [hgs] at h9;(try dsimp only at h9 ⊢);push_cast;omega,by have h9:=hp.2.2.2.2.2;rw [hgs] at h9;exact h9⟩) (S.sel [1,2,3,4,5,6] G G) (H.keep [2,6,7,8] rfl)
   ·skip
    refine aY H rfl S aP aX fD G G G G G G G G G ?_;intro A5 _ a hA5 S H
    refine wpList_nil (And.intro (Or.inr (S.sel [4,5,6] G G)) ?_);refine aM rfl ?_;refine ls 1 H<|sl S 2 bE G G G<|sE ?_;intro a H
    refine wpList_nil (And.intro (Or.inr (S.sel [4,5,6] G G)) ?_);refine aM rfl ?_;refine bM H rfl S aP aX fD mQ G G (i:=3) G G G (aEi S (i:=0) rfl) (jA (one rfl)) (by omega) (by omega) ?_;intro A6 c6 _ a S H;refine wpList_nil (And.intro (Or.inr (S.sel [4,5,6] G G)) ?_);refine aW H G G (fun _=>(aC lR rfl)) ?_;intro a H;refine aM rfl ?_;refine aE H S (i:=2) G G G G Cb G G ?_;clear H a S;intro _ a S H;refine wpList_nil (And.intro (Or.inl rfl) ?_);refine bD ?_;refine k8 _ _ ?_;replace H:=H.keep [2,6,7,8] rfl;refine seq_list fun K13 k13=>?_
    refine ls 6 H<|sf jV rfl<|sl S 2 aD G G G<|sf cS rfl<|sl S 1 aD G G G<|sd (aI G G (by unfold i64ok;omega))<|sf jV rfl<|sE ?_;intro a H
    refine aE H S (i:=2) G G G G aX G G ?_
    clear H a S;intro _ a S H;refine k13 _ _ ?_;replace H:=H.keep [2,6,7,8] rfl;refine one_list ?_;refine ls 4 H<|sf cS rfl<|sl S 1 aD G G G<|sr 1 G<|sf nF rfl<|sE ?_;intro a H
    refine aE H S (i:=2) G G G G Oc G G ?_
    clear H a S;intro _ a S H;have hgs:=Ax (e:=(⟨up,empty,pull,drag,motor,br⟩:Esc)) (s:=(⟨sp,slo,shi,sfail⟩:Stp)) (m:=most) (g:=g1) (v:=v) (t:=(t:Int)) (by omega) (by omega);exact k5 (g1-1) (extI (⟨up,empty,pull,drag,motor,br⟩:Esc) (⟨sp,slo,shi,sfail⟩:Stp) most v (t:Int),t+1,way+extI (⟨up,empty,pull,drag,motor,br⟩:Esc) (⟨sp,slo,shi,sfail⟩:Stp) most v (t:Int),_,_,_) a _ (by omega) (⟨by omega,by omega,by omega,by omega,by have h9:=hp.2.2.2.2.1;rw [hgs] at h9;(try dsimp only at h9 ⊢);push_cast;omega,by have h9:=hp.2.2.2.2.2;rw [hgs] at h9;exact h9⟩) (S.sel [1,2,3,4,5,6] G G) (H.keep [2,6,7,8] rfl)
 try simp only [oz] at hc1
 refine wp_exit ?_;refine k4 _ _ ?_;refine seq_list fun K15 k15=>?_
 refine ls 1 H<|sd ((aB Hi cX rfl S (i:=1) G G))<|sE ?_;intro a H
 refine aE H S (i:=3) G G G G cX G G ?_
 clear H a S;intro _ a S H;refine k15 _ _ ?_;refine wp_ret ?_;refine retA (fn:=Tryz.f76) rfl H rfl Hi (by exact cX) (dN S (i:=3) rfl) ?_;have hgs:=Wm (e:=(⟨up,empty,pull,drag,motor,br⟩:Esc)) (s:=(⟨sp,slo,shi,sfail⟩:Stp)) (m:=most) (g:=g1) (v:=v) (t:=(t:Int)) (by omega);rw [hgs] at hp;have h8:=hp.2.2.2.2.1;have h9:=hp.2.2.2.2.2;dsimp only at h8 h9;rw [Int.add_zero] at h8;rw [←h8,←h9];exact ⟨_,_,_,_,rfl,(S.sel [2] G G)⟩
end
section
theorem kU {e:Esc} {s:Stp} (h:¬ stopE e s=0):distI e s=(0,0,stopE e s):=by unfold distI;exact if_pos h
theorem jG {e:Esc} {s:Stp} (h:stopE e s=0) (h2:(goI e s true 100 s.speed 0).2=false):distI e s=(0,0,12):=by
 unfold distI
 rw [if_neg (by omega),if_neg (by rw [h2];simp)]
theorem mM {e:Esc} {s:Stp} (h:stopE e s=0) (h2:(goI e s true 100 s.speed 0).2=true):distI e s=((goI e s false 100 s.speed 0).1,(goI e s true 100 s.speed 0).1,0):=by
 unfold distI
 rw [if_neg (by omega),if_pos h2]
theorem cV (up:Bool) (empty pull drag motor:Int) (br:List Brake) (BA:Option Addr) (bcp:Nat) (sp slo shi sfail:Int) (w:World) (hb:InS w noF 2 BA br.length (bcell br)) (hbn:br.length≤9223372036854775807) :
    Calls Tryz.prog 34 [.agg [.bool up,.int .i64 empty,.int .i64 pull,.int .i64 drag,.int .i64 motor,.slice BA br.length bcp].toArray,.agg [.int .i64 sp,.int .i64 slo,.int .i64 shi,.int .i64 sfail].toArray].toArray w (Ret (fun u w'=>∃ tl th:Int,u = .tuple #[.agg [.int .i64 (distI (⟨up,empty,pull,drag,motor,br⟩:Esc) (⟨sp,slo,shi,sfail⟩:Stp)).1,.int .i64 (distI (⟨up,empty,pull,drag,motor,br⟩:Esc) (⟨sp,slo,shi,sfail⟩:Stp)).2.1].toArray,.agg [.int .i64 tl,.int .i64 th].toArray,.int .i64 (distI (⟨up,empty,pull,drag,motor,br⟩:Esc) (⟨sp,slo,shi,sfail⟩:Stp)).2.2]∧St w noF [] w')):=by
 refine enter Tryz.func34 rfl Tryz.ntmps34 rfl (fun a H=>?_)
 have S:=St.start w
 refine seq_list fun K1 k1=>?_
 refine aO H rfl S G G ?_;intro b2 _ a hb2 hbw2 S H
 refine aO H rfl S G G ?_;intro b3 _ a hb3 hbw3 S H
 refine aJ H rfl S cB ?_;intro b4 _ a hb4 hbw4 S H
 refine aJ H rfl S cB ?_;intro b5 _ a hb5 hbw5 S H
 refine ls 1 H<|sr 1 G<|sE ?_;intro a H
 refine k1 _ _ ?_;refine wp_seq_k fun K2 k2=>?_
 refine seq_list fun K3 k3=>?_
 refine ls 2 H<|sd ((aB gC iX rfl S (i:=3) G G))<|sd ((aB pW rP rfl S (i:=2) G G))<|sE ?_;intro a H
 refine aA H G G Tryz.func75 G G (xN up empty pull drag motor br BA bcp sp slo shi sfail _ (hb.now S) hbn) ?_;clear H a
 rintro _ _ a ⟨rfl,S2⟩ H;replace S:=S.call S2;clear S2;refine ls 1 H<|sr 1 G<|sE ?_;intro a H
 refine k3 _ _ ?_;replace H:=H.keep [2,3,4,5,6] rfl;refine sS H fun K4 k4=>sr 2 G<|sE ?_;intro a H
 refine k4 _ ?_;refine condN H rfl (fun hc1=>?_) (fun hc1=>?_)
 ·skip
  have hce:=hc1
  replace S:=S.drew;refine seq_wt 999999 (.p 2 (.b2 0 (.b2 1 (.e 3 (.e 4 (.p 5 .nil))) 3 (.e 1 (.e 4 (.p 5 .nil)))) 1 (.e 0 (.e 3 (.e 4 (.p 5 .nil)))))) (by kernel_rfl) (by kernel_rfl) (S.sel [2,3] G G) fun K5 k5=>?_
  refine aW H G G (fun _=>aL rfl) ?_;intro a H
  refine eF G G ?_ ?_
  ·skip
   refine ls 1 H<|sd ((aB bF aS rfl S (i:=1) G G))<|sE ?_;intro a H
   refine wpList_nil (And.intro (Or.inr (S.sel [2,3] G G)) ?_);refine eF G G ?_ ?_
   ·skip
    refine ls 1 H<|sd ((aB bF aS rfl S (i:=0) G G))<|sE ?_;intro a H
    refine wpList_nil (And.intro (Or.inr (S.sel [2,3] G G)) ?_);refine aM rfl ?_;refine aE H S (i:=1) G G G G aS G G ?_;clear H a S;intro _ a S H;refine wpList_nil (And.intro (Or.inr (S.sel [2,3] G G)) ?_);refine aM rfl ?_;refine aE H S (i:=0) G G G G aS G G ?_;clear H a S;intro _ a S H;refine wpList_nil (And.intro (Or.inr (S.sel [2,3] G G)) ?_);refine aW H G G (fun _=>bK rfl) ?_;intro a H;refine bD ?_;refine k5 _ _ ?_;refine wp_ret ?_;refine oS (fn:=Tryz.f34) rfl H G G bF (by exact aS) (dN S (i:=1) rfl) bF (by exact aS) (dN S (i:=0) rfl) rfl ?_;first|(rw [kU hce];exact ⟨_,_,rfl,(S.sel [] G G)⟩)|(rw [jG hce (by simpa using hcf)];exact ⟨_,_,rfl,(S.sel [] G G)⟩)|(rw [mM hce (by simpa using hcf)];exact ⟨_,_,rfl,(S.sel [] G G)⟩)
   ·skip
    refine aE H S (i:=1) G G G G aS G G ?_
    clear H a S;intro _ a S H;refine wpList_nil (And.intro (Or.inr (S.sel [2,3] G G)) ?_);refine aM rfl ?_;refine ls 1 H<|sd ((aB bF aS rfl S (i:=0) G G))<|sE ?_;intro a H
    refine wpList_nil (And.intro (Or.inr (S.sel [2,3] G G)) ?_);refine aM rfl ?_;refine aE H S (i:=0) G G G G aS G G ?_;clear H a S;intro _ a S H;refine wpList_nil (And.intro (Or.inr (S.sel [2,3] G G)) ?_);refine aW H G G (fun _=>bK rfl) ?_;intro a H;refine bD ?_;refine k5 _ _ ?_;refine wp_ret ?_;refine oS (fn:=Tryz.f34) rfl H G G bF (by exact aS) (dN S (i:=1) rfl) bF (by exact aS) (dN S (i:=0) rfl) rfl ?_;first|(rw [kU hce];exact ⟨_,_,rfl,(S.sel [] G G)⟩)|(rw [jG hce (by simpa using hcf)];exact ⟨_,_,rfl,(S.sel [] G G)⟩)|(rw [mM hce (by simpa using hcf)];exact ⟨_,_,rfl,(S.sel [] G G)⟩)
  ·skip
   refine ls 1 H<|sd ((aB bF aS rfl S (i:=0) G G))<|sE ?_;intro a H
   refine wpList_nil (And.intro (Or.inr (S.sel [2,3] G G)) ?_);refine aM rfl ?_;refine ls 1 H<|sd ((aB bF aS rfl S (i:=1) G G))<|sE ?_;intro a H
   refine wpList_nil (And.intro (Or.inr (S.sel [2,3] G G)) ?_);refine aM rfl ?_;refine aE H S (i:=1) G G G G aS G G ?_;clear H a S;intro _ a S H;refine wpList_nil (And.intro (Or.inr (S.sel [2,3] G G)) ?_);refine aM rfl ?_;refine aE H S (i:=0) G G G G aS G G ?_;clear H a S;intro _ a S H;refine wpList_nil (And.intro (Or.inr (S.sel [2,3] G G)) ?_);refine aW H G G (fun _=>bK rfl) ?_;intro a H;refine bD ?_;refine k5 _ _ ?_;refine wp_ret ?_;refine oS (fn:=Tryz.f34) rfl H G G bF (by exact aS) (dN S (i:=1) rfl) bF (by exact aS) (dN S (i:=0) rfl) rfl ?_;first|(rw [kU hce];exact ⟨_,_,rfl,(S.sel [] G G)⟩)|(rw [jG hce (by simpa using hcf)];exact ⟨_,_,rfl,(S.sel [] G G)⟩)|(rw [mM hce (by simpa using hcf)];exact ⟨_,_,rfl,(S.sel [] G G)⟩)
 have hce:=hc1
 refine wp_skip ?_;refine k2 _ _ ?_;have SR:=(S.sel [0,1,2,3] G G);refine meet_sr (X:=(Nat×Nat)×(Option Addr×Nat×Nat)×(Option Addr×Nat×Nat)) [4,5] H rfl (fun ⟨⟨b7,b8⟩,⟨A7,n7,c7⟩,A8,n8,c8⟩=>[(7,.pointer (some ⟨b7,0,none⟩)),(8,.pointer (some ⟨b8,0,none⟩))]) (fun ⟨⟨b7,b8⟩,⟨A7,n7,c7⟩,A8,n8,c8⟩=>[boxM b7 190 [.int .i64 (goI (⟨up,empty,pull,drag,motor,br⟩:Esc) (⟨sp,slo,shi,sfail⟩:Stp) true 100 sp 0).1,.slice A7 n7 c7,.bool (goI (⟨up,empty,pull,drag,motor,br⟩:Esc) (⟨sp,slo,shi,sfail⟩:Stp) true 100 sp 0).2],boxM b8 190 [.int .i64 (goI (⟨up,empty,pull,drag,motor,br⟩:Esc) (⟨sp,slo,shi,sfail⟩:Stp) false 100 sp 0).1,.slice A8 n8 c8,.bool (goI (⟨up,empty,pull,drag,motor,br⟩:Esc) (⟨sp,slo,shi,sfail⟩:Stp) false 100 sp 0).2]]) (fun ⟨⟨b7,b8⟩,⟨A7,n7,c7⟩,A8,n8,c8⟩=>True) SR (fun K6 k6=>?_) ?_
 ·skip
  obtain ⟨hesc,hstp⟩:=Wl hce;replace H:=H.keep [2,3,4,5] rfl;replace S:=S.drew;refine one_wt 999999 (.q 0 (.q 1 (.q 3 (.q 4 (.b3 2 (.b3 5 (.b2 6 (.e 7 (.e 8 (.e 9 .nil))) 7 (.e 6 (.e 8 (.e 9 .nil)))) 6 (.b2 5 (.e 7 (.e 8 (.e 9 .nil))) 7 (.e 5 (.e 8 (.e 9 .nil)))) 7 (.b2 5 (.e 6 (.e 8 (.e 9 .nil))) 6 (.e 5 (.e 8 (.e 9 .nil))))) 6 (.b2 2 (.b2 5 (.e 7 (.e 8 (.e 9 .nil))) 7 (.e 5 (.e 8 (.e 9 .nil)))) 7 (.e 2 (.e 5 (.e 8 (.e 9 .nil))))) 7 (.b2 2 (.b2 5 (.e 6 (.e 8 (.e 9 .nil))) 6 (.e 5 (.e 8 (.e 9 .nil)))) 6 (.e 2 (.e 5 (.e 8 (.e 9 .nil)))))))))) (by kernel_rfl) (by kernel_rfl) (S.sel [0,1,2,3] rfl rfl) ?_;refine aH H rfl rfl (fun _ S=>(aB gC iX rfl S (i:=3) rfl rfl)) ?_;intro a H;refine aH H rfl rfl (fun _ S=>(aB pW rP rfl S (i:=2) rfl rfl)) ?_;intro a H;refine aH H rfl rfl (fun _ S=>(aB gC iX rfl S (i:=3) rfl rfl)) ?_;intro a H;refine aH H rfl rfl (fun _ S=>(aB pW rP rfl S (i:=2) rfl rfl)) ?_;intro a H;refine xR rfl rfl rfl ?_ ?_ ?_
  ·skip
   refine aA H G G Tryz.func76 G G (eO up empty pull drag motor br BA bcp sp slo shi sfail true _ (hb.now S) hbn hesc hstp) ?_;clear H a
   rintro _ _ a ⟨A7,n7,c7,f7,rfl,S2⟩ H;replace S:=S.call S2;clear S2;refine wpList_nil (And.intro (Or.inr (S.sel [1,2,3,4] rfl rfl)) ?_);refine xR rfl rfl rfl ?_ ?_ ?_
   ·skip
    refine aA H G G Tryz.func76 G G (eO up empty pull drag motor br BA bcp sp slo shi sfail false _ (hb.now S) hbn hesc hstp) ?_;clear H a
    rintro _ _ a ⟨A8,n8,c8,f8,rfl,S2⟩ H;replace S:=S.call S2;clear S2;refine wpList_nil (And.intro (Or.inr (S.sel [2,3,4,5] rfl rfl)) ?_);refine eF rfl rfl ?_ ?_
    ·skip
     refine aJ H rfl S eK ?_;intro b7 _ a hb7 hbw7 S H
     refine wpList_nil (And.intro (Or.inr (S.sel [3,4,5,6] G G)) ?_);refine aM rfl ?_;refine aJ H rfl S eK ?_;intro b8 _ a hb8 hbw8 S H;refine wpList_nil (And.intro (Or.inr (S.sel [4,5,6,7] G G)) ?_);refine aM rfl ?_;refine aE H S (i:=1) G G G G cX G G ?_;clear H a S;intro _ a S H;refine wpList_nil (And.intro (Or.inr (S.sel [4,5,6,7] G G)) ?_);refine aM rfl ?_;refine aE H S (i:=0) G G G G cX G G ?_;clear H a S;intro _ a S H;refine wpList_nil (And.intro (Or.inr (S.sel [4,5,6,7] G G)) ?_);refine bD ?_;exact k6 ((b7,b8),(_,_,_),_,_,_) a _ (trivial) (S.sel [1,0,4,5,6,7] G G) (H.keep [7,8,4,5] rfl)
    ·skip
     refine aJ H rfl S eK ?_;intro b8 _ a hb8 hbw8 S H
     refine wpList_nil (And.intro (Or.inr (S.sel [3,4,5,6] G G)) ?_);refine aM rfl ?_;refine aJ H rfl S eK ?_;intro b7 _ a hb7 hbw7 S H;refine wpList_nil (And.intro (Or.inr (S.sel [4,5,6,7] G G)) ?_);refine aM rfl ?_;refine aE H S (i:=0) G G G G cX G G ?_;clear H a S;intro _ a S H;refine wpList_nil (And.intro (Or.inr (S.sel [4,5,6,7] G G)) ?_);refine aM rfl ?_;refine aE H S (i:=1) G G G G cX G G ?_;clear H a S;intro _ a S H;refine wpList_nil (And.intro (Or.inr (S.sel [4,5,6,7] G G)) ?_);refine bD ?_;exact k6 ((b7,b8),(_,_,_),_,_,_) a _ (trivial) (S.sel [0,1,4,5,6,7] G G) (H.keep [7,8,4,5] rfl)
   ·skip
    refine aJ H rfl S eK ?_;intro b7 _ a hb7 hbw7 S H
    refine wpList_nil (And.intro (Or.inr (S.sel [2,3,4,5] G G)) ?_);refine eF G G ?_ ?_
    ·skip
     refine aA H G G Tryz.func76 G G (eO up empty pull drag motor br BA bcp sp slo shi sfail false _ (hb.now S) hbn hesc hstp) ?_;clear H a
     rintro _ _ a ⟨A8,n8,c8,f8,rfl,S2⟩ H;replace S:=S.call S2;clear S2;refine wpList_nil (And.intro (Or.inr (S.sel [3,4,5,6] rfl rfl)) ?_);refine aM rfl ?_;refine aJ H rfl S eK ?_;intro b8 _ a hb8 hbw8 S H;refine wpList_nil (And.intro (Or.inr (S.sel [4,5,6,7] rfl rfl)) ?_);refine aM rfl ?_;refine aE H S (i:=2) rfl rfl rfl rfl cX rfl rfl ?_;clear H a S;intro _ a S H;refine wpList_nil (And.intro (Or.inr (S.sel [4,5,6,7] rfl rfl)) ?_);refine aM rfl ?_;refine aE H S (i:=0) rfl rfl rfl rfl cX rfl rfl ?_;clear H a S;intro _ a S H;refine wpList_nil (And.intro (Or.inr (S.sel [4,5,6,7] rfl rfl)) ?_);refine bD ?_;exact k6 ((b7,b8),(_,_,_),_,_,_) a _ (trivial) (S.sel [2,0,4,5,6,7] rfl rfl) (H.keep [7,8,4,5] rfl)
    ·skip
     refine aJ H rfl S eK ?_;intro b8 _ a hb8 hbw8 S H
     refine wpList_nil (And.intro (Or.inr (S.sel [3,4,5,6] rfl rfl)) ?_);refine aM rfl ?_;refine aA H rfl rfl Tryz.func76 rfl rfl (eO up empty pull drag motor br BA bcp sp slo shi sfail false _ (hb.now S) hbn hesc hstp) ?_;clear H a;rintro _ _ a ⟨A8,n8,c8,f8,rfl,S2⟩ H;replace S:=S.call S2;clear S2;refine wpList_nil (And.intro (Or.inr (S.sel [4,5,6,7] rfl rfl)) ?_);refine aM rfl ?_;refine aE H S (i:=2) rfl rfl rfl rfl cX rfl rfl ?_;clear H a S;intro _ a S H;refine wpList_nil (And.intro (Or.inr (S.sel [4,5,6,7] rfl rfl)) ?_);refine aM rfl ?_;refine aE H S (i:=1) rfl rfl rfl rfl cX rfl rfl ?_;clear H a S;intro _ a S H;refine wpList_nil (And.intro (Or.inr (S.sel [4,5,6,7] rfl rfl)) ?_);refine bD ?_;exact k6 ((b7,b8),(_,_,_),_,_,_) a _ (trivial) (S.sel [2,1,4,5,6,7] rfl rfl) (H.keep [7,8,4,5] rfl)
   ·skip
    refine aJ H rfl S eK ?_;intro b8 _ a hb8 hbw8 S H
    refine wpList_nil (And.intro (Or.inr (S.sel [2,3,4,5] G G)) ?_);refine eF G G ?_ ?_
    ·skip
     refine aA H G G Tryz.func76 G G (eO up empty pull drag motor br BA bcp sp slo shi sfail false _ (hb.now S) hbn hesc hstp) ?_;clear H a
     rintro _ _ a ⟨A8,n8,c8,f8,rfl,S2⟩ H;replace S:=S.call S2;clear S2;refine wpList_nil (And.intro (Or.inr (S.sel [3,4,5,6] rfl rfl)) ?_);refine aM rfl ?_;refine aJ H rfl S eK ?_;intro b7 _ a hb7 hbw7 S H;refine wpList_nil (And.intro (Or.inr (S.sel [4,5,6,7] rfl rfl)) ?_);refine aM rfl ?_;refine aE H S (i:=0) rfl rfl rfl rfl cX rfl rfl ?_;clear H a S;intro _ a S H;refine wpList_nil (And.intro (Or.inr (S.sel [4,5,6,7] rfl rfl)) ?_);refine aM rfl ?_;refine aE H S (i:=2) rfl rfl rfl rfl cX rfl rfl ?_;clear H a S;intro _ a S H;refine wpList_nil (And.intro (Or.inr (S.sel [4,5,6,7] rfl rfl)) ?_);refine bD ?_;exact k6 ((b7,b8),(_,_,_),_,_,_) a _ (trivial) (S.sel [0,2,4,5,6,7] rfl rfl) (H.keep [7,8,4,5] rfl)
    ·skip
     refine aJ H rfl S eK ?_;intro b7 _ a hb7 hbw7 S H
     refine wpList_nil (And.intro (Or.inr (S.sel [3,4,5,6] rfl rfl)) ?_);refine aM rfl ?_;refine aA H rfl rfl Tryz.func76 rfl rfl (eO up empty pull drag motor br BA bcp sp slo shi sfail false _ (hb.now S) hbn hesc hstp) ?_;clear H a;rintro _ _ a ⟨A8,n8,c8,f8,rfl,S2⟩ H;replace S:=S.call S2;clear S2;refine wpList_nil (And.intro (Or.inr (S.sel [4,5,6,7] rfl rfl)) ?_);refine aM rfl ?_;refine aE H S (i:=1) rfl rfl rfl rfl cX rfl rfl ?_;clear H a S;intro _ a S H;refine wpList_nil (And.intro (Or.inr (S.sel [4,5,6,7] rfl rfl)) ?_);refine aM rfl ?_;refine aE H S (i:=2) rfl rfl rfl rfl cX rfl rfl ?_;clear H a S;intro _ a S H;refine wpList_nil (And.intro (Or.inr (S.sel [4,5,6,7] rfl rfl)) ?_);refine bD ?_;exact k6 ((b7,b8),(_,_,_),_,_,_) a _ (trivial) (S.sel [1,2,4,5,6,7] rfl rfl) (H.keep [7,8,4,5] rfl)
  ·skip
   refine aJ H rfl S eK ?_;intro b7 _ a hb7 hbw7 S H
   refine wpList_nil (And.intro (Or.inr (S.sel [1,2,3,4] G G)) ?_);refine eF G G ?_ ?_
   ·skip
    refine aA H G G Tryz.func76 G G (eO up empty pull drag motor br BA bcp sp slo shi sfail true _ (hb.now S) hbn hesc hstp) ?_;clear H a
    rintro _ _ a ⟨A7,n7,c7,f7,rfl,S2⟩ H;replace S:=S.call S2;clear S2;refine wpList_nil (And.intro (Or.inr (S.sel [2,3,4,5] rfl rfl)) ?_);refine eF rfl rfl ?_ ?_
    ·skip
     refine aA H G G Tryz.func76 G G (eO up empty pull drag motor br BA bcp sp slo shi sfail false _ (hb.now S) hbn hesc hstp) ?_;clear H a
     rintro _ _ a ⟨A8,n8,c8,f8,rfl,S2⟩ H;replace S:=S.call S2;clear S2;refine wpList_nil (And.intro (Or.inr (S.sel [3,4,5,6] rfl rfl)) ?_);refine aM rfl ?_;refine aJ H rfl S eK ?_;intro b8 _ a hb8 hbw8 S H;refine wpList_nil (And.intro (Or.inr (S.sel [4,5,6,7] rfl rfl)) ?_);refine aM rfl ?_;refine aE H S (i:=3) rfl rfl rfl rfl cX rfl rfl ?_;clear H a S;intro _ a S H;refine wpList_nil (And.intro (Or.inr (S.sel [4,5,6,7] rfl rfl)) ?_);refine aM rfl ?_;refine aE H S (i:=0) rfl rfl rfl rfl cX rfl rfl ?_;clear H a S;intro _ a S H;refine wpList_nil (And.intro (Or.inr (S.sel [4,5,6,7] rfl rfl)) ?_);refine bD ?_;exact k6 ((b7,b8),(_,_,_),_,_,_) a _ (trivial) (S.sel [3,0,4,5,6,7] rfl rfl) (H.keep [7,8,4,5] rfl)
    ·skip
     refine aJ H rfl S eK ?_;intro b8 _ a hb8 hbw8 S H
     refine wpList_nil (And.intro (Or.inr (S.sel [3,4,5,6] rfl rfl)) ?_);refine aM rfl ?_;refine aA H rfl rfl Tryz.func76 rfl rfl (eO up empty pull drag motor br BA bcp sp slo shi sfail false _ (hb.now S) hbn hesc hstp) ?_;clear H a;rintro _ _ a ⟨A8,n8,c8,f8,rfl,S2⟩ H;replace S:=S.call S2;clear S2;refine wpList_nil (And.intro (Or.inr (S.sel [4,5,6,7] rfl rfl)) ?_);refine aM rfl ?_;refine aE H S (i:=3) rfl rfl rfl rfl cX rfl rfl ?_;clear H a S;intro _ a S H;refine wpList_nil (And.intro (Or.inr (S.sel [4,5,6,7] rfl rfl)) ?_);refine aM rfl ?_;refine aE H S (i:=1) rfl rfl rfl rfl cX rfl rfl ?_;clear H a S;intro _ a S H;refine wpList_nil (And.intro (Or.inr (S.sel [4,5,6,7] rfl rfl)) ?_);refine bD ?_;exact k6 ((b7,b8),(_,_,_),_,_,_) a _ (trivial) (S.sel [3,1,4,5,6,7] rfl rfl) (H.keep [7,8,4,5] rfl)
   ·skip
    refine aJ H rfl S eK ?_;intro b8 _ a hb8 hbw8 S H
    refine wpList_nil (And.intro (Or.inr (S.sel [2,3,4,5] rfl rfl)) ?_);refine aM rfl ?_;refine aA H rfl rfl Tryz.func76 rfl rfl (eO up empty pull drag motor br BA bcp sp slo shi sfail true _ (hb.now S) hbn hesc hstp) ?_;clear H a;rintro _ _ a ⟨A7,n7,c7,f7,rfl,S2⟩ H;replace S:=S.call S2;clear S2;refine wpList_nil (And.intro (Or.inr (S.sel [3,4,5,6] rfl rfl)) ?_);refine aM rfl ?_;refine aA H rfl rfl Tryz.func76 rfl rfl (eO up empty pull drag motor br BA bcp sp slo shi sfail false _ (hb.now S) hbn hesc hstp) ?_;clear H a;rintro _ _ a ⟨A8,n8,c8,f8,rfl,S2⟩ H;replace S:=S.call S2;clear S2;refine wpList_nil (And.intro (Or.inr (S.sel [4,5,6,7] rfl rfl)) ?_);refine aM rfl ?_;refine aE H S (i:=3) rfl rfl rfl rfl cX rfl rfl ?_;clear H a S;intro _ a S H;refine wpList_nil (And.intro (Or.inr (S.sel [4,5,6,7] rfl rfl)) ?_);refine aM rfl ?_;refine aE H S (i:=2) rfl rfl rfl rfl cX rfl rfl ?_;clear H a S;intro _ a S H;refine wpList_nil (And.intro (Or.inr (S.sel [4,5,6,7] rfl rfl)) ?_);refine bD ?_;exact k6 ((b7,b8),(_,_,_),_,_,_) a _ (trivial) (S.sel [3,2,4,5,6,7] rfl rfl) (H.keep [7,8,4,5] rfl)
  ·skip
   refine aJ H rfl S eK ?_;intro b8 _ a hb8 hbw8 S H
   refine wpList_nil (And.intro (Or.inr (S.sel [1,2,3,4] G G)) ?_);refine eF G G ?_ ?_
   ·skip
    refine aA H G G Tryz.func76 G G (eO up empty pull drag motor br BA bcp sp slo shi sfail true _ (hb.now S) hbn hesc hstp) ?_;clear H a
    rintro _ _ a ⟨A7,n7,c7,f7,rfl,S2⟩ H;replace S:=S.call S2;clear S2;refine wpList_nil (And.intro (Or.inr (S.sel [2,3,4,5] rfl rfl)) ?_);refine eF rfl rfl ?_ ?_
    ·skip
     refine aA H G G Tryz.func76 G G (eO up empty pull drag motor br BA bcp sp slo shi sfail false _ (hb.now S) hbn hesc hstp) ?_;clear H a
     rintro _ _ a ⟨A8,n8,c8,f8,rfl,S2⟩ H;replace S:=S.call S2;clear S2;refine wpList_nil (And.intro (Or.inr (S.sel [3,4,5,6] rfl rfl)) ?_);refine aM rfl ?_;refine aJ H rfl S eK ?_;intro b7 _ a hb7 hbw7 S H;refine wpList_nil (And.intro (Or.inr (S.sel [4,5,6,7] rfl rfl)) ?_);refine aM rfl ?_;refine aE H S (i:=0) rfl rfl rfl rfl cX rfl rfl ?_;clear H a S;intro _ a S H;refine wpList_nil (And.intro (Or.inr (S.sel [4,5,6,7] rfl rfl)) ?_);refine aM rfl ?_;refine aE H S (i:=3) rfl rfl rfl rfl cX rfl rfl ?_;clear H a S;intro _ a S H;refine wpList_nil (And.intro (Or.inr (S.sel [4,5,6,7] rfl rfl)) ?_);refine bD ?_;exact k6 ((b7,b8),(_,_,_),_,_,_) a _ (trivial) (S.sel [0,3,4,5,6,7] rfl rfl) (H.keep [7,8,4,5] rfl)
    ·skip
     refine aJ H rfl S eK ?_;intro b7 _ a hb7 hbw7 S H
     refine wpList_nil (And.intro (Or.inr (S.sel [3,4,5,6] rfl rfl)) ?_);refine aM rfl ?_;refine aA H rfl rfl Tryz.func76 rfl rfl (eO up empty pull drag motor br BA bcp sp slo shi sfail false _ (hb.now S) hbn hesc hstp) ?_;clear H a;rintro _ _ a ⟨A8,n8,c8,f8,rfl,S2⟩ H;replace S:=S.call S2;clear S2;refine wpList_nil (And.intro (Or.inr (S.sel [4,5,6,7] rfl rfl)) ?_);refine aM rfl ?_;refine aE H S (i:=1) rfl rfl rfl rfl cX rfl rfl ?_;clear H a S;intro _ a S H;refine wpList_nil (And.intro (Or.inr (S.sel [4,5,6,7] rfl rfl)) ?_);refine aM rfl ?_;refine aE H S (i:=3) rfl rfl rfl rfl cX rfl rfl ?_;clear H a S;intro _ a S H;refine wpList_nil (And.intro (Or.inr (S.sel [4,5,6,7] rfl rfl)) ?_);refine bD ?_;exact k6 ((b7,b8),(_,_,_),_,_,_) a _ (trivial) (S.sel [1,3,4,5,6,7] rfl rfl) (H.keep [7,8,4,5] rfl)
   ·skip
    refine aJ H rfl S eK ?_;intro b7 _ a hb7 hbw7 S H
    refine wpList_nil (And.intro (Or.inr (S.sel [2,3,4,5] rfl rfl)) ?_);refine aM rfl ?_;refine aA H rfl rfl Tryz.func76 rfl rfl (eO up empty pull drag motor br BA bcp sp slo shi sfail true _ (hb.now S) hbn hesc hstp) ?_;clear H a;rintro _ _ a ⟨A7,n7,c7,f7,rfl,S2⟩ H;replace S:=S.call S2;clear S2;refine wpList_nil (And.intro (Or.inr (S.sel [3,4,5,6] rfl rfl)) ?_);refine aM rfl ?_;refine aA H rfl rfl Tryz.func76 rfl rfl (eO up empty pull drag motor br BA bcp sp slo shi sfail false _ (hb.now S) hbn hesc hstp) ?_;clear H a;rintro _ _ a ⟨A8,n8,c8,f8,rfl,S2⟩ H;replace S:=S.call S2;clear S2;refine wpList_nil (And.intro (Or.inr (S.sel [4,5,6,7] rfl rfl)) ?_);refine aM rfl ?_;refine aE H S (i:=2) rfl rfl rfl rfl cX rfl rfl ?_;clear H a S;intro _ a S H;refine wpList_nil (And.intro (Or.inr (S.sel [4,5,6,7] rfl rfl)) ?_);refine aM rfl ?_;refine aE H S (i:=3) rfl rfl rfl rfl cX rfl rfl ?_;clear H a S;intro _ a S H;refine wpList_nil (And.intro (Or.inr (S.sel [4,5,6,7] rfl rfl)) ?_);refine bD ?_;exact k6 ((b7,b8),(_,_,_),_,_,_) a _ (trivial) (S.sel [2,3,4,5,6,7] rfl rfl) (H.keep [7,8,4,5] rfl)
 clear SR H S a;intro xm a wm hp S H;obtain ⟨⟨b7,b8⟩,⟨A7,n7,c7⟩,A8,n8,c8⟩:=xm;refine wp_seq_k fun K8 k8=>?_
 replace H:=H.keep [4,5,7,8] rfl;refine sS H fun K9 k9=>sf nF rfl<|sl S 0 iP G G G<|sr 1 G<|sE ?_;intro a H
 refine k9 _ ?_;refine cond_ H rfl (fun hc2=>?_) (fun hc2=>?_)
 ·skip
  try simp only [oz] at hc2
  have hcf:=hc2
  replace S:=S.drew;refine seq_wt 999999 (.b2 0 (.b2 1 (.e 2 (.e 3 (.p 4 .nil))) 2 (.e 1 (.e 3 (.p 4 .nil)))) 1 (.e 0 (.e 2 (.e 3 (.p 4 .nil))))) (by kernel_rfl) (by kernel_rfl) (S.sel [0,1,4,5] G G) fun K10 k10=>?_
  refine eF G G ?_ ?_
  ·skip
   refine ls 1 H<|sd ((aB bF aS rfl S (i:=3) G G))<|sE ?_;intro a H
   refine wpList_nil (And.intro (Or.inr (S.sel [0,1,4,5] G G)) ?_);refine eF G G ?_ ?_
   ·skip
    refine ls 1 H<|sd ((aB bF aS rfl S (i:=2) G G))<|sE ?_;intro a H
    refine wpList_nil (And.intro (Or.inr (S.sel [0,1,4,5] G G)) ?_);refine aM rfl ?_;refine aE H S (i:=3) G G G G aS G G ?_;clear H a S;intro _ a S H;refine wpList_nil (And.intro (Or.inr (S.sel [0,1,4,5] G G)) ?_);refine aM rfl ?_;refine aE H S (i:=2) G G G G aS G G ?_;clear H a S;intro _ a S H;refine wpList_nil (And.intro (Or.inr (S.sel [0,1,4,5] G G)) ?_);refine aW H G G (fun _=>bK rfl) ?_;intro a H;refine bD ?_;refine k10 _ _ ?_;refine wp_ret ?_;refine oS (fn:=Tryz.f34) rfl H G G bF (by exact aS) (dN S (i:=3) rfl) bF (by exact aS) (dN S (i:=2) rfl) rfl ?_;first|(rw [kU hce];exact ⟨_,_,rfl,(S.sel [] G G)⟩)|(rw [jG hce (by simpa using hcf)];exact ⟨_,_,rfl,(S.sel [] G G)⟩)|(rw [mM hce (by simpa using hcf)];exact ⟨_,_,rfl,(S.sel [] G G)⟩)
   ·skip
    refine aE H S (i:=3) G G G G aS G G ?_
    clear H a S;intro _ a S H;refine wpList_nil (And.intro (Or.inr (S.sel [0,1,4,5] G G)) ?_);refine aM rfl ?_;refine ls 1 H<|sd ((aB bF aS rfl S (i:=2) G G))<|sE ?_;intro a H
    refine wpList_nil (And.intro (Or.inr (S.sel [0,1,4,5] G G)) ?_);refine aM rfl ?_;refine aE H S (i:=2) G G G G aS G G ?_;clear H a S;intro _ a S H;refine wpList_nil (And.intro (Or.inr (S.sel [0,1,4,5] G G)) ?_);refine aW H G G (fun _=>bK rfl) ?_;intro a H;refine bD ?_;refine k10 _ _ ?_;refine wp_ret ?_;refine oS (fn:=Tryz.f34) rfl H G G bF (by exact aS) (dN S (i:=3) rfl) bF (by exact aS) (dN S (i:=2) rfl) rfl ?_;first|(rw [kU hce];exact ⟨_,_,rfl,(S.sel [] G G)⟩)|(rw [jG hce (by simpa using hcf)];exact ⟨_,_,rfl,(S.sel [] G G)⟩)|(rw [mM hce (by simpa using hcf)];exact ⟨_,_,rfl,(S.sel [] G G)⟩)
  ·skip
   refine ls 1 H<|sd ((aB bF aS rfl S (i:=2) G G))<|sE ?_;intro a H
   refine wpList_nil (And.intro (Or.inr (S.sel [0,1,4,5] G G)) ?_);refine aM rfl ?_;refine ls 1 H<|sd ((aB bF aS rfl S (i:=3) G G))<|sE ?_;intro a H
   refine wpList_nil (And.intro (Or.inr (S.sel [0,1,4,5] G G)) ?_);refine aM rfl ?_;refine aE H S (i:=3) G G G G aS G G ?_;clear H a S;intro _ a S H;refine wpList_nil (And.intro (Or.inr (S.sel [0,1,4,5] G G)) ?_);refine aM rfl ?_;refine aE H S (i:=2) G G G G aS G G ?_;clear H a S;intro _ a S H;refine wpList_nil (And.intro (Or.inr (S.sel [0,1,4,5] G G)) ?_);refine aW H G G (fun _=>bK rfl) ?_;intro a H;refine bD ?_;refine k10 _ _ ?_;refine wp_ret ?_;refine oS (fn:=Tryz.f34) rfl H G G bF (by exact aS) (dN S (i:=3) rfl) bF (by exact aS) (dN S (i:=2) rfl) rfl ?_;first|(rw [kU hce];exact ⟨_,_,rfl,(S.sel [] G G)⟩)|(rw [jG hce (by simpa using hcf)];exact ⟨_,_,rfl,(S.sel [] G G)⟩)|(rw [mM hce (by simpa using hcf)];exact ⟨_,_,rfl,(S.sel [] G G)⟩)
 try simp only [oz] at hc2
 have hcf:=hc2
 refine wp_skip ?_;refine k8 _ _ ?_;replace H:=H.keep [4,5,7,8] rfl;replace S:=S.drew;refine seq_wt 999999 (.q 0 (.q 1 (.q 2 (.q 3 (.q 4 (.q 5 (.q 6 (.q 7 (.q 8 (.q 9 (.q 10 (.q 11 (.e 12 (.e 13 (.q 14 .nil))))))))))))))) (by kernel_rfl) (by kernel_rfl) (S.sel [0,1,4,5] G G) fun K11 k11=>?_
 refine aH H G G (fun _ S=>(aC jV rfl)) ?_;intro a H
 refine aH H G G (fun _ S=>aF aD rfl (aEh S (i:=1) G G)) ?_;intro a H
 refine aH H G G (fun _ S=>(aC jV rfl)) ?_;intro a H
 refine aH H G G (fun _ S=>aF aD rfl (aEh S (i:=0) G G)) ?_;intro a H
 refine aH H G G (fun _ S=>aN dW G G) ?_;intro a H
 refine aH H G G (fun _ S=>(aC lR rfl)) ?_;intro a H
 refine aH H G G (fun _ S=>aF bE rfl (aEh S (i:=1) G G)) ?_;intro a H
 refine aH H G G (fun _ S=>cE aP rfl) ?_;intro a H
 refine aH H G G (fun _ S=>(aC lR rfl)) ?_;intro a H
 refine aH H G G (fun _ S=>aF bE rfl (aEh S (i:=0) G G)) ?_;intro a H
 refine aH H G G (fun _ S=>cE aP rfl) ?_;intro a H
 refine aH H G G (fun _ S=>aN dW G G) ?_;intro a H
 refine aM rfl ?_
 refine aE H S (i:=3) G G G G aS G G ?_
 clear H a S;intro _ a S H;refine wpList_nil (And.intro (Or.inr (S.sel [0,1,4,5] G G)) ?_);refine aM rfl ?_;refine aE H S (i:=2) G G G G aS G G ?_;clear H a S;intro _ a S H;refine wpList_nil (And.intro (Or.inr (S.sel [0,1,4,5] G G)) ?_);refine aH H G G (fun _ S=>bK rfl) ?_;intro a H;refine bD ?_;refine k11 _ _ ?_;refine wp_ret ?_;refine oS (fn:=Tryz.f34) rfl H G G bF (by exact aS) (dN S (i:=3) rfl) bF (by exact aS) (dN S (i:=2) rfl) rfl ?_;first|(rw [kU hce];exact ⟨_,_,rfl,(S.sel [] G G)⟩)|(rw [jG hce (by simpa using hcf)];exact ⟨_,_,rfl,(S.sel [] G G)⟩)|(rw [mM hce (by simpa using hcf)];exact ⟨_,_,rfl,(S.sel [] G G)⟩)
end
section
def exBr:List Brake:=[⟨12000,1⟩,⟨16000,3⟩]
theorem iK:distI ⟨true,1000,20,2000,20000,exBr⟩ ⟨60,0,500,0⟩=(108,135,0):=by kernel_rfl
theorem iL (w:World) :
    Calls Tryz.prog 35 [].toArray w (Ret (fun v w'=>∃ A,v = .agg [.bool true,.int .i64 1000,.int .i64 20,.int .i64 2000,.int .i64 20000,.slice A 2 2].toArray∧St w noF [ownM 193 2 A 2 2 (bcell exBr)] w')):=by
 refine enter Tryz.func35 rfl Tryz.ntmps35 rfl (fun a H=>?_)
 have S:=St.start w
 refine seq_list fun K1 k1=>?_
 refine aJ H rfl S Oy ?_;intro b0 _ a hb0 hbw0 S H
 refine k1 _ _ ?_;refine seq_list fun K2 k2=>?_
 refine ls 2 H<|sd (aN Pj G G)<|sd (aN Pj G G)<|sE ?_;intro a H
 refine aY H rfl S mF nB zS G G G G G G G G G ?_;intro A1 _ a hA1 S H
 refine ls 1 H<|sd (aN aAg G G)<|sE ?_;intro a H
 refine aE H S (i:=1) G G G G iX G G ?_
 clear H a S;intro _ a S H;refine k2 _ _ ?_;refine wp_ret ?_;refine retA (fn:=Tryz.f35) rfl H rfl gC (by exact iX) (dN S (i:=1) rfl) ?_;replace S:=S.recell (i:=0) rfl (cell':=bcell exBr) (aBm (two G G) (two G G));exact ⟨_,rfl,(S.sel [0] G G)⟩
theorem iM (w:World) :
    Calls Tryz.prog 9 [].toArray w (Ret (fun v w'=>v = .bool true∧St w noF [] w')):=by
 refine enter Tryz.func9 rfl Tryz.ntmps9 rfl (fun a H=>?_)
 have S:=St.start w
 refine sS H fun K1 k1=>sr 1 G<|sE ?_;intro a H
 refine k1 _ ?_;refine seq_list fun K2 k2=>?_
 refine ls 2 H<|sd (aN dW G G)<|sd (aN aAf G G)<|sE ?_;intro a H
 refine aJ H rfl S Ox ?_;intro b1 _ a hb1 hbw1 S H
 refine aE H S (i:=0) G G G G rP G G ?_
 clear H a S;intro _ a S H;refine k2 _ _ ?_;replace H:=H.keep [1] rfl;replace S:=S.drew;refine seq_wt 999999 (.q 1 (.b3 0 (.b3 2 (.q 3 (.q 4 (.q 5 (.q 6 (.b2 7 (.e 8 (.e 9 (.e 10 (.q 11 .nil)))) 8 (.e 7 (.e 9 (.e 10 (.q 11 .nil))))))))) 7 (.b2 2 (.q 3 (.q 4 (.q 5 (.q 6 (.e 8 (.e 9 (.e 10 (.q 11 .nil)))))))) 8 (.e 2 (.q 3 (.q 4 (.q 5 (.q 6 (.e 9 (.e 10 (.q 11 .nil))))))))) 8 (.b2 2 (.q 3 (.q 4 (.q 5 (.q 6 (.e 7 (.e 9 (.e 10 (.q 11 .nil)))))))) 7 (.e 2 (.q 3 (.q 4 (.q 5 (.q 6 (.e 9 (.e 10 (.q 11 .nil)))))))))) 7 (.b2 0 (.b2 2 (.q 3 (.q 4 (.q 5 (.q 6 (.e 8 (.e 9 (.e 10 (.q 11 .nil)))))))) 8 (.e 2 (.q 3 (.q 4 (.q 5 (.q 6 (.e 9 (.e 10 (.q 11 .nil))))))))) 8 (.e 0 (.e 2 (.q 3 (.q 4 (.q 5 (.q 6 (.e 9 (.e 10 (.q 11 .nil)))))))))) 8 (.b2 0 (.b2 2 (.q 3 (.q 4 (.q 5 (.q 6 (.e 7 (.e 9 (.e 10 (.q 11 .nil)))))))) 7 (.e 2 (.q 3 (.q 4 (.q 5 (.q 6 (.e 9 (.e 10 (.q 11 .nil))))))))) 7 (.e 0 (.e 2 (.q 3 (.q 4 (.q 5 (.q 6 (.e 9 (.e 10 (.q 11 .nil)))))))))))) (by kernel_rfl) (by kernel_rfl) (S.sel [0] G G) fun K3 k3=>?_
 refine aH H G G (fun _ S=>(aB pW rP rfl S (i:=0) G G)) ?_;intro a H
 refine xR G G G ?_ ?_ ?_
 ·skip
  refine aA H G G Tryz.func35 G G (iL _) ?_;clear H a
  rintro _ _ a ⟨A4,rfl,S2⟩ H;replace S:=S.call S2;clear S2;refine wpList_nil (And.intro (Or.inr (S.sel [1] rfl rfl)) ?_);refine xR rfl rfl rfl ?_ ?_ ?_
  ·skip
   refine aA H G G Tryz.func34 G G (cV true 1000 20 2000 20000 exBr A4 2 60 0 500 0 _ (aEi S (i:=0) rfl) (by decide)) ?_;clear H a
   rintro _ _ a ⟨tl,th,rfl,S2⟩ H;replace S:=S.call S2;clear S2;rw [iK] at H;refine wpList_nil (And.intro (Or.inr (S.sel [1] rfl rfl)) ?_);refine aH H rfl rfl (fun _ S=>aL rfl) ?_;intro a H;refine aH H rfl rfl (fun _ S=>aQ rfl rfl) ?_;intro a H;refine aH H rfl rfl (fun _ S=>aQ rfl rfl) ?_;intro a H;refine aH H rfl rfl (fun _ S=>aQ rfl rfl) ?_;intro a H;refine eF rfl rfl ?_ ?_
   ·skip
    refine aJ H rfl S cB ?_;intro b2 _ a hb2 hbw2 S H
    refine wpList_nil (And.intro (Or.inr (S.sel [2] G G)) ?_);refine aM rfl ?_;refine aJ H rfl S cB ?_;intro b3 _ a hb3 hbw3 S H;refine wpList_nil (And.intro (Or.inr (S.sel [3] G G)) ?_);refine aM rfl ?_;refine aE H S (i:=1) G G G G aS G G ?_;clear H a S;intro _ a S H;refine wpList_nil (And.intro (Or.inr (S.sel [3] G G)) ?_);refine aM rfl ?_;refine aE H S (i:=0) G G G G aS G G ?_;clear H a S;intro _ a S H;refine wpList_nil (And.intro (Or.inr (S.sel [3] G G)) ?_);refine aH H G G (fun _ S=>bK rfl) ?_;intro a H;refine bD ?_;refine k3 _ _ ?_;replace H:=H.keep [2,4] rfl;refine seq_list fun K4 k4=>?_
    refine aA H G G Tryz.func36 G G (cN _) ?_;clear H a
    rintro _ _ a ⟨SA,B0,B1,B2,B3,B4,QA,TA,rfl,S2⟩ H;replace S:=S.call S2;clear S2;refine ls 3 H<|sr 3 G<|sE ?_;intro a H
    refine aJ H rfl S gI ?_;intro b5 _ a hb5 hbw5 S H
    refine aE H S (i:=0) G G G G cI G G ?_
    clear H a S;intro _ a S H;refine ls 1 H<|sr 1 G<|sE ?_;intro a H
    refine k4 _ _ ?_;replace H:=H.keep [2,4,5] rfl;refine seq_list fun K5 k5=>?_
    refine ls 1 H<|sd ((aB dS cI rfl S (i:=0) G G))<|sE ?_;intro a H
    refine aA H G G Tryz.func37 G G (eD 2 exSw SA 4 exWs QA 5 (exOA B0 B1 B2 B3 B4) exOc _ (aEi S (i:=1) rfl) (aEi S (i:=7) rfl) (fun k hk=>by
      rcases k with _|_|_|_|_|k
      · exact aEi S (i:=2) rfl
      · exact aEi S (i:=3) rfl
      · exact aEi S (i:=4) rfl
      · exact aEi S (i:=5) rfl
      · exact aEi S (i:=6) rfl
      · exact absurd hk (by simp [exWs])
    ) exCir) ?_;clear H a
    rintro _ _ a ⟨A6,c6,rfl,S2⟩ H;replace S:=S.call S2;clear S2;rw [gF] at H;refine ls 5 H<|sr 5 G<|sE ?_;intro a H
    refine k5 _ _ ?_;replace H:=H.keep [2,4,7,8] rfl;refine sS H fun K6 k6=>sr 3 G<|sg 2 2 29 31 true G G (fun hg3=>sy hg3<|sr 1 G<|sy hg3<|sr 1 G<|sz 2 G G G)<|sa G G G<|sr 1 G<|sg 3 6 33 36 true G G (fun hg7=>sy hg7<|sd ((aB bF aS rfl S (i:=9) G G))<|sy hg7<|sd (aN dW G G)<|sy hg7<|sd (cG G G)<|sz 3 G G G)<|sa G G G<|sr 1 G<|sg 3 11 38 41 true G G (fun hg12=>sy hg12<|sr 1 G<|sy hg12<|sL hY rfl<|sy hg12<|sr 1 G<|sz 3 G G G)<|sa G G G<|sr 1 G<|sE ?_;intro a H
    refine k6 _ ?_;refine wp_ret ?_;refine ret1 (fn:=Tryz.f9) rfl H rfl ?_;exact ⟨rfl,(S.sel [] G G)⟩
   ·skip
    refine aJ H rfl S cB ?_;intro b3 _ a hb3 hbw3 S H
    refine wpList_nil (And.intro (Or.inr (S.sel [2] G G)) ?_);refine aM rfl ?_;refine aJ H rfl S cB ?_;intro b2 _ a hb2 hbw2 S H;refine wpList_nil (And.intro (Or.inr (S.sel [3] G G)) ?_);refine aM rfl ?_;refine aE H S (i:=0) G G G G aS G G ?_;clear H a S;intro _ a S H;refine wpList_nil (And.intro (Or.inr (S.sel [3] G G)) ?_);refine aM rfl ?_;refine aE H S (i:=1) G G G G aS G G ?_;clear H a S;intro _ a S H;refine wpList_nil (And.intro (Or.inr (S.sel [3] G G)) ?_);refine aH H G G (fun _ S=>bK rfl) ?_;intro a H;refine bD ?_;refine k3 _ _ ?_;replace H:=H.keep [2,4] rfl;refine seq_list fun K7 k7=>?_
    refine aA H G G Tryz.func36 G G (cN _) ?_;clear H a
    rintro _ _ a ⟨SA,B0,B1,B2,B3,B4,QA,TA,rfl,S2⟩ H;replace S:=S.call S2;clear S2;refine ls 3 H<|sr 3 G<|sE ?_;intro a H
    refine aJ H rfl S gI ?_;intro b5 _ a hb5 hbw5 S H
    refine aE H S (i:=0) G G G G cI G G ?_
    clear H a S;intro _ a S H;refine ls 1 H<|sr 1 G<|sE ?_;intro a H
    refine k7 _ _ ?_;replace H:=H.keep [2,4,5] rfl;refine seq_list fun K8 k8=>?_
    refine ls 1 H<|sd ((aB dS cI rfl S (i:=0) G G))<|sE ?_;intro a H
    refine aA H G G Tryz.func37 G G (eD 2 exSw SA 4 exWs QA 5 (exOA B0 B1 B2 B3 B4) exOc _ (aEi S (i:=1) rfl) (aEi S (i:=7) rfl) (fun k hk=>by
      rcases k with _|_|_|_|_|k
      · exact aEi S (i:=2) rfl
      · exact aEi S (i:=3) rfl
      · exact aEi S (i:=4) rfl
      · exact aEi S (i:=5) rfl
      · exact aEi S (i:=6) rfl
      · exact absurd hk (by simp [exWs])
    ) exCir) ?_;clear H a
    rintro _ _ a ⟨A6,c6,rfl,S2⟩ H;replace S:=S.call S2;clear S2;rw [gF] at H;refine ls 5 H<|sr 5 G<|sE ?_;intro a H
    refine k8 _ _ ?_;replace H:=H.keep [2,4,7,8] rfl;refine sS H fun K9 k9=>sr 3 G<|sg 2 2 29 31 true G G (fun hg3=>sy hg3<|sr 1 G<|sy hg3<|sr 1 G<|sz 2 G G G)<|sa G G G<|sr 1 G<|sg 3 6 33 36 true G G (fun hg7=>sy hg7<|sd ((aB bF aS rfl S (i:=8) G G))<|sy hg7<|sd (aN dW G G)<|sy hg7<|sd (cG G G)<|sz 3 G G G)<|sa G G G<|sr 1 G<|sg 3 11 38 41 true G G (fun hg12=>sy hg12<|sr 1 G<|sy hg12<|sL hY rfl<|sy hg12<|sr 1 G<|sz 3 G G G)<|sa G G G<|sr 1 G<|sE ?_;intro a H
    refine k9 _ ?_;refine wp_ret ?_;refine ret1 (fn:=Tryz.f9) rfl H rfl ?_;exact ⟨rfl,(S.sel [] G G)⟩
  ·skip
   refine aJ H rfl S cB ?_;intro b2 _ a hb2 hbw2 S H
   refine wpList_nil (And.intro (Or.inr (S.sel [2] G G)) ?_);refine eF G G ?_ ?_
   ·skip
    refine aA H G G Tryz.func34 G G (cV true 1000 20 2000 20000 exBr A4 2 60 0 500 0 _ (aEi S (i:=1) rfl) (by decide)) ?_;clear H a
    rintro _ _ a ⟨tl,th,rfl,S2⟩ H;replace S:=S.call S2;clear S2;rw [iK] at H;refine wpList_nil (And.intro (Or.inr (S.sel [2] rfl rfl)) ?_);refine aH H rfl rfl (fun _ S=>aL rfl) ?_;intro a H;refine aH H rfl rfl (fun _ S=>aQ rfl rfl) ?_;intro a H;refine aH H rfl rfl (fun _ S=>aQ rfl rfl) ?_;intro a H;refine aH H rfl rfl (fun _ S=>aQ rfl rfl) ?_;intro a H;refine aM rfl ?_;refine aJ H rfl S cB ?_;intro b3 _ a hb3 hbw3 S H;refine wpList_nil (And.intro (Or.inr (S.sel [3] rfl rfl)) ?_);refine aM rfl ?_;refine aE H S (i:=1) rfl rfl rfl rfl aS rfl rfl ?_;clear H a S;intro _ a S H;refine wpList_nil (And.intro (Or.inr (S.sel [3] rfl rfl)) ?_);refine aM rfl ?_;refine aE H S (i:=0) rfl rfl rfl rfl aS rfl rfl ?_;clear H a S;intro _ a S H;refine wpList_nil (And.intro (Or.inr (S.sel [3] rfl rfl)) ?_);refine aH H rfl rfl (fun _ S=>bK rfl) ?_;intro a H;refine bD ?_;refine k3 _ _ ?_;replace H:=H.keep [2,4] rfl;refine seq_list fun K10 k10=>?_
    refine aA H G G Tryz.func36 G G (cN _) ?_;clear H a
    rintro _ _ a ⟨SA,B0,B1,B2,B3,B4,QA,TA,rfl,S2⟩ H;replace S:=S.call S2;clear S2;refine ls 3 H<|sr 3 G<|sE ?_;intro a H
    refine aJ H rfl S gI ?_;intro b5 _ a hb5 hbw5 S H
    refine aE H S (i:=0) G G G G cI G G ?_
    clear H a S;intro _ a S H;refine ls 1 H<|sr 1 G<|sE ?_;intro a H
    refine k10 _ _ ?_;replace H:=H.keep [2,4,5] rfl;refine seq_list fun K11 k11=>?_
    refine ls 1 H<|sd ((aB dS cI rfl S (i:=0) G G))<|sE ?_;intro a H
    refine aA H G G Tryz.func37 G G (eD 2 exSw SA 4 exWs QA 5 (exOA B0 B1 B2 B3 B4) exOc _ (aEi S (i:=1) rfl) (aEi S (i:=7) rfl) (fun k hk=>by
      rcases k with _|_|_|_|_|k
      · exact aEi S (i:=2) rfl
      · exact aEi S (i:=3) rfl
      · exact aEi S (i:=4) rfl
      · exact aEi S (i:=5) rfl
      · exact aEi S (i:=6) rfl
      · exact absurd hk (by simp [exWs])
    ) exCir) ?_;clear H a
    rintro _ _ a ⟨A6,c6,rfl,S2⟩ H;replace S:=S.call S2;clear S2;rw [gF] at H;refine ls 5 H<|sr 5 G<|sE ?_;intro a H
    refine k11 _ _ ?_;replace H:=H.keep [2,4,7,8] rfl;refine sS H fun K12 k12=>sr 3 G<|sg 2 2 29 31 true G G (fun hg3=>sy hg3<|sr 1 G<|sy hg3<|sr 1 G<|sz 2 G G G)<|sa G G G<|sr 1 G<|sg 3 6 33 36 true G G (fun hg7=>sy hg7<|sd ((aB bF aS rfl S (i:=9) G G))<|sy hg7<|sd (aN dW G G)<|sy hg7<|sd (cG G G)<|sz 3 G G G)<|sa G G G<|sr 1 G<|sg 3 11 38 41 true G G (fun hg12=>sy hg12<|sr 1 G<|sy hg12<|sL hY rfl<|sy hg12<|sr 1 G<|sz 3 G G G)<|sa G G G<|sr 1 G<|sE ?_;intro a H
    refine k12 _ ?_;refine wp_ret ?_;refine ret1 (fn:=Tryz.f9) rfl H rfl ?_;exact ⟨rfl,(S.sel [] G G)⟩
   ·skip
    refine aJ H rfl S cB ?_;intro b3 _ a hb3 hbw3 S H
    refine wpList_nil (And.intro (Or.inr (S.sel [3] rfl rfl)) ?_);refine aM rfl ?_;refine aA H rfl rfl Tryz.func34 rfl rfl (cV true 1000 20 2000 20000 exBr A4 2 60 0 500 0 _ (aEi S (i:=2) rfl) (by decide)) ?_;clear H a;rintro _ _ a ⟨tl,th,rfl,S2⟩ H;replace S:=S.call S2;clear S2;rw [iK] at H;refine wpList_nil (And.intro (Or.inr (S.sel [3] rfl rfl)) ?_);refine aH H rfl rfl (fun _ S=>aL rfl) ?_;intro a H;refine aH H rfl rfl (fun _ S=>aQ rfl rfl) ?_;intro a H;refine aH H rfl rfl (fun _ S=>aQ rfl rfl) ?_;intro a H;refine aH H rfl rfl (fun _ S=>aQ rfl rfl) ?_;intro a H;refine aM rfl ?_;refine aE H S (i:=1) rfl rfl rfl rfl aS rfl rfl ?_;clear H a S;intro _ a S H;refine wpList_nil (And.intro (Or.inr (S.sel [3] rfl rfl)) ?_);refine aM rfl ?_;refine aE H S (i:=0) rfl rfl rfl rfl aS rfl rfl ?_;clear H a S;intro _ a S H;refine wpList_nil (And.intro (Or.inr (S.sel [3] rfl rfl)) ?_);refine aH H rfl rfl (fun _ S=>bK rfl) ?_;intro a H;refine bD ?_;refine k3 _ _ ?_;replace H:=H.keep [2,4] rfl;refine seq_list fun K13 k13=>?_
    refine aA H G G Tryz.func36 G G (cN _) ?_;clear H a
    rintro _ _ a ⟨SA,B0,B1,B2,B3,B4,QA,TA,rfl,S2⟩ H;replace S:=S.call S2;clear S2;refine ls 3 H<|sr 3 G<|sE ?_;intro a H
    refine aJ H rfl S gI ?_;intro b5 _ a hb5 hbw5 S H
    refine aE H S (i:=0) G G G G cI G G ?_
    clear H a S;intro _ a S H;refine ls 1 H<|sr 1 G<|sE ?_;intro a H
    refine k13 _ _ ?_;replace H:=H.keep [2,4,5] rfl;refine seq_list fun K14 k14=>?_
    refine ls 1 H<|sd ((aB dS cI rfl S (i:=0) G G))<|sE ?_;intro a H
    refine aA H G G Tryz.func37 G G (eD 2 exSw SA 4 exWs QA 5 (exOA B0 B1 B2 B3 B4) exOc _ (aEi S (i:=1) rfl) (aEi S (i:=7) rfl) (fun k hk=>by
      rcases k with _|_|_|_|_|k
      · exact aEi S (i:=2) rfl
      · exact aEi S (i:=3) rfl
      · exact aEi S (i:=4) rfl
      · exact aEi S (i:=5) rfl
      · exact aEi S (i:=6) rfl
      · exact absurd hk (by simp [exWs])
    ) exCir) ?_;clear H a
    rintro _ _ a ⟨A6,c6,rfl,S2⟩ H;replace S:=S.call S2;clear S2;rw [gF] at H;refine ls 5 H<|sr 5 G<|sE ?_;intro a H
    refine k14 _ _ ?_;replace H:=H.keep [2,4,7,8] rfl;refine sS H fun K15 k15=>sr 3 G<|sg 2 2 29 31 true G G (fun hg3=>sy hg3<|sr 1 G<|sy hg3<|sr 1 G<|sz 2 G G G)<|sa G G G<|sr 1 G<|sg 3 6 33 36 true G G (fun hg7=>sy hg7<|sd ((aB bF aS rfl S (i:=9) G G))<|sy hg7<|sd (aN dW G G)<|sy hg7<|sd (cG G G)<|sz 3 G G G)<|sa G G G<|sr 1 G<|sg 3 11 38 41 true G G (fun hg12=>sy hg12<|sr 1 G<|sy hg12<|sL hY rfl<|sy hg12<|sr 1 G<|sz 3 G G G)<|sa G G G<|sr 1 G<|sE ?_;intro a H
    refine k15 _ ?_;refine wp_ret ?_;refine ret1 (fn:=Tryz.f9) rfl H rfl ?_;exact ⟨rfl,(S.sel [] G G)⟩
  ·skip
   refine aJ H rfl S cB ?_;intro b3 _ a hb3 hbw3 S H
   refine wpList_nil (And.intro (Or.inr (S.sel [2] G G)) ?_);refine eF G G ?_ ?_
   ·skip
    refine aA H G G Tryz.func34 G G (cV true 1000 20 2000 20000 exBr A4 2 60 0 500 0 _ (aEi S (i:=1) rfl) (by decide)) ?_;clear H a
    rintro _ _ a ⟨tl,th,rfl,S2⟩ H;replace S:=S.call S2;clear S2;rw [iK] at H;refine wpList_nil (And.intro (Or.inr (S.sel [2] rfl rfl)) ?_);refine aH H rfl rfl (fun _ S=>aL rfl) ?_;intro a H;refine aH H rfl rfl (fun _ S=>aQ rfl rfl) ?_;intro a H;refine aH H rfl rfl (fun _ S=>aQ rfl rfl) ?_;intro a H;refine aH H rfl rfl (fun _ S=>aQ rfl rfl) ?_;intro a H;refine aM rfl ?_;refine aJ H rfl S cB ?_;intro b2 _ a hb2 hbw2 S H;refine wpList_nil (And.intro (Or.inr (S.sel [3] rfl rfl)) ?_);refine aM rfl ?_;refine aE H S (i:=0) rfl rfl rfl rfl aS rfl rfl ?_;clear H a S;intro _ a S H;refine wpList_nil (And.intro (Or.inr (S.sel [3] rfl rfl)) ?_);refine aM rfl ?_;refine aE H S (i:=1) rfl rfl rfl rfl aS rfl rfl ?_;clear H a S;intro _ a S H;refine wpList_nil (And.intro (Or.inr (S.sel [3] rfl rfl)) ?_);refine aH H rfl rfl (fun _ S=>bK rfl) ?_;intro a H;refine bD ?_;refine k3 _ _ ?_;replace H:=H.keep [2,4] rfl;refine seq_list fun K16 k16=>?_
    refine aA H G G Tryz.func36 G G (cN _) ?_;clear H a
    rintro _ _ a ⟨SA,B0,B1,B2,B3,B4,QA,TA,rfl,S2⟩ H;replace S:=S.call S2;clear S2;refine ls 3 H<|sr 3 G<|sE ?_;intro a H
    refine aJ H rfl S gI ?_;intro b5 _ a hb5 hbw5 S H
    refine aE H S (i:=0) G G G G cI G G ?_
    clear H a S;intro _ a S H;refine ls 1 H<|sr 1 G<|sE ?_;intro a H
    refine k16 _ _ ?_;replace H:=H.keep [2,4,5] rfl;refine seq_list fun K17 k17=>?_
    refine ls 1 H<|sd ((aB dS cI rfl S (i:=0) G G))<|sE ?_;intro a H
    refine aA H G G Tryz.func37 G G (eD 2 exSw SA 4 exWs QA 5 (exOA B0 B1 B2 B3 B4) exOc _ (aEi S (i:=1) rfl) (aEi S (i:=7) rfl) (fun k hk=>by
      rcases k with _|_|_|_|_|k
      · exact aEi S (i:=2) rfl
      · exact aEi S (i:=3) rfl
      · exact aEi S (i:=4) rfl
      · exact aEi S (i:=5) rfl
      · exact aEi S (i:=6) rfl
      · exact absurd hk (by simp [exWs])
    ) exCir) ?_;clear H a
    rintro _ _ a ⟨A6,c6,rfl,S2⟩ H;replace S:=S.call S2;clear S2;rw [gF] at H;refine ls 5 H<|sr 5 G<|sE ?_;intro a H
    refine k17 _ _ ?_;replace H:=H.keep [2,4,7,8] rfl;refine sS H fun K18 k18=>sr 3 G<|sg 2 2 29 31 true G G (fun hg3=>sy hg3<|sr 1 G<|sy hg3<|sr 1 G<|sz 2 G G G)<|sa G G G<|sr 1 G<|sg 3 6 33 36 true G G (fun hg7=>sy hg7<|sd ((aB bF aS rfl S (i:=8) G G))<|sy hg7<|sd (aN dW G G)<|sy hg7<|sd (cG G G)<|sz 3 G G G)<|sa G G G<|sr 1 G<|sg 3 11 38 41 true G G (fun hg12=>sy hg12<|sr 1 G<|sy hg12<|sL hY rfl<|sy hg12<|sr 1 G<|sz 3 G G G)<|sa G G G<|sr 1 G<|sE ?_;intro a H
    refine k18 _ ?_;refine wp_ret ?_;refine ret1 (fn:=Tryz.f9) rfl H rfl ?_;exact ⟨rfl,(S.sel [] G G)⟩
   ·skip
    refine aJ H rfl S cB ?_;intro b2 _ a hb2 hbw2 S H
    refine wpList_nil (And.intro (Or.inr (S.sel [3] rfl rfl)) ?_);refine aM rfl ?_;refine aA H rfl rfl Tryz.func34 rfl rfl (cV true 1000 20 2000 20000 exBr A4 2 60 0 500 0 _ (aEi S (i:=2) rfl) (by decide)) ?_;clear H a;rintro _ _ a ⟨tl,th,rfl,S2⟩ H;replace S:=S.call S2;clear S2;rw [iK] at H;refine wpList_nil (And.intro (Or.inr (S.sel [3] rfl rfl)) ?_);refine aH H rfl rfl (fun _ S=>aL rfl) ?_;intro a H;refine aH H rfl rfl (fun _ S=>aQ rfl rfl) ?_;intro a H;refine aH H rfl rfl (fun _ S=>aQ rfl rfl) ?_;intro a H;refine aH H rfl rfl (fun _ S=>aQ rfl rfl) ?_;intro a H;refine aM rfl ?_;refine aE H S (i:=0) rfl rfl rfl rfl aS rfl rfl ?_;clear H a S;intro _ a S H;refine wpList_nil (And.intro (Or.inr (S.sel [3] rfl rfl)) ?_);refine aM rfl ?_;refine aE H S (i:=1) rfl rfl rfl rfl aS rfl rfl ?_;clear H a S;intro _ a S H;refine wpList_nil (And.intro (Or.inr (S.sel [3] rfl rfl)) ?_);refine aH H rfl rfl (fun _ S=>bK rfl) ?_;intro a H;refine bD ?_;refine k3 _ _ ?_;replace H:=H.keep [2,4] rfl;refine seq_list fun K19 k19=>?_
    refine aA H G G Tryz.func36 G G (cN _) ?_;clear H a
    rintro _ _ a ⟨SA,B0,B1,B2,B3,B4,QA,TA,rfl,S2⟩ H;replace S:=S.call S2;clear S2;refine ls 3 H<|sr 3 G<|sE ?_;intro a H
    refine aJ H rfl S gI ?_;intro b5 _ a hb5 hbw5 S H
    refine aE H S (i:=0) G G G G cI G G ?_
    clear H a S;intro _ a S H;refine ls 1 H<|sr 1 G<|sE ?_;intro a H
    refine k19 _ _ ?_;replace H:=H.keep [2,4,5] rfl;refine seq_list fun K20 k20=>?_
    refine ls 1 H<|sd ((aB dS cI rfl S (i:=0) G G))<|sE ?_;intro a H
    refine aA H G G Tryz.func37 G G (eD 2 exSw SA 4 exWs QA 5 (exOA B0 B1 B2 B3 B4) exOc _ (aEi S (i:=1) rfl) (aEi S (i:=7) rfl) (fun k hk=>by
      rcases k with _|_|_|_|_|k
      · exact aEi S (i:=2) rfl
      · exact aEi S (i:=3) rfl
      · exact aEi S (i:=4) rfl
      · exact aEi S (i:=5) rfl
      · exact aEi S (i:=6) rfl
      · exact absurd hk (by simp [exWs])
    ) exCir) ?_;clear H a
    rintro _ _ a ⟨A6,c6,rfl,S2⟩ H;replace S:=S.call S2;clear S2;rw [gF] at H;refine ls 5 H<|sr 5 G<|sE ?_;intro a H
    refine k20 _ _ ?_;replace H:=H.keep [2,4,7,8] rfl;refine sS H fun K21 k21=>sr 3 G<|sg 2 2 29 31 true G G (fun hg3=>sy hg3<|sr 1 G<|sy hg3<|sr 1 G<|sz 2 G G G)<|sa G G G<|sr 1 G<|sg 3 6 33 36 true G G (fun hg7=>sy hg7<|sd ((aB bF aS rfl S (i:=8) G G))<|sy hg7<|sd (aN dW G G)<|sy hg7<|sd (cG G G)<|sz 3 G G G)<|sa G G G<|sr 1 G<|sg 3 11 38 41 true G G (fun hg12=>sy hg12<|sr 1 G<|sy hg12<|sL hY rfl<|sy hg12<|sr 1 G<|sz 3 G G G)<|sa G G G<|sr 1 G<|sE ?_;intro a H
    refine k21 _ ?_;refine wp_ret ?_;refine ret1 (fn:=Tryz.f9) rfl H rfl ?_;exact ⟨rfl,(S.sel [] G G)⟩
 ·skip
  refine aJ H rfl S cB ?_;intro b2 _ a hb2 hbw2 S H
  refine wpList_nil (And.intro (Or.inr (S.sel [1] G G)) ?_);refine eF G G ?_ ?_
  ·skip
   refine aA H G G Tryz.func35 G G (iL _) ?_;clear H a
   rintro _ _ a ⟨A4,rfl,S2⟩ H;replace S:=S.call S2;clear S2;refine wpList_nil (And.intro (Or.inr (S.sel [2] rfl rfl)) ?_);refine eF rfl rfl ?_ ?_
   ·skip
    refine aA H G G Tryz.func34 G G (cV true 1000 20 2000 20000 exBr A4 2 60 0 500 0 _ (aEi S (i:=0) rfl) (by decide)) ?_;clear H a
    rintro _ _ a ⟨tl,th,rfl,S2⟩ H;replace S:=S.call S2;clear S2;rw [iK] at H;refine wpList_nil (And.intro (Or.inr (S.sel [2] rfl rfl)) ?_);refine aH H rfl rfl (fun _ S=>aL rfl) ?_;intro a H;refine aH H rfl rfl (fun _ S=>aQ rfl rfl) ?_;intro a H;refine aH H rfl rfl (fun _ S=>aQ rfl rfl) ?_;intro a H;refine aH H rfl rfl (fun _ S=>aQ rfl rfl) ?_;intro a H;refine aM rfl ?_;refine aJ H rfl S cB ?_;intro b3 _ a hb3 hbw3 S H;refine wpList_nil (And.intro (Or.inr (S.sel [3] rfl rfl)) ?_);refine aM rfl ?_;refine aE H S (i:=2) rfl rfl rfl rfl aS rfl rfl ?_;clear H a S;intro _ a S H;refine wpList_nil (And.intro (Or.inr (S.sel [3] rfl rfl)) ?_);refine aM rfl ?_;refine aE H S (i:=0) rfl rfl rfl rfl aS rfl rfl ?_;clear H a S;intro _ a S H;refine wpList_nil (And.intro (Or.inr (S.sel [3] rfl rfl)) ?_);refine aH H rfl rfl (fun _ S=>bK rfl) ?_;intro a H;refine bD ?_;refine k3 _ _ ?_;replace H:=H.keep [2,4] rfl;refine seq_list fun K22 k22=>?_
    refine aA H G G Tryz.func36 G G (cN _) ?_;clear H a
    rintro _ _ a ⟨SA,B0,B1,B2,B3,B4,QA,TA,rfl,S2⟩ H;replace S:=S.call S2;clear S2;refine ls 3 H<|sr 3 G<|sE ?_;intro a H
    refine aJ H rfl S gI ?_;intro b5 _ a hb5 hbw5 S H
    refine aE H S (i:=0) G G G G cI G G ?_
    clear H a S;intro _ a S H;refine ls 1 H<|sr 1 G<|sE ?_;intro a H
    refine k22 _ _ ?_;replace H:=H.keep [2,4,5] rfl;refine seq_list fun K23 k23=>?_
    refine ls 1 H<|sd ((aB dS cI rfl S (i:=0) G G))<|sE ?_;intro a H
    refine aA H G G Tryz.func37 G G (eD 2 exSw SA 4 exWs QA 5 (exOA B0 B1 B2 B3 B4) exOc _ (aEi S (i:=1) rfl) (aEi S (i:=7) rfl) (fun k hk=>by
      rcases k with _|_|_|_|_|k
      · exact aEi S (i:=2) rfl
      · exact aEi S (i:=3) rfl
      · exact aEi S (i:=4) rfl
      · exact aEi S (i:=5) rfl
      · exact aEi S (i:=6) rfl
      · exact absurd hk (by simp [exWs])
    ) exCir) ?_;clear H a
    rintro _ _ a ⟨A6,c6,rfl,S2⟩ H;replace S:=S.call S2;clear S2;rw [gF] at H;refine ls 5 H<|sr 5 G<|sE ?_;intro a H
    refine k23 _ _ ?_;replace H:=H.keep [2,4,7,8] rfl;refine sS H fun K24 k24=>sr 3 G<|sg 2 2 29 31 true G G (fun hg3=>sy hg3<|sr 1 G<|sy hg3<|sr 1 G<|sz 2 G G G)<|sa G G G<|sr 1 G<|sg 3 6 33 36 true G G (fun hg7=>sy hg7<|sd ((aB bF aS rfl S (i:=10) G G))<|sy hg7<|sd (aN dW G G)<|sy hg7<|sd (cG G G)<|sz 3 G G G)<|sa G G G<|sr 1 G<|sg 3 11 38 41 true G G (fun hg12=>sy hg12<|sr 1 G<|sy hg12<|sL hY rfl<|sy hg12<|sr 1 G<|sz 3 G G G)<|sa G G G<|sr 1 G<|sE ?_;intro a H
    refine k24 _ ?_;refine wp_ret ?_;refine ret1 (fn:=Tryz.f9) rfl H rfl ?_;exact ⟨rfl,(S.sel [] G G)⟩
   ·skip
    refine aJ H rfl S cB ?_;intro b3 _ a hb3 hbw3 S H
    refine wpList_nil (And.intro (Or.inr (S.sel [3] rfl rfl)) ?_);refine aM rfl ?_;refine aA H rfl rfl Tryz.func34 rfl rfl (cV true 1000 20 2000 20000 exBr A4 2 60 0 500 0 _ (aEi S (i:=1) rfl) (by decide)) ?_;clear H a;rintro _ _ a ⟨tl,th,rfl,S2⟩ H;replace S:=S.call S2;clear S2;rw [iK] at H;refine wpList_nil (And.intro (Or.inr (S.sel [3] rfl rfl)) ?_);refine aH H rfl rfl (fun _ S=>aL rfl) ?_;intro a H;refine aH H rfl rfl (fun _ S=>aQ rfl rfl) ?_;intro a H;refine aH H rfl rfl (fun _ S=>aQ rfl rfl) ?_;intro a H;refine aH H rfl rfl (fun _ S=>aQ rfl rfl) ?_;intro a H;refine aM rfl ?_;refine aE H S (i:=2) rfl rfl rfl rfl aS rfl rfl ?_;clear H a S;intro _ a S H;refine wpList_nil (And.intro (Or.inr (S.sel [3] rfl rfl)) ?_);refine aM rfl ?_;refine aE H S (i:=0) rfl rfl rfl rfl aS rfl rfl ?_;clear H a S;intro _ a S H;refine wpList_nil (And.intro (Or.inr (S.sel [3] rfl rfl)) ?_);refine aH H rfl rfl (fun _ S=>bK rfl) ?_;intro a H;refine bD ?_;refine k3 _ _ ?_;replace H:=H.keep [2,4] rfl;refine seq_list fun K25 k25=>?_
    refine aA H G G Tryz.func36 G G (cN _) ?_;clear H a
    rintro _ _ a ⟨SA,B0,B1,B2,B3,B4,QA,TA,rfl,S2⟩ H;replace S:=S.call S2;clear S2;refine ls 3 H<|sr 3 G<|sE ?_;intro a H
    refine aJ H rfl S gI ?_;intro b5 _ a hb5 hbw5 S H
    refine aE H S (i:=0) G G G G cI G G ?_
    clear H a S;intro _ a S H;refine ls 1 H<|sr 1 G<|sE ?_;intro a H
    refine k25 _ _ ?_;replace H:=H.keep [2,4,5] rfl;refine seq_list fun K26 k26=>?_
    refine ls 1 H<|sd ((aB dS cI rfl S (i:=0) G G))<|sE ?_;intro a H
    refine aA H G G Tryz.func37 G G (eD 2 exSw SA 4 exWs QA 5 (exOA B0 B1 B2 B3 B4) exOc _ (aEi S (i:=1) rfl) (aEi S (i:=7) rfl) (fun k hk=>by
      rcases k with _|_|_|_|_|k
      · exact aEi S (i:=2) rfl
      · exact aEi S (i:=3) rfl
      · exact aEi S (i:=4) rfl
      · exact aEi S (i:=5) rfl
      · exact aEi S (i:=6) rfl
      · exact absurd hk (by simp [exWs])
    ) exCir) ?_;clear H a
    rintro _ _ a ⟨A6,c6,rfl,S2⟩ H;replace S:=S.call S2;clear S2;rw [gF] at H;refine ls 5 H<|sr 5 G<|sE ?_;intro a H
    refine k26 _ _ ?_;replace H:=H.keep [2,4,7,8] rfl;refine sS H fun K27 k27=>sr 3 G<|sg 2 2 29 31 true G G (fun hg3=>sy hg3<|sr 1 G<|sy hg3<|sr 1 G<|sz 2 G G G)<|sa G G G<|sr 1 G<|sg 3 6 33 36 true G G (fun hg7=>sy hg7<|sd ((aB bF aS rfl S (i:=10) G G))<|sy hg7<|sd (aN dW G G)<|sy hg7<|sd (cG G G)<|sz 3 G G G)<|sa G G G<|sr 1 G<|sg 3 11 38 41 true G G (fun hg12=>sy hg12<|sr 1 G<|sy hg12<|sL hY rfl<|sy hg12<|sr 1 G<|sz 3 G G G)<|sa G G G<|sr 1 G<|sE ?_;intro a H
    refine k27 _ ?_;refine wp_ret ?_;refine ret1 (fn:=Tryz.f9) rfl H rfl ?_;exact ⟨rfl,(S.sel [] G G)⟩
  ·skip
   refine aJ H rfl S cB ?_;intro b3 _ a hb3 hbw3 S H
   refine wpList_nil (And.intro (Or.inr (S.sel [2] rfl rfl)) ?_);refine aM rfl ?_;refine aA H rfl rfl Tryz.func35 rfl rfl (iL _) ?_;clear H a;rintro _ _ a ⟨A4,rfl,S2⟩ H;replace S:=S.call S2;clear S2;refine wpList_nil (And.intro (Or.inr (S.sel [3] rfl rfl)) ?_);refine aM rfl ?_;refine aA H rfl rfl Tryz.func34 rfl rfl (cV true 1000 20 2000 20000 exBr A4 2 60 0 500 0 _ (aEi S (i:=0) rfl) (by decide)) ?_;clear H a;rintro _ _ a ⟨tl,th,rfl,S2⟩ H;replace S:=S.call S2;clear S2;rw [iK] at H;refine wpList_nil (And.intro (Or.inr (S.sel [3] rfl rfl)) ?_);refine aH H rfl rfl (fun _ S=>aL rfl) ?_;intro a H;refine aH H rfl rfl (fun _ S=>aQ rfl rfl) ?_;intro a H;refine aH H rfl rfl (fun _ S=>aQ rfl rfl) ?_;intro a H;refine aH H rfl rfl (fun _ S=>aQ rfl rfl) ?_;intro a H;refine aM rfl ?_;refine aE H S (i:=2) rfl rfl rfl rfl aS rfl rfl ?_;clear H a S;intro _ a S H;refine wpList_nil (And.intro (Or.inr (S.sel [3] rfl rfl)) ?_);refine aM rfl ?_;refine aE H S (i:=1) rfl rfl rfl rfl aS rfl rfl ?_;clear H a S;intro _ a S H;refine wpList_nil (And.intro (Or.inr (S.sel [3] rfl rfl)) ?_);refine aH H rfl rfl (fun _ S=>bK rfl) ?_;intro a H;refine bD ?_;refine k3 _ _ ?_;replace H:=H.keep [2,4] rfl;refine seq_list fun K28 k28=>?_
   refine aA H G G Tryz.func36 G G (cN _) ?_;clear H a
   rintro _ _ a ⟨SA,B0,B1,B2,B3,B4,QA,TA,rfl,S2⟩ H;replace S:=S.call S2;clear S2;refine ls 3 H<|sr 3 G<|sE ?_;intro a H
   refine aJ H rfl S gI ?_;intro b5 _ a hb5 hbw5 S H
   refine aE H S (i:=0) G G G G cI G G ?_
   clear H a S;intro _ a S H;refine ls 1 H<|sr 1 G<|sE ?_;intro a H
   refine k28 _ _ ?_;replace H:=H.keep [2,4,5] rfl;refine seq_list fun K29 k29=>?_
   refine ls 1 H<|sd ((aB dS cI rfl S (i:=0) G G))<|sE ?_;intro a H
   refine aA H G G Tryz.func37 G G (eD 2 exSw SA 4 exWs QA 5 (exOA B0 B1 B2 B3 B4) exOc _ (aEi S (i:=1) rfl) (aEi S (i:=7) rfl) (fun k hk=>by
     rcases k with _|_|_|_|_|k
     · exact aEi S (i:=2) rfl
     · exact aEi S (i:=3) rfl
     · exact aEi S (i:=4) rfl
     · exact aEi S (i:=5) rfl
     · exact aEi S (i:=6) rfl
     · exact absurd hk (by simp [exWs])
   ) exCir) ?_;clear H a
   rintro _ _ a ⟨A6,c6,rfl,S2⟩ H;replace S:=S.call S2;clear S2;rw [gF] at H;refine ls 5 H<|sr 5 G<|sE ?_;intro a H
   refine k29 _ _ ?_;replace H:=H.keep [2,4,7,8] rfl;refine sS H fun K30 k30=>sr 3 G<|sg 2 2 29 31 true G G (fun hg3=>sy hg3<|sr 1 G<|sy hg3<|sr 1 G<|sz 2 G G G)<|sa G G G<|sr 1 G<|sg 3 6 33 36 true G G (fun hg7=>sy hg7<|sd ((aB bF aS rfl S (i:=10) G G))<|sy hg7<|sd (aN dW G G)<|sy hg7<|sd (cG G G)<|sz 3 G G G)<|sa G G G<|sr 1 G<|sg 3 11 38 41 true G G (fun hg12=>sy hg12<|sr 1 G<|sy hg12<|sL hY rfl<|sy hg12<|sr 1 G<|sz 3 G G G)<|sa G G G<|sr 1 G<|sE ?_;intro a H
   refine k30 _ ?_;refine wp_ret ?_;refine ret1 (fn:=Tryz.f9) rfl H rfl ?_;exact ⟨rfl,(S.sel [] G G)⟩
 ·skip
  refine aJ H rfl S cB ?_;intro b3 _ a hb3 hbw3 S H
  refine wpList_nil (And.intro (Or.inr (S.sel [1] G G)) ?_);refine eF G G ?_ ?_
  ·skip
   refine aA H G G Tryz.func35 G G (iL _) ?_;clear H a
   rintro _ _ a ⟨A4,rfl,S2⟩ H;replace S:=S.call S2;clear S2;refine wpList_nil (And.intro (Or.inr (S.sel [2] rfl rfl)) ?_);refine eF rfl rfl ?_ ?_
   ·skip
    refine aA H G G Tryz.func34 G G (cV true 1000 20 2000 20000 exBr A4 2 60 0 500 0 _ (aEi S (i:=0) rfl) (by decide)) ?_;clear H a
    rintro _ _ a ⟨tl,th,rfl,S2⟩ H;replace S:=S.call S2;clear S2;rw [iK] at H;refine wpList_nil (And.intro (Or.inr (S.sel [2] rfl rfl)) ?_);refine aH H rfl rfl (fun _ S=>aL rfl) ?_;intro a H;refine aH H rfl rfl (fun _ S=>aQ rfl rfl) ?_;intro a H;refine aH H rfl rfl (fun _ S=>aQ rfl rfl) ?_;intro a H;refine aH H rfl rfl (fun _ S=>aQ rfl rfl) ?_;intro a H;refine aM rfl ?_;refine aJ H rfl S cB ?_;intro b2 _ a hb2 hbw2 S H;refine wpList_nil (And.intro (Or.inr (S.sel [3] rfl rfl)) ?_);refine aM rfl ?_;refine aE H S (i:=0) rfl rfl rfl rfl aS rfl rfl ?_;clear H a S;intro _ a S H;refine wpList_nil (And.intro (Or.inr (S.sel [3] rfl rfl)) ?_);refine aM rfl ?_;refine aE H S (i:=2) rfl rfl rfl rfl aS rfl rfl ?_;clear H a S;intro _ a S H;refine wpList_nil (And.intro (Or.inr (S.sel [3] rfl rfl)) ?_);refine aH H rfl rfl (fun _ S=>bK rfl) ?_;intro a H;refine bD ?_;refine k3 _ _ ?_;replace H:=H.keep [2,4] rfl;refine seq_list fun K31 k31=>?_
    refine aA H G G Tryz.func36 G G (cN _) ?_;clear H a
    rintro _ _ a ⟨SA,B0,B1,B2,B3,B4,QA,TA,rfl,S2⟩ H;replace S:=S.call S2;clear S2;refine ls 3 H<|sr 3 G<|sE ?_;intro a H
    refine aJ H rfl S gI ?_;intro b5 _ a hb5 hbw5 S H
    refine aE H S (i:=0) G G G G cI G G ?_
    clear H a S;intro _ a S H;refine ls 1 H<|sr 1 G<|sE ?_;intro a H
    refine k31 _ _ ?_;replace H:=H.keep [2,4,5] rfl;refine seq_list fun K32 k32=>?_
    refine ls 1 H<|sd ((aB dS cI rfl S (i:=0) G G))<|sE ?_;intro a H
    refine aA H G G Tryz.func37 G G (eD 2 exSw SA 4 exWs QA 5 (exOA B0 B1 B2 B3 B4) exOc _ (aEi S (i:=1) rfl) (aEi S (i:=7) rfl) (fun k hk=>by
      rcases k with _|_|_|_|_|k
      · exact aEi S (i:=2) rfl
      · exact aEi S (i:=3) rfl
      · exact aEi S (i:=4) rfl
      · exact aEi S (i:=5) rfl
      · exact aEi S (i:=6) rfl
      · exact absurd hk (by simp [exWs])
    ) exCir) ?_;clear H a
    rintro _ _ a ⟨A6,c6,rfl,S2⟩ H;replace S:=S.call S2;clear S2;rw [gF] at H;refine ls 5 H<|sr 5 G<|sE ?_;intro a H
    refine k32 _ _ ?_;replace H:=H.keep [2,4,7,8] rfl;refine sS H fun K33 k33=>sr 3 G<|sg 2 2 29 31 true G G (fun hg3=>sy hg3<|sr 1 G<|sy hg3<|sr 1 G<|sz 2 G G G)<|sa G G G<|sr 1 G<|sg 3 6 33 36 true G G (fun hg7=>sy hg7<|sd ((aB bF aS rfl S (i:=8) G G))<|sy hg7<|sd (aN dW G G)<|sy hg7<|sd (cG G G)<|sz 3 G G G)<|sa G G G<|sr 1 G<|sg 3 11 38 41 true G G (fun hg12=>sy hg12<|sr 1 G<|sy hg12<|sL hY rfl<|sy hg12<|sr 1 G<|sz 3 G G G)<|sa G G G<|sr 1 G<|sE ?_;intro a H
    refine k33 _ ?_;refine wp_ret ?_;refine ret1 (fn:=Tryz.f9) rfl H rfl ?_;exact ⟨rfl,(S.sel [] G G)⟩
   ·skip
    refine aJ H rfl S cB ?_;intro b2 _ a hb2 hbw2 S H
    refine wpList_nil (And.intro (Or.inr (S.sel [3] rfl rfl)) ?_);refine aM rfl ?_;refine aA H rfl rfl Tryz.func34 rfl rfl (cV true 1000 20 2000 20000 exBr A4 2 60 0 500 0 _ (aEi S (i:=1) rfl) (by decide)) ?_;clear H a;rintro _ _ a ⟨tl,th,rfl,S2⟩ H;replace S:=S.call S2;clear S2;rw [iK] at H;refine wpList_nil (And.intro (Or.inr (S.sel [3] rfl rfl)) ?_);refine aH H rfl rfl (fun _ S=>aL rfl) ?_;intro a H;refine aH H rfl rfl (fun _ S=>aQ rfl rfl) ?_;intro a H;refine aH H rfl rfl (fun _ S=>aQ rfl rfl) ?_;intro a H;refine aH H rfl rfl (fun _ S=>aQ rfl rfl) ?_;intro a H;refine aM rfl ?_;refine aE H S (i:=0) rfl rfl rfl rfl aS rfl rfl ?_;clear H a S;intro _ a S H;refine wpList_nil (And.intro (Or.inr (S.sel [3] rfl rfl)) ?_);refine aM rfl ?_;refine aE H S (i:=2) rfl rfl rfl rfl aS rfl rfl ?_;clear H a S;intro _ a S H;refine wpList_nil (And.intro (Or.inr (S.sel [3] rfl rfl)) ?_);refine aH H rfl rfl (fun _ S=>bK rfl) ?_;intro a H;refine bD ?_;refine k3 _ _ ?_;replace H:=H.keep [2,4] rfl;refine seq_list fun K34 k34=>?_
    refine aA H G G Tryz.func36 G G (cN _) ?_;clear H a
    rintro _ _ a ⟨SA,B0,B1,B2,B3,B4,QA,TA,rfl,S2⟩ H;replace S:=S.call S2;clear S2;refine ls 3 H<|sr 3 G<|sE ?_;intro a H
    refine aJ H rfl S gI ?_;intro b5 _ a hb5 hbw5 S H
    refine aE H S (i:=0) G G G G cI G G ?_
    clear H a S;intro _ a S H;refine ls 1 H<|sr 1 G<|sE ?_;intro a H
    refine k34 _ _ ?_;replace H:=H.keep [2,4,5] rfl;refine seq_list fun K35 k35=>?_
    refine ls 1 H<|sd ((aB dS cI rfl S (i:=0) G G))<|sE ?_;intro a H
    refine aA H G G Tryz.func37 G G (eD 2 exSw SA 4 exWs QA 5 (exOA B0 B1 B2 B3 B4) exOc _ (aEi S (i:=1) rfl) (aEi S (i:=7) rfl) (fun k hk=>by
      rcases k with _|_|_|_|_|k
      · exact aEi S (i:=2) rfl
      · exact aEi S (i:=3) rfl
      · exact aEi S (i:=4) rfl
      · exact aEi S (i:=5) rfl
      · exact aEi S (i:=6) rfl
      · exact absurd hk (by simp [exWs])
    ) exCir) ?_;clear H a
    rintro _ _ a ⟨A6,c6,rfl,S2⟩ H;replace S:=S.call S2;clear S2;rw [gF] at H;refine ls 5 H<|sr 5 G<|sE ?_;intro a H
    refine k35 _ _ ?_;replace H:=H.keep [2,4,7,8] rfl;refine sS H fun K36 k36=>sr 3 G<|sg 2 2 29 31 true G G (fun hg3=>sy hg3<|sr 1 G<|sy hg3<|sr 1 G<|sz 2 G G G)<|sa G G G<|sr 1 G<|sg 3 6 33 36 true G G (fun hg7=>sy hg7<|sd ((aB bF aS rfl S (i:=8) G G))<|sy hg7<|sd (aN dW G G)<|sy hg7<|sd (cG G G)<|sz 3 G G G)<|sa G G G<|sr 1 G<|sg 3 11 38 41 true G G (fun hg12=>sy hg12<|sr 1 G<|sy hg12<|sL hY rfl<|sy hg12<|sr 1 G<|sz 3 G G G)<|sa G G G<|sr 1 G<|sE ?_;intro a H
    refine k36 _ ?_;refine wp_ret ?_;refine ret1 (fn:=Tryz.f9) rfl H rfl ?_;exact ⟨rfl,(S.sel [] G G)⟩
  ·skip
   refine aJ H rfl S cB ?_;intro b2 _ a hb2 hbw2 S H
   refine wpList_nil (And.intro (Or.inr (S.sel [2] rfl rfl)) ?_);refine aM rfl ?_;refine aA H rfl rfl Tryz.func35 rfl rfl (iL _) ?_;clear H a;rintro _ _ a ⟨A4,rfl,S2⟩ H;replace S:=S.call S2;clear S2;refine wpList_nil (And.intro (Or.inr (S.sel [3] rfl rfl)) ?_);refine aM rfl ?_;refine aA H rfl rfl Tryz.func34 rfl rfl (cV true 1000 20 2000 20000 exBr A4 2 60 0 500 0 _ (aEi S (i:=0) rfl) (by decide)) ?_;clear H a;rintro _ _ a ⟨tl,th,rfl,S2⟩ H;replace S:=S.call S2;clear S2;rw [iK] at H;refine wpList_nil (And.intro (Or.inr (S.sel [3] rfl rfl)) ?_);refine aH H rfl rfl (fun _ S=>aL rfl) ?_;intro a H;refine aH H rfl rfl (fun _ S=>aQ rfl rfl) ?_;intro a H;refine aH H rfl rfl (fun _ S=>aQ rfl rfl) ?_;intro a H;refine aH H rfl rfl (fun _ S=>aQ rfl rfl) ?_;intro a H;refine aM rfl ?_;refine aE H S (i:=1) rfl rfl rfl rfl aS rfl rfl ?_;clear H a S;intro _ a S H;refine wpList_nil (And.intro (Or.inr (S.sel [3] rfl rfl)) ?_);refine aM rfl ?_;refine aE H S (i:=2) rfl rfl rfl rfl aS rfl rfl ?_;clear H a S;intro _ a S H;refine wpList_nil (And.intro (Or.inr (S.sel [3] rfl rfl)) ?_);refine aH H rfl rfl (fun _ S=>bK rfl) ?_;intro a H;refine bD ?_;refine k3 _ _ ?_;replace H:=H.keep [2,4] rfl;refine seq_list fun K37 k37=>?_
   refine aA H G G Tryz.func36 G G (cN _) ?_;clear H a
   rintro _ _ a ⟨SA,B0,B1,B2,B3,B4,QA,TA,rfl,S2⟩ H;replace S:=S.call S2;clear S2;refine ls 3 H<|sr 3 G<|sE ?_;intro a H
   refine aJ H rfl S gI ?_;intro b5 _ a hb5 hbw5 S H
   refine aE H S (i:=0) G G G G cI G G ?_
   clear H a S;intro _ a S H;refine ls 1 H<|sr 1 G<|sE ?_;intro a H
   refine k37 _ _ ?_;replace H:=H.keep [2,4,5] rfl;refine seq_list fun K38 k38=>?_
   refine ls 1 H<|sd ((aB dS cI rfl S (i:=0) G G))<|sE ?_;intro a H
   refine aA H G G Tryz.func37 G G (eD 2 exSw SA 4 exWs QA 5 (exOA B0 B1 B2 B3 B4) exOc _ (aEi S (i:=1) rfl) (aEi S (i:=7) rfl) (fun k hk=>by
     rcases k with _|_|_|_|_|k
     · exact aEi S (i:=2) rfl
     · exact aEi S (i:=3) rfl
     · exact aEi S (i:=4) rfl
     · exact aEi S (i:=5) rfl
     · exact aEi S (i:=6) rfl
     · exact absurd hk (by simp [exWs])
   ) exCir) ?_;clear H a
   rintro _ _ a ⟨A6,c6,rfl,S2⟩ H;replace S:=S.call S2;clear S2;rw [gF] at H;refine ls 5 H<|sr 5 G<|sE ?_;intro a H
   refine k38 _ _ ?_;replace H:=H.keep [2,4,7,8] rfl;refine sS H fun K39 k39=>sr 3 G<|sg 2 2 29 31 true G G (fun hg3=>sy hg3<|sr 1 G<|sy hg3<|sr 1 G<|sz 2 G G G)<|sa G G G<|sr 1 G<|sg 3 6 33 36 true G G (fun hg7=>sy hg7<|sd ((aB bF aS rfl S (i:=9) G G))<|sy hg7<|sd (aN dW G G)<|sy hg7<|sd (cG G G)<|sz 3 G G G)<|sa G G G<|sr 1 G<|sg 3 11 38 41 true G G (fun hg12=>sy hg12<|sr 1 G<|sy hg12<|sL hY rfl<|sy hg12<|sr 1 G<|sz 3 G G G)<|sa G G G<|sr 1 G<|sE ?_;intro a H
   refine k39 _ ?_;refine wp_ret ?_;refine ret1 (fn:=Tryz.f9) rfl H rfl ?_;exact ⟨rfl,(S.sel [] G G)⟩
end
section
theorem Wn {h:Hq} {A:Option Addr} {c:Nat} {vs:List Value} (h0:vs.getD 0 undef = .int .i64 h.out) (h1:vs.getD 1 undef = .bool h.help) (h2:vs.getD 2 undef = .slice A h.pe.length c):∀ k j,k<1→j<3→([vs].getD k []).getD j undef=hcl [h] (fun _=>A) (fun _=>c) k j:=fun k j hk hj=>by
 obtain rfl:k=0:=by omega
 match j,hj with
 | 0,_=>exact h0
 | 1,_=>exact h1
 | 2,_=>exact h2
section
variable {pl:Int} {ps:List Psg} {xs pe:List Int} {T0 out:Int} {hlp:Bool} {prs:List Prm}
noncomputable def kepW (pl:Int) (ps:List Psg) (xs pe:List Int) (hlp:Bool) (T0:Int) (prs:List Prm) (out:Int):Bool:=(safeV pl ps xs [⟨out,hlp,pe⟩] T0).2.1&&(keptV pl ps xs [⟨out,hlp,pe⟩] prs).2.2.1
theorem Rs (h:keptE pl ps xs [⟨0,false,pe⟩] prs=0) (ho:0≤out∧out≤4095):dayE pl ps xs [⟨out,hlp,pe⟩]=0∧keptE pl ps xs [⟨out,hlp,pe⟩] prs=0:=by
 obtain ⟨h1,h2,h3⟩:=lV h;obtain ⟨h4,h5⟩:=oE h1;have h6:=(vX h5).2 0 (show 0<1 by decide)
 have hd:dayE pl ps xs [⟨out,hlp,pe⟩]=0:=by
  unfold dayE
  rw [if_neg (by omega),if_pos];unfold dayOk;rw [Bool.and_eq_true,decide_eq_true_eq,bI];refine ⟨fun k hk=>?_,show 1≤48 by decide⟩;obtain rfl:k=0:=by have h9:k<1:=hk;omega
  unfold hqOk
  rw [Bool.and_eq_true,decide_eq_true_eq];exact ⟨ho,h6.2⟩
 refine ⟨hd,?_⟩
 unfold keptE
 rw [if_neg (by omega),if_pos];unfold prsOk;rw [Bool.and_eq_true,decide_eq_true_eq,bI];exact ⟨h3,h2⟩
theorem Wo (h:dayE pl ps xs [⟨out,hlp,pe⟩]=0) (hT:0≤T0∧T0≤60):(safeV pl ps xs [⟨out,hlp,pe⟩] T0).2.2=0:=by
 unfold safeV
 rw [if_neg (by omega),if_neg (fun h9=>h9 hT)];split <;> rfl
theorem Wp (h:keptE pl ps xs [⟨out,hlp,pe⟩] prs=0):(keptV pl ps xs [⟨out,hlp,pe⟩] prs).2.2.2=0:=by
 unfold keptV
 rw [if_neg (by omega)];split <;> rfl
end
def nvN (K:Int→Bool):Nat→List Int
 | 0=>[]
 | o+1=>if K (o:Int)=true then nvN K o else nvN K o++[(o:Int)]
section
variable {K:Int→Bool} {o q:Nat} {mm cr un:Int} {js:List Jq} {st:List Int}
theorem aDs (h:K (o:Int)=true):nvN K o=nvN K (o+1):=by rw [nvN,if_pos h]
theorem aDt (h:K (o:Int)=false):nvN K o++[(o:Int)]=nvN K (o+1):=by rw [nvN,if_neg (by rw [h];simp)]
theorem Iq:∀ o,(nvN K o).length≤o:=by
  intro o;induction o with
  | zero=>exact Nat.le_refl 0
  | succ o ih=>
    rw [nvN];split
    · omega
    · rw [List.length_append];show _+1≤_;omega
theorem Ir {x:Int}:∀ {o},x ∈ nvN K o↔∃ k:Nat,k<o∧x=(k:Int)∧K x=false:=by
  intro o;induction o with
  | zero=>exact ⟨(fun h=>by cases h),fun ⟨k,h,_⟩=>absurd h (Nat.not_lt_zero k)⟩
  | succ o ih=>
    rw [nvN];by_cases h:K (o:Int)=true
    · rw [if_pos h,ih]
      constructor
      · rintro ⟨k,h1,h2⟩;exact ⟨k,by omega,h2⟩
      · rintro ⟨k,h1,h2,h3⟩
        by_cases e:k=o
        · subst e;rw [h2,h] at h3;cases h3
        · exact ⟨k,by omega,h2,h3⟩
    · rw [if_neg h,List.mem_append,ih,List.mem_singleton]
      constructor
      · rintro (⟨k,h1,h2⟩|h1)
        · exact ⟨k,by omega,h2⟩
        · exact ⟨o,by omega,h1,by rw [h1];simpa using h⟩
      · rintro ⟨k,h1,h2,h3⟩
        by_cases e:k=o
        · subst e;exact .inr h2
        · exact .inl ⟨k,by omega,h2,h3⟩
theorem pw16 (h:mm≤4):(1:Int)*2^mm.toNat≤16:=by
 have e:(2:Int)^mm.toNat=((2^mm.toNat:Nat):Int):=(Int.natCast_pow 2 mm.toNat).symm
 have h2:2^mm.toNat≤2^4:=Nat.pow_le_pow_right (by decide) (by omega)
 rw [Int.one_mul,e];omega
theorem Is (h1:1≤o→K 0=true) (h:K (o:Int)=true∨¬ o=0):K 0=true:=by
 by_cases e:o=0
 ·subst e;exact h.resolve_right (fun h9=>h9 rfl)
 ·exact h1 (by omega)
theorem Lu {l:List Int} {k:Nat} (h:k<l.length):l.getD k 0 ∈ l:=by
 rw [List.getD_eq_getElem?_getD,List.getElem?_eq_getElem h];exact List.getElem_mem h
theorem aBp {nv:List Int} (V:WkV mm js nv cr un) (hm:mm≤4) (h0:K 0=true):WkV mm js (nvN K (1*2^mm.toNat:Int).toNat) cr un:=by
 have hp:=pwm V.mmb
 have h16:(2:Int)^mm.toNat≤16:=by
  have e:(2:Int)^mm.toNat=((2^mm.toNat:Nat):Int):=(Int.natCast_pow 2 mm.toNat).symm
  have h2:2^mm.toNat≤2^4:=Nat.pow_le_pow_right (by decide) (by omega)
  rw [e];omega
 refine V.never (by have:=Iq (K:=K) (1*2^mm.toNat:Int).toNat;omega) fun q hq=>?_
 obtain ⟨k,h1,h2,h3⟩:=Ir.1 (Lu hq);rw [h2] at h3 ⊢;have:k≠0:=fun e=>by subst e;rw [show ((0:Nat):Int)=0 from rfl,h0] at h3;cases h3
 omega
theorem Wq {nv:List Int} (V:WkV mm js nv cr un) (h0:K 0=true) (hR:WkR js (nvN K (1*2^mm.toNat:Int).toNat) cr un st) {n:Nat} (hn:(n:Int)<un):K (nSet js st n js.length)=true:=by
 refine Classical.byContradiction fun h=>?_
 have hb:=tZ (st:=st) (d:=(n:Int)) V js.length (Nat.le_refl _)
 obtain ⟨o,ho⟩:=Int.eq_ofNat_of_zero_le hb.1;have hmem:nSet js st n js.length ∈ nvN K (1*2^mm.toNat:Int).toNat:=Ir.2 ⟨o,by omega,ho,by simpa using h⟩;obtain ⟨q,hq,he⟩:=List.getElem_of_mem hmem;have h2:=hR.nev n hn q hq;rw [List.getD_eq_getElem?_getD,List.getElem?_eq_getElem hq,Option.getD_some,he] at h2;apply h2;rw [ho];unfold landI;rw [Int.toNat_natCast,Nat.and_self]
end
theorem Ru (pl:Int) (ps:List Psg) (PA:Option Addr) (pc:Nat) (xs:List Int) (XA:Option Addr) (xc:Nat) (pe:List Int) (BA:Option Addr) (bc:Nat) (hlp:Bool) (T0:Int) (prs:List Prm) (QA:Option Addr) (qc:Nat) (out:Int) (w:World) (hps:InS w noF 7 PA ps.length (pcell ps)) (hpn:ps.length≤9223372036854775807) (hxs:InS w noF 1 XA xs.length (icl xs)) (hxn:xs.length≤9223372036854775807) (hpe:InS w noF 1 BA pe.length (icl pe)) (hpen:pe.length≤9223372036854775807) (hprs:InS w noF 5 QA prs.length (dX prs)) (hprn:prs.length≤9223372036854775807) (hlv:dO pl ps xs 0 pe T0=0) (hkE:keptE pl ps xs [(⟨0,false,pe⟩:Hq)] prs=0) (ho:0≤out∧out≤4095) :
    Calls Tryz.prog 28 [.agg [.int .i64 pl,.slice PA ps.length pc,.slice XA xs.length xc].toArray,.agg [.slice BA pe.length bc,.bool hlp,.int .i64 T0,.slice QA prs.length qc].toArray,.int .i64 out].toArray w (Ret (fun u w'=>u = .tuple #[.bool (kepW pl ps xs pe hlp T0 prs out),.bool true]∧St w noF [] w')):=by
 have hlo:=jC hlv
 obtain ⟨hk1,hk2⟩:=Rs (hlp:=hlp) hkE ho;have hk3:=Wo (T0:=T0) hk1 hlo.2.2.2;have hk4:=Wp hk2;refine enter Tryz.func28 rfl Tryz.ntmps28 rfl (fun a H=>?_);have S:=St.start w;refine seq_list fun K1 k1=>?_
 refine aO H rfl S G G ?_;intro b3 _ a hb3 hbw3 S H
 refine aO H rfl S G G ?_;intro b4 _ a hb4 hbw4 S H
 refine ls 2 H<|sr 2 G<|sE ?_;clear H a;intro a H
 refine k1 _ _ ?_;replace H:=H.keep [2,3,4] rfl;refine seq_list fun K2 k2=>?_
 refine ls 6 H<|sr 1 G<|sf Hk rfl<|sl S 0 iP G G G<|sf tQ rfl<|sl S 0 bE G G G<|sd (aN aAi G G)<|sE ?_;clear H a;intro a H
 refine aY H rfl S iZ iY vH G G G G G G G G G ?_;intro A1 _ a hA1 S H
 replace S:=S.recell (i:=0) rfl (cell':=hcl [(⟨out,hlp,pe⟩:Hq)] (fun _=>BA) (fun _=>bc)) (fun k9 j9 hk9 hj9=>Wn G G G k9 j9 hk9 hj9);refine ls 1 H<|sr 1 G<|sE ?_;clear H a;intro a H
 refine k2 _ _ ?_;replace H:=H.keep [3,4,8] rfl;refine seq_list fun K3 k3=>?_
 refine ls 4 H<|sd ((aB bW cQ rfl S (i:=2) G G))<|sr 1 G<|sf tR rfl<|sl S 1 aD G G G<|sE ?_;clear H a;intro a H
 refine aA H G G Tryz.func69 G G (Ll pl ps PA pc xs XA xc [(⟨out,hlp,pe⟩:Hq)] _ _ (fun _=>BA) (fun _=>bc) T0 _ (hps.now S) hpn (hxs.now S) hxn (aEi S (i:=0) rfl) (show 1≤9223372036854775807 by decide) (fun k9 hk9=>by
   obtain rfl:k9=0:=by have h9:k9<1:=hk9;omega
   exact (hpe.now S)) (fun k9 hk9=>by
   obtain rfl:k9=0:=by have h9:k9<1:=hk9;omega
   exact hpen)) ?_;clear H a
 rintro _ _ a ⟨rfl,S2⟩ H;replace S:=S.call S2;clear S2;refine ls 7 H<|sr 7 G<|sE ?_;clear H a;intro a H
 refine k3 _ _ ?_;replace H:=H.keep [3,4,8,10,11] rfl;refine seq_list fun K4 k4=>?_
 refine ls 4 H<|sd ((aB bW cQ rfl S (i:=2) G G))<|sr 1 G<|sf jN rfl<|sl S 1 iV G G G<|sE ?_;clear H a;intro a H
 refine aA H G G Tryz.func70 G G (yF pl ps PA pc xs XA xc [(⟨out,hlp,pe⟩:Hq)] _ _ (fun _=>BA) (fun _=>bc) prs QA qc _ (hps.now S) hpn (hxs.now S) hxn (aEi S (i:=0) rfl) (show 1≤9223372036854775807 by decide) (fun k9 hk9=>by
   obtain rfl:k9=0:=by have h9:k9<1:=hk9;omega
   exact (hpe.now S)) (fun k9 hk9=>by
   obtain rfl:k9=0:=by have h9:k9<1:=hk9;omega
   exact hpen) (hprs.now S) hprn) ?_;clear H a
 rintro _ _ a ⟨rfl,S2⟩ H;replace S:=S.call S2;clear S2;refine ls 9 H<|sr 9 G<|sE ?_;intro a H
 refine k4 _ _ ?_;replace H:=H.keep [10,11,14,15] rfl;refine sS H fun K5 k5=>sr 2 G<|sg 1 1 43 44 true G G (fun hg2=>sy hg2<|sr 1 G<|sz 1 G G G)<|sa G G G<|sr 3 G<|sg 2 6 48 50 true G G (fun hg7=>sy hg7<|sr 1 G<|sy hg7<|sr 1 G<|sz 2 G G G)<|sa G G G<|sr 2 G<|sE ?_;intro a H
 refine k5 _ ?_;refine wp_ret ?_;refine ret2 (fn:=Tryz.f28) rfl H G G ?_;exact ⟨by rw [hk3,hk4];rfl,(S.sel [] G G)⟩
end
section
def lJ (b:Nat→Bool) (n:Nat):Int:=match (List.range n).find? b with
 | some k=>(k:Int)
 | none => -1
theorem sJ {b:Nat→Bool} {n k:Nat} (hk:k<n) (hb:b k=true) (h:∀ q,q<k→b q=false):lJ b n=k:=by
  unfold lJ
  have e:(List.range n).find? b=some k:=by
    rw [List.find?_eq_some_iff_append];refine ⟨hb,List.range k,(List.range (n-k-1)).map (k+1+·),?_,fun a ha=>?_⟩
    · have e1:n=k+((n-k-1)+1):=by omega
      conv=>lhs;rw [e1,List.range_add]
      rw [List.range_succ_eq_map];simp only [List.map_cons,Nat.add_zero,List.map_map];congr 2;refine List.map_congr_left fun a _=>?_
      simp only [Function.comp]
      omega
    · rw [h a (List.mem_range.1 ha)];rfl
  rw [e]
theorem tE {b:Nat→Bool} {n:Nat} (h:∀ q,q<n→b q=false):lJ b n = -1:=by
 unfold lJ
 have e:(List.range n).find? b=none:=by
  rw [List.find?_eq_none];intro a ha;rw [h a (List.mem_range.1 ha)];simp
 rw [e]
theorem Lv {p:Part} {l:List Use}:∀ m,m≤l.length→(∀ k,k<m→fits p l k)∨∃ n,n<m∧IsAt p l n:=by
  classical
  intro m;induction m with
  | zero=>intro _;exact .inl fun k hk=>absurd hk (Nat.not_lt_zero _)
  | succ m ih=>
    intro hm;rcases ih (by omega) with h|⟨n,hn,h⟩
    · by_cases hf:fits p l m
      · refine .inl fun k hk=>?_
        by_cases e:k=m
        · subst e;exact hf
        · exact h k (by omega)
      · exact .inr ⟨m,by omega,by omega,h,fun _=>hf⟩
    · exact .inr ⟨n,by omega,h⟩
theorem Zm (p:Part) (l:List Use):∃ n,IsAt p l n:=by
 rcases Lv (p:=p) l.length (Nat.le_refl _) with h|⟨n,_,h⟩
 ·exact ⟨l.length,Nat.le_refl _,h,fun h=>absurd h (Nat.lt_irrefl _)⟩
 ·exact ⟨n,h⟩
noncomputable def atN (p:Part) (l:List Use):Nat:=Classical.choose (Zm p l)
theorem Ay (p:Part) (l:List Use):IsAt p l (atN p l):=Classical.choose_spec (Zm p l)
theorem Az {p:Part} {l:List Use} {n:Nat} (h:IsAt p l n):atN p l=n:=(Ay p l).same h
theorem Ws {p:Part} {l:List Use}:IsAt p l l.length↔atN p l=l.length:=⟨Az,fun h=>by have:=Ay p l;rw [h] at this;exact this⟩
theorem aBq {p:Part} {l:List Use} (h:PartOk p l):∀ k,k≤l.length→(∀ q,q<k→fits p l q)→(fwd p l k).1≤(fwd p l k).2:=by
  intro k;induction k with
  | zero=>intro _ _;exact Int.le_refl _
  | succ k ih=>
    intro hk hf;have h1:=ih (by omega) fun q hq=>hf q (by omega)
    by_cases hm:(l.getD k aFi).meas=true
    · exact hf k (by omega) hm
    · have hu:=h.use (show k<l.length by omega)
      unfold useOk at hu
      simp only [decide_eq_true_eq] at hu
      have hr:=h.rate (k:=(l.getD k aFi).cls.toNat) (by omega)
      unfold jE at hr
      simp only [decide_eq_true_eq] at hr
      rw [fwd,if_neg hm];unfold addS cZ;have:=Int.mul_le_mul_of_nonneg_left hr.2.1 (show 0≤(l.getD k aFi).turns by omega);dsimp only;omega
def fstep (p:Part) (s:Int×Int) (u:Use):Int×Int:=if u.meas then meetS (addS s (cZ p u)) (u.lo,u.hi) else addS s (cZ p u)
theorem Df {p:Part} {l:List Use} (h:PartOk p l) {k:Nat} (hk:k<l.length) (hf:∀ q,q<k→fits p l q):fits p l k↔(fwd p l (k+1)).1≤(fwd p l (k+1)).2:=
 ⟨fun h'=>aBq h (k+1) (by omega) fun q hq=>by
  by_cases e:q=k
  ·subst e;exact h'
  ·exact hf q (by omega),fun h' _=>h'⟩
open Classical in
noncomputable def wearE (p:Part) (l:List Use):Int:=if cK p l≠0 then cK p l else if IsAt p l l.length then 0 else 3
theorem Lw {p:Part} {l:List Use} (h:cK p l≠0):wearE p l=cK p l:=by unfold wearE;rw [if_pos h]
theorem Gs {p:Part} {l:List Use} (h:cK p l=0) (h':¬ IsAt p l l.length):wearE p l=3:=by unfold wearE;rw [if_neg (by omega),if_neg h']
theorem wJ {p:Part} {l:List Use} (h:cK p l=0) (h':IsAt p l l.length):wearE p l=0:=by unfold wearE;rw [if_neg (by omega),if_pos h']
theorem mN {p:Part} {l:List Use} (h:wearE p l=0):cK p l=0∧IsAt p l l.length:=by
  unfold wearE at h
  split at h
  · exact absurd h (by assumption)
  · split at h
    · exact ⟨by omega,by assumption⟩
    · omega
noncomputable def refO (p:Part) (l:List Use):Int×Bool×Int:=if cK p l≠0 then (0,false,cK p l) else if atN p l<l.length then ((atN p l:Int),true,0) else (0,false,0)
def wornB (p:Part) (l:List Use) (k:Nat) (wr:Int):Bool:=(decide (p.turns<sumT l (k+1))||decide (p.age<(l.getD k aFi).day))||decide (p.worn*1000000<wr)
noncomputable def eQ (p:Part) (l:List Use) (e:Int×Int→Int):Int×Int:=if wearE p l≠0 then (0,wearE p l) else (lJ (fun k=>wornB p l k (e (cA p l k))) l.length,0)
theorem aDu {p:Part} {l:List Use} (e:Int×Int→Int) (h:wearE p l=0):eQ p l e=(lJ (fun k=>wornB p l k (e (cA p l k))) l.length,0):=by
 unfold eQ
 rw [if_neg (by omega)]
end
section
def enc2 (k:Int×Int):Value := .agg #[.int .i64 k.1,.int .i64 k.2]
section
variable {P:Program} {w:World} {kt e:TypeId}
theorem lY (h1:One P e) {cs:Array Value} {i:Nat} {v:Value} (h:cs[i]?=some v):(part e cs i).run P w = .ok v w:=by
 have:(isAgg e).run P w = .ok false w:=by
  unfold One lE at h1
  unfold isAgg
  cases hu:P.underlying e with
  | none=>rw [hu] at h1;simp at h1
  | some d=>rw [hu] at h1;simp only [Sem.run_bind,bS hu,Result.andThen_ok];cases d <;> simp_all
 simp [part,this,h]
theorem Rv (hs:Sz P e 1):(sizeOf e).run P w = .ok 1 w:=by
 unfold Sz at hs
 cases hi:P.info? e with
 | none=>rw [hi] at hs;simp at hs
 | some i=>rw [hi] at hs;simp at hs;simp [sizeOf,typeInfo,hi,hs]
theorem It (he:P.underlying e=some (.int .i64)) (d:Nat) (a b:Int):(Op.equalIn (d+1) e (.int .i64 a) (.int .i64 b)).run P w = .ok (a == b) w:=by
 simp [Op.equalIn,bS he]
theorem Wu (hk:P.underlying kt=some (.array 2 e)) (he:P.underlying e=some (.int .i64)) (h1:One P e) (hs:Sz P e 1) (d:Nat) (k k':Int×Int):(Op.equalIn (d+2) kt (enc2 k) (enc2 k')).run P w = .ok (decide (k=k')) w:=by
 obtain ⟨a,b⟩:=k;obtain ⟨a',b'⟩:=k';have p0:∀ x y:Int,(part e #[.int .i64 x,.int .i64 y] 0).run P w = .ok (.int .i64 x) w:=fun x y=>lY h1 rfl
 have p1:∀ x y:Int,(part e #[.int .i64 x,.int .i64 y] 1).run P w = .ok (.int .i64 y) w:=fun x y=>lY h1 rfl
 unfold enc2
 rw [Op.equalIn];simp [bS hk,Rv hs,p0,p1,It he,Std.Legacy.Range.forIn_eq_forIn_range',Std.Legacy.Range.size,List.range'];by_cases h:a=a' <;> by_cases h2:b=b' <;> simp [h,h2]
theorem Iu (he:P.underlying e=some (.int .i64)) (m:Bool) (n:Nat) (a:Int):(Instr.checkKey m (n+1) e (.int .i64 a)).run P w = .ok () w:=by
 rw [Instr.checkKey];simp only [Sem.run_bind,bS he,Result.andThen_ok];rfl
theorem Wv (hk:P.underlying kt=some (.array 2 e)) (he:P.underlying e=some (.int .i64)) (h1:One P e) (hs:Sz P e 1) (m:Bool) (n:Nat) (k:Int×Int):(Instr.checkKey m (n+2) kt (enc2 k)).run P w = .ok () w:=by
 have p0:∀ x y:Int,(part e #[.int .i64 x,.int .i64 y] 0).run P w = .ok (.int .i64 x) w:=fun x y=>lY h1 rfl
 have p1:∀ x y:Int,(part e #[.int .i64 x,.int .i64 y] 1).run P w = .ok (.int .i64 y) w:=fun x y=>lY h1 rfl
 unfold enc2
 rw [Instr.checkKey];simp [bS hk,Rv hs,p0,p1,Iu he,Std.Legacy.Range.forIn_eq_forIn_range',Std.Legacy.Range.size,List.range']
theorem Iv {κ:Type} [DecidableEq κ] {enc:κ→Value} (heq:∀ (k k':κ) (w:World),(Op.equal kt (enc k) (enc k')).run P w = .ok (decide (k=k')) w) (k:κ):∀ (l:List (κ×Value)) (es:List MapEntry) (i:Nat),es.map (fun e=>(e.key,e.val))=l.map (fun p=>(enc p.1,p.2))→(Instr.findAsking kt (enc k) es i).run P w = .ok (findL k l i) w:=by
  intro l;induction l with
  | nil=>
    intro es i he;have:es=[]:=by simpa using he
    subst this;rfl
  | cons p l ih=>
    intro es i he;cases es with
    | nil=>simp at he
    | cons x es=>
      simp only [List.map_cons,List.cons.injEq,Prod.mk.injEq] at he
      obtain ⟨⟨g1,g2⟩,g3⟩:=he;rw [Instr.findAsking,g1];simp only [Sem.run_bind,heq,Result.andThen_ok,findL];by_cases hk:k=p.1
      · rw [if_pos hk,decide_eq_true hk,g2];rfl
      · rw [if_neg hk,decide_eq_false hk]
        exact ih es (i+1) g3
theorem Lx {κ:Type} [DecidableEq κ] {enc:κ→Value} {n:Nat} (hk:P.underlying kt=some (.array n e)) (heq:∀ (k k':κ) (w:World),(Op.equal kt (enc k) (enc k')).run P w = .ok (decide (k=k')) w)
  (hck:∀ (m:Bool) (k:κ) (w:World),(Instr.checkKey m 10000 kt (enc k)).run P w = .ok () w) (hb:∀ k:κ,Instr.sameBits 10000 (enc k) (enc k)=true):KeyOk P kt enc:=by
 refine ⟨fun l k es w he=>?_,hck,hb⟩
 rw [run_findKey_eq w (by rw [hk])];exact Iv heq k l es 0 he
theorem Gt (hk:P.underlying kt=some (.array 2 e)) (he:P.underlying e=some (.int .i64)) (h1:One P e) (hs:Sz P e 1):KeyOk P kt enc2:=
 Lx hk (fun k k' w=>by unfold Op.equal;rw [show Op.maxDepth=9998+2 from rfl];exact Wu hk he h1 hs 9998 k k') (fun m k w=>by rw [show (10000:Nat)=9998+2 from rfl];exact Wv hk he h1 hs m 9998 k) (fun k=>by rw [show (10000:Nat)=9998+2 from rfl];simp [enc2,Instr.sameBits])
end
theorem aBr {κ:Type} {enc:κ→Value} {es:List MapEntry} {l:List (κ×Value)} {j:Nat} {k:κ} {v:Value} (he:es.map (fun e=>(e.key,e.val))=l.map (fun p=>(enc p.1,p.2))) (h:l[j]?=some (k,v)):∃ e,es[j]?=some e∧e.key=enc k∧e.val=v:=by
 have h1:(es.map (fun e=>(e.key,e.val)))[j]?=(l.map (fun p=>(enc p.1,p.2)))[j]?:=by rw [he]
 rw [List.getElem?_map,List.getElem?_map,h] at h1;cases h2:es[j]? with
 | none=>rw [h2] at h1;simp at h1
 | some e=>rw [h2] at h1;simp at h1;exact ⟨e,rfl,h1.1,h1.2⟩
def mapK {κ:Type} [DecidableEq κ] (enc:κ→Value) (b:Nat) (Φ:(κ→Option Value)→Prop):Mem where
 fp:=fun k=>k=b
 holds:=fun w=>∃ (es:Array MapEntry) (ck:Nat) (l:List (κ×Value)),w.heap[b]?=some (.map es ck)∧es.toList.map (fun e=>(e.key,e.val))=l.map (fun p=>(enc p.1,p.2))∧(∀ x ∈ es.toList,x.born<ck)∧(es.toList.map MapEntry.born).Nodup∧Φ (getL l)
 stable:=fun _ _ h ⟨es,ck,l,h1,h2⟩=>⟨es,ck,l,(h b rfl).trans h1,h2⟩
section
variable {P:Program} {ops:Array Oper} {w w0:World} {F0:Nat→Prop} {R:List Mem} {Q:Exit→Act→World→Prop} {rest:List Oper} {N:FN} {L:List (Nat×Value)} {a:Act} {ty:TypeId} {pos:String} {af:Array Edge}
variable {κ:Type} [DecidableEq κ] {enc:κ→Value} {Φ Φ':(κ→Option Value)→Prop}
theorem jO {d t:Nat} (enc:κ→Value) (Φ:(κ→Option Value)→Prop) (hΦ:Φ (fun _=>none)) (H:Fr N L a) (hd:Nat.blt d N.n=true) (S:St w0 F0 R w)
  (k:∀ b w' a',w0.heap.size≤b→St w0 F0 (mapK enc b Φ::R) w'→Fr N ((d,.map (some b))::L) a'→wpList P ops Q rest a' w') :
  wpList P ops Q (⟨some d,.makeMap t none,ty,pos,af,none⟩::rest) a w:=by
 refine wpList_plain rfl fun K hK=>?_
 unfold Oper.wp
 have e:(execOp a.eval ⟨some d,.makeMap t none,ty,pos,af,none⟩).run P w = .ok (.value (.map (some w.heap.size))) (w.alloc (.map #[] 0)):=by
  simp [execOp,Instr.makeMap,newObj,Sem.run]
 rw [e];refine hK _ _ (k w.heap.size _ _ S.size (S.new (Keeps.alloc w _ _) ⟨#[],0,[],heap_alloc_new w _,rfl,fun x hx=>by simp at hx,by simp,hΦ⟩ ?_) (H.put _ hd));intro q hq;rw [show q=w.heap.size from hq];simp
theorem Ba {x y:Operand} {t kt et b i:Nat} {d:Option Nat} {g:Option (Nat×Bool)} {z v:Value} {k:κ} (S:St w0 F0 R w) (hi:R[i]?=some (mapK enc b Φ)) (ht:MapT P t kt et) (hk:KeyOk P kt enc) (hz:ZeroV P et z) (hx:ev L x=some (.map (some b))) (hy:ev L y=some (enc k)) (hv:∀ h,Φ h→(h k).getD z=v) :
  Does P L ⟨d,.lookup t x y false,ty,pos,af,g⟩ w v:=fun ρ hρ=>by
 obtain ⟨es,ck,l,hb,he,_,_,hΦ⟩:=S.holds hi;have:=oT (k:=k) ht hk hz (⟨es,ck,hb,he⟩:(mapM enc b l).holds w) false;simp [execOp,hρ _ _ hx,hρ _ _ hy,this,hv _ hΦ]
theorem eV {x y:Operand} {t kt et b i:Nat} {d:Option Nat} {g:Option (Nat×Bool)} {z v:Value} {s:Bool} {k:κ} (S:St w0 F0 R w) (hi:R[i]?=some (mapK enc b Φ)) (ht:MapT P t kt et) (hk:KeyOk P kt enc) (hz:ZeroV P et z) (hx:ev L x=some (.map (some b))) (hy:ev L y=some (enc k)) (hv:∀ h,Φ h→(h k).getD z=v∧(h k).isSome=s) :
  Does P L ⟨d,.lookup t x y true,ty,pos,af,g⟩ w (.tuple #[v,.bool s]):=fun ρ hρ=>by
 obtain ⟨es,ck,l,hb,he,_,_,hΦ⟩:=S.holds hi;have:=oT (k:=k) ht hk hz (⟨es,ck,hb,he⟩:(mapM enc b l).holds w) true;obtain ⟨h1,h2⟩:=hv _ hΦ;simp [execOp,hρ _ _ hx,hρ _ _ hy,this,h1,h2]
theorem Rw {l:List (κ×Value)} {k:κ} {v:Value} (h:findL k l 0=none):setL l k v=l++[(k,v)]:=by unfold setL;rw [h]
theorem Rx {l:List (κ×Value)} {k:κ} {v v0:Value} {j:Nat} (h:findL k l 0=some (j,v0)):setL l k v=l.modify j fun p=>(p.1,v):=by unfold setL;rw [h]
theorem Ly {l:List (κ×Value)} {k:κ} {v:Value}:getL (setL l k v)=fun k'=>if k'=k then some v else getL l k':=funext fun k'=>Bw v k k' l
theorem Dg (f:MapEntry→MapEntry) (hf:∀ e,(f e).born=e.born):∀ (l:List MapEntry) (i:Nat),(l.modify i f).map MapEntry.born=l.map MapEntry.born:=by
  intro l;induction l with
  | nil=>intro i;simp
  | cons e l ih=>
    intro i;cases i with
    | zero=>simp [hf]
    | succ i=>simp [List.modify_succ_cons,ih]
theorem Ww {l l':List MapEntry} {ck:Nat} (h:l'.map MapEntry.born=l.map MapEntry.born) (hl:∀ x ∈ l,x.born<ck):∀ x ∈ l',x.born<ck:=fun x hx=>by
 have h1:x.born ∈ l'.map MapEntry.born:=List.mem_map.2 ⟨x,hx,rfl⟩
 rw [h] at h1;obtain ⟨y,hy,e⟩:=List.mem_map.1 h1;have:=hl y hy;omega
theorem Ry {l:List MapEntry} {e:MapEntry} {ck:Nat} (he:e.born=ck) (hl:∀ x ∈ l,x.born<ck) (hn:(l.map MapEntry.born).Nodup):(∀ x ∈ l++[e],x.born<ck+1)∧((l++[e]).map MapEntry.born).Nodup:=by
  constructor
  · intro x hx
    rcases List.mem_append.1 hx with hx|hx
    · have:=hl x hx;omega
    · rw [List.mem_singleton.1 hx];omega
  · rw [List.map_append,List.nodup_append]
    refine ⟨hn,by simp,fun p hp q hq e1=>?_⟩
    obtain ⟨x,hx,rfl⟩:=List.mem_map.1 hp;simp only [List.map_cons,List.map_nil,List.mem_singleton] at hq;have:=hl x hx;omega
theorem fF {x y u:Operand} {t kt et b i:Nat} {k:κ} {v:Value} (Φ':(κ→Option Value)→Prop) (H:Fr N L a) (S:St w0 F0 R w) (hi:R[i]?=some (mapK enc b Φ)) (ht:MapT P t kt et) (hk:KeyOk P kt enc) (hx:ev L x=some (.map (some b))) (hy:ev L y=some (enc k)) (hu:ev L u=some v)
    (hΦ':∀ h,Φ h→Φ' (fun k'=>if k'=k then some v else h k'))
    (kk:∀ w' a',St w0 F0 (R.set i (mapK enc b Φ')) w'→Fr N L a'→wpList P ops Q rest a' w') :
    wpList P ops Q (⟨none,.mapUpdate t x y u,ty,pos,af,none⟩::rest) a w:=by
  refine wpList_plain rfl fun K hK=>?_
  obtain ⟨es,ck,l,hb,he,hlt,hnd,hΦ⟩:=S.holds hi;have hf:=hk.find l k es.toList w he;have hg:(getObj b).run P w = .ok (.map es ck) w:=by simp [getObj,Sem.run,hb]
  have hs:∀ o,(setObj b o).run P w = .ok () (w.putObj b o):=fun o=>by simp [setObj,Sem.run,hb,World.putObj]
  have hkeeps:∀ o,Keeps w (w.putObj b o) (fun k=>k=b):=fun o=>⟨rfl,rfl,rfl,by simp [World.putObj],fun q _ hq=>World.putObj_heap_other (fun e=>hq e)⟩
  have hΦ2:Φ' (getL (setL l k v)):=by rw [Ly];exact hΦ' _ hΦ
  unfold MapT at ht
  unfold Oper.wp
  cases hfl:findL k l 0 with
  | none=>
    rw [hfl] at hf
    have e1:(execOp a.eval ⟨none,.mapUpdate t x y u,ty,pos,af,none⟩).run P w = .ok .skip (w.putObj b (.map (es.push { key:=enc k,val:=v,born:=ck }) (ck+1))):=by
      simp [execOp,H.eval hx,H.eval hy,H.eval hu,Instr.mapUpdate,bS ht,hg,hk.check,hf,hs]
    rw [e1];have hb2:=Ry (e:={ key:=enc k,val:=v,born:=ck }) rfl hlt hnd;refine hK _ _ (kk _ _ (S.updSame hi (hkeeps _) ⟨_,_,setL l k v,World.putObj_heap_same (eI hb),?_,?_,?_,hΦ2⟩ (fun _ h=>h)) (H.put_none _))
    · rw [Rw hfl];simp [he]
    · rw [Array.toList_push];exact hb2.1
    · rw [Array.toList_push];exact hb2.2
  | some q=>
    obtain ⟨j,v0⟩:=q;rw [hfl] at hf;have hat:=Bx hfl;obtain ⟨e0,h1,h2,h3⟩:=aBr he hat;have hej:(es[j]?).map (·.key)=some (enc k):=by rw [←Array.getElem?_toList,h1,←h2];rfl
    have hst:(Instr.keyThatStays (enc k) (enc k)).run P w = .ok (enc k) w:=by simp [Instr.keyThatStays,hk.bits k]
    have e1:(execOp a.eval ⟨none,.mapUpdate t x y u,ty,pos,af,none⟩).run P w = .ok .skip (w.putObj b (.map (es.modify j fun e=>{ e with key:=enc k,val:=v }) ck)):=by
      simp [execOp,H.eval hx,H.eval hy,H.eval hu,Instr.mapUpdate,bS ht,hg,hk.check,hf,hs,hej,hst]
    rw [e1];have hbm:=Dg (fun e=>{ e with key:=enc k,val:=v }) (fun _=>rfl) es.toList j;refine hK _ _ (kk _ _ (S.updSame hi (hkeeps _) ⟨_,_,setL l k v,World.putObj_heap_same (eI hb),?_,?_,?_,hΦ2⟩ (fun _ h=>h)) (H.put_none _))
    · rw [Rx hfl,Array.toList_modify]
      refine uN _ _ _ _ es.toList l j he fun e p g1 g2 g3=>?_
      rw [hat] at g3;injection g3 with g3;subst g3;rfl
    · rw [Array.toList_modify];exact Ww hbm hlt
    · rw [Array.toList_modify,hbm];exact hnd
end
def ints (xs:List Int):Value := .agg (xs.map fun x=>Value.int .i64 x).toArray
structure IntsK (P:Program) (t:TypeId) (n D:Nat):Prop where
 agg:Agg P t
 sz:Sz P t n
 eq:∀ (d:Nat) (xs ys:List Int) (w:World),xs.length=n→ys.length=n→(Op.equalIn (d+D) t (ints xs) (ints ys)).run P w = .ok (decide (xs=ys)) w
 ck:∀ (m:Bool) (d:Nat) (xs:List Int) (w:World),xs.length=n→(Instr.checkKey m (d+D) t (ints xs)).run P w = .ok () w
section
variable {P:Program} {w:World} {kt e:TypeId} {n D:Nat}
theorem yL {n:Nat} (ha:Agg P e) (hs:Sz P e n) (cs:Array Value) (i:Nat):(part e cs i).run P w = .ok (.agg (cs.extract i (i+n))) w:=by
 have h1:(isAgg e).run P w = .ok true w:=by
  unfold Agg lE at ha
  unfold isAgg
  cases hu:P.underlying e with
  | none=>rw [hu] at ha;simp at ha
  | some d=>rw [hu] at ha;simp only [Sem.run_bind,bS hu,Result.andThen_ok];cases d <;> simp_all
 have h2:(sizeOf e).run P w = .ok n w:=by
  unfold Sz at hs
  cases hi:P.info? e with
  | none=>rw [hi] at hs;simp at hs
  | some i=>rw [hi] at hs;simp at hs;simp [sizeOf,typeInfo,hi,hs]
 simp [part,h1,h2]
theorem yM {n:Nat} (hs:Sz P e n):(sizeOf e).run P w = .ok n w:=by
 unfold Sz at hs
 cases hi:P.info? e with
 | none=>rw [hi] at hs;simp at hs
 | some i=>rw [hi] at hs;simp at hs;simp [sizeOf,typeInfo,hi,hs]
theorem Dh (xs:List Int) (i n:Nat):((xs.map fun x=>Value.int .i64 x).toArray).extract i (i+n)=(((xs.drop i).take n).map fun x=>Value.int .i64 x).toArray:=by
 rw [List.extract_toArray,List.extract_eq_take_drop,Nat.add_sub_cancel_left,List.map_take,List.map_drop]
theorem Wx {xs:List Int} {i:Nat} (h:i<xs.length):((xs.map fun x=>Value.int .i64 x).toArray)[i]?=some (.int .i64 (xs.getD i 0)):=by
 simp [List.getD_eq_getElem?_getD,h]
theorem Rz {α:Type} {f:α→Sem Bool} {b:α→Bool} {w:World} (l:List α) (h:∀ i ∈ l,(f i).run P w = .ok (b i) w) :
    (do let r ←forIn (m:=Sem) l ((none,()):Option Bool×PUnit) fun i r=>do
          let x ←f i
          if !x then pure (ForInStep.done (some false,())) else pure (ForInStep.yield (none,()))
        match r.fst with
        | some a=>pure a
        | none=>pure true:Sem Bool).run P w = .ok (l.all b) w:=by
  have key:∀ l:List α,(∀ i ∈ l,(f i).run P w = .ok (b i) w)→(forIn (m:=Sem) l ((none,()):Option Bool×PUnit) fun i r=>do
          let x ←f i
          if !x then pure (ForInStep.done (some false,())) else pure (ForInStep.yield (none,()))).run P w = .ok ((if l.all b=true then none else some false,())) w:=by
    intro l;induction l with
    | nil=>intro _;simp
    | cons a l ih=>
      intro h;have h1:=h a (by simp);have h2:=ih fun i hi=>h i (by simp [hi])
      rw [List.forIn_cons];cases hb:b a with
      | true=>
        rw [hb] at h1;have e:(a::l).all b=l.all b:=by simp [hb]
        rw [e];simp only [Sem.run_bind,h1,Result.andThen_ok];simpa using h2
      | false=>
        rw [hb] at h1;simp [h1,hb]
  simp only [Sem.run_bind,key l h,Result.andThen_ok]
  by_cases hl:l.all b=true
  · simp [hl]
  · simp [hl]
theorem Lz {α:Type} {f:α→Sem Unit} {w:World} (l:List α) (h:∀ i ∈ l,(f i).run P w = .ok () w) :
    (forIn (m:=Sem) l () fun i r=>do f i;pure (ForInStep.yield ())).run P w = .ok () w:=by
  induction l with
  | nil=>simp
  | cons a l ih=>
    have h1:=h a (by simp)
    have h2:=ih fun i hi=>h i (by simp [hi])
    rw [List.forIn_cons];simp only [Sem.run_bind,h1,Result.andThen_ok];simpa using h2
def seg (xs:List Int) (off n:Nat):List Int:=(xs.drop off).take n
theorem qW {xs:List Int} {off n:Nat} (h:off+n≤xs.length):(seg xs off n).length=n:=by simp [seg];omega
structure PartK (P:Program) (t:TypeId) (n D:Nat):Prop where
 eq:∀ (d:Nat) (xs ys:List Int) (off:Nat) (w:World),off+n≤xs.length→off+n≤ys.length →
  (do let a ←part t (xs.map fun x=>Value.int .i64 x).toArray off;let b ←part t (ys.map fun x=>Value.int .i64 x).toArray off;Op.equalIn (d+D) t a b:Sem Bool).run P w = .ok (decide (seg xs off n=seg ys off n)) w
 ck:∀ (m:Bool) (d:Nat) (xs:List Int) (off:Nat) (w:World),off+n≤xs.length→(do let a ←part t (xs.map fun x=>Value.int .i64 x).toArray off;Instr.checkKey m (d+D) t a:Sem Unit).run P w = .ok () w
theorem PartK.of (h:IntsK P kt n D):PartK P kt n D:=by
  refine ⟨fun d xs ys off w hx hy=>?_,fun m d xs off w hx=>?_⟩
  · simp only [Sem.run_bind,yL h.agg h.sz,Result.andThen_ok,Dh]
    exact h.eq d _ _ w (qW hx) (qW hy)
  · simp only [Sem.run_bind,yL h.agg h.sz,Result.andThen_ok,Dh]
    exact h.ck m d _ w (qW hx)
theorem Iw {xs:List Int} {i:Nat} (h:i<xs.length):seg xs i 1=[xs.getD i 0]:=by
 rw [seg,List.drop_eq_getElem_cons h,List.take_succ_cons,List.take_zero,List.getD_eq_getElem?_getD,List.getElem?_eq_getElem h];rfl
theorem PartK.int (he:P.underlying e=some (.int .i64)) (h1:One P e):PartK P e 1 1:=by
  have hp:∀ (zs:List Int) (i:Nat),i<zs.length→∀ w,(part e (zs.map fun x=>Value.int .i64 x).toArray i).run P w = .ok (.int .i64 (zs.getD i 0)) w:=fun zs i hi w=>lY h1 (Wx hi)
  refine ⟨fun d xs ys off w hx hy=>?_,fun m d xs off w hx=>?_⟩
  · simp only [Sem.run_bind,hp xs off (by omega),hp ys off (by omega),Result.andThen_ok,It he]
    rw [Iw (by omega),Iw (by omega)];rw [show decide ([xs.getD off 0]=[ys.getD off 0])=decide (xs.getD off 0=ys.getD off 0) by simp];rfl
  · simp only [Sem.run_bind,hp xs off (by omega),Result.andThen_ok,Iu he]
theorem PartK.mono {n D:Nat} (h:PartK P e n D):PartK P e n (D+1):=
 ⟨fun d xs ys off w hx hy=>by have:=h.eq (d+1) xs ys off w hx hy;rw [Nat.add_assoc,Nat.add_comm 1 D] at this;exact this,fun m d xs off w hx=>by have:=h.ck m (d+1) xs off w hx;rw [Nat.add_assoc,Nat.add_comm 1 D] at this;exact this⟩
theorem PartK.int2 (he:P.underlying e=some (.int .i64)) (h1:One P e):PartK P e 1 2:=(PartK.int he h1).mono
theorem Ix {xs ys:List Int} {off n m:Nat} (hx:off+n+m≤xs.length) (hy:off+n+m≤ys.length):seg xs off (n+m)=seg ys off (n+m)↔seg xs off n=seg ys off n∧seg xs (off+n) m=seg ys (off+n) m:=by
 have e:∀ zs:List Int,seg zs off (n+m)=seg zs off n++seg zs (off+n) m:=fun zs=>by
  unfold seg;rw [List.take_add,List.drop_drop]
 rw [e,e];exact ⟨fun h=>List.append_inj h (by rw [qW (by omega),qW (by omega)]),fun h=>by rw [h.1,h.2]⟩
theorem uA {xs:List Int} {n:Nat} (h:xs.length=n):seg xs 0 n=xs:=by unfold seg;rw [List.drop_zero,List.take_of_length_le (by omega)]
theorem aBs {xs ys:List Int} {m:Nat}:∀ len,len*m≤xs.length→len*m≤ys.length→((List.range len).all fun i=>decide (seg xs (i*m) m=seg ys (i*m) m))=decide (seg xs 0 (len*m)=seg ys 0 (len*m)):=by
  intro len;induction len with
  | zero=>intro _ _;simp [seg]
  | succ len ih=>
    intro hx hy;rw [Nat.add_mul] at hx hy;rw [List.range_succ,List.all_append,ih (by omega) (by omega),Bool.eq_iff_iff,Nat.add_mul,Nat.one_mul,decide_eq_true_eq,Ix (by omega) (by omega),Nat.zero_add];simp
theorem Sa {len m D:Nat} (hk:P.underlying kt=some (.array len e)) (hs:Sz P kt (len*m)) (he:PartK P e m D) (hse:Sz P e m):IntsK P kt (len*m) (D+1):=by
  refine ⟨by unfold Agg lE;rw [hk],hs,fun d xs ys w hx hy=>?_,fun b d xs w hx=>?_⟩
  · have hq:∀ i ∈ List.range len,(do let a ←part e (xs.map fun x=>Value.int .i64 x).toArray (i*m);let b ←part e (ys.map fun x=>Value.int .i64 x).toArray (i*m);Op.equalIn (d+D) e a b:Sem Bool).run P w = .ok (decide (seg xs (i*m) m=seg ys (i*m) m)) w:=fun i hi=>by
      have hi':=List.mem_range.1 hi
      have:(i+1)*m≤len*m:=Nat.mul_le_mul_right _ (by omega)
      rw [Nat.add_mul] at this;exact he.eq d xs ys (i*m) w (by omega) (by omega)
    have hr:=Rz (P:=P) (w:=w) (List.range len) hq
    rw [aBs len (by omega) (by omega),uA hx,uA hy] at hr;unfold ints;rw [show d+(D+1)=(d+D)+1 from rfl,Op.equalIn];simp only [Sem.run_bind,bS hk,yM hse,Result.andThen_ok,Std.Legacy.Range.forIn_eq_forIn_range',Std.Legacy.Range.size];rw [List.range_eq_range'] at hr;simp at hr ⊢;rw [←hr];congr 1;funext a w';cases a with|mk x y=>cases x <;> rfl
  · have hz:(sizeOf e).run P w = .ok m w:=yM hse
    have hq:∀ i ∈ List.range len,(do let s ←sizeOf e;let a ←part e (xs.map fun x=>Value.int .i64 x).toArray (i*s);Instr.checkKey b (d+D) e a:Sem Unit).run P w = .ok () w:=fun i hi=>by
      have hi':=List.mem_range.1 hi
      have:(i+1)*m≤len*m:=Nat.mul_le_mul_right _ (by omega)
      rw [Nat.add_mul] at this;have h9:=he.ck b d xs (i*m) w (by omega);rw [Sem.run_bind,hz,Result.andThen_ok];exact h9
    have hr:=Lz (P:=P) (w:=w) (List.range len) hq
    unfold ints
    rw [show d+(D+1)=(d+D)+1 from rfl,Instr.checkKey];simp only [Sem.run_bind,bS hk,Result.andThen_ok,Std.Legacy.Range.forIn_eq_forIn_range',Std.Legacy.Range.size];rw [List.range_eq_range'] at hr;simp at hr ⊢;exact congrArg (fun r:Result Unit=>r.andThen fun _ w'=>Result.ok () w') hr
inductive FieldsK (P:Program) (D:Nat):Nat→List Field→Nat→Prop
 | nil (off:Nat):FieldsK P D off [] off
 | cons {off n E : Nat} {f : Field} {fs : List Field} (h1 : f.name ≠ "_") (h2 : f.offset = off) (h3 : PartK P f.type n D) (h4 : FieldsK P D (off + n) fs E) : FieldsK P D off (f :: fs) E
theorem FieldsK.le {fs:List Field} {off E:Nat} (h:FieldsK P D off fs E):off≤E:=by
 induction h with
 | nil=>exact Nat.le_refl _
 | cons _ _ _ _ ih=>omega
theorem FieldsK.eqs {fs:List Field} {off E:Nat} (h:FieldsK P D off fs E) (xs ys:List Int) (d:Nat) (hx:E≤xs.length) (hy:E≤ys.length) :
    (forIn (m := Sem) fs ((none, ()) : Option Bool × PUnit) fun f r => if f.name ≠ "_" then do
          let c ←(do let a ←part f.type (xs.map fun x=>Value.int .i64 x).toArray f.offset;let b ←part f.type (ys.map fun x=>Value.int .i64 x).toArray f.offset;Op.equalIn (d+D) f.type a b:Sem Bool)
          if !c then pure (ForInStep.done (some false,())) else pure (ForInStep.yield (none,()))
        else pure (ForInStep.yield (none,()))).run P w = .ok ((if seg xs off (E-off)=seg ys off (E-off) then none else some false,())) w:=by
  induction h with
  | nil off=>simp [seg]
  | @cons off n E f fs h1 h2 h3 h4 ih=>
    have hle:=h4.le
    have h5:=h3.eq d xs ys off w (by omega) (by omega)
    have h6:=ih hx hy
    have h7:=Ix (xs:=xs) (ys:=ys) (off:=off) (n:=n) (m:=E-(off+n)) (by omega) (by omega)
    rw [show n+(E-(off+n))=E-off by omega] at h7;rw [List.forIn_cons,if_pos h1,h2];by_cases hs:seg xs off n=seg ys off n
    · rw [decide_eq_true hs] at h5
      rw [Sem.run_bind,Sem.run_bind,h5,Result.andThen_ok];simp only [Bool.not_true,Bool.false_eq_true,if_false,Sem.run_pure,Result.andThen_ok];rw [h6];by_cases ht:seg xs (off+n) (E-(off+n))=seg ys (off+n) (E-(off+n))
      · rw [if_pos ht,if_pos (h7.2 ⟨hs,ht⟩)]
      · rw [if_neg ht,if_neg (fun h=>ht (h7.1 h).2)]
    · rw [decide_eq_false hs] at h5
      rw [Sem.run_bind,Sem.run_bind,h5,Result.andThen_ok];simp only [Bool.not_false,if_true,Sem.run_pure,Result.andThen_ok];rw [if_neg (fun h=>hs (h7.1 h).1)]
theorem FieldsK.cks {fs:List Field} {off E:Nat} (h:FieldsK P D off fs E) (xs:List Int) (m:Bool) (d:Nat) (hx:E≤xs.length) :
    (forIn (m := Sem) fs () fun f r => if f.name ≠ "_" then do
          (do let a ←part f.type (xs.map fun x=>Value.int .i64 x).toArray f.offset;Instr.checkKey m (d+D) f.type a:Sem Unit)
          pure (ForInStep.yield ())
        else pure (ForInStep.yield ())).run P w = .ok () w:=by
  induction h with
  | nil off=>simp
  | @cons off n E f fs h1 h2 h3 h4 ih=>
    have hle:=h4.le
    have h5:=h3.ck m d xs off w (by omega)
    have h6:=ih hx
    rw [List.forIn_cons,if_pos h1,h2];rw [Sem.run_bind,Sem.run_bind,h5,Result.andThen_ok];simp only [Sem.run_pure,Result.andThen_ok];exact h6
theorem Sb {fs:Array Field} {n:Nat} (hk:P.underlying kt=some (.struct fs)) (hs:Sz P kt n) (hf:FieldsK P D 0 fs.toList n) (hst:P.stoodInHeld kt=false):IntsK P kt n (D+1):=by
  refine ⟨by unfold Agg lE;rw [hk],hs,fun d xs ys w hx hy=>?_,fun b d xs w hx=>?_⟩
  · have hr:=hf.eqs (w:=w) xs ys d (by omega) (by omega)
    rw [Nat.sub_zero,uA hx,uA hy] at hr;have hpg:(program:Sem Program).run P w = .ok P w:=rfl;unfold ints;rw [show d+(D+1)=(d+D)+1 from rfl,Op.equalIn];simp only [Sem.run_bind,bS hk,hpg,hst,Result.andThen_ok];simp at hr ⊢;have hr2:=congrArg (fun r:Result (Option Bool×PUnit)=>r.andThen fun a w'=>Sem.run P (match a.fst with|some r=>pure r|none=>pure true) w') hr;refine Eq.trans ?_ (hr2.trans (by by_cases h:xs=ys <;> simp [h]));refine congrArg _ ?_;funext a w';cases a with|mk x y=>cases x <;> rfl
  · have hr:=hf.cks (w:=w) xs b d (by omega)
    unfold ints
    rw [show d+(D+1)=(d+D)+1 from rfl,Instr.checkKey];simp only [Sem.run_bind,bS hk,Result.andThen_ok];simp at hr ⊢;exact congrArg (fun r:Result Unit=>r.andThen fun _ w'=>Result.ok () w') hr
def KeyN (n:Nat):Type:={ l:List Int // l.length=n }
instance {n:Nat}:DecidableEq (KeyN n):=fun a b=>if h:a.1=b.1 then .isTrue (Subtype.ext h) else .isFalse fun e=>h (congrArg Subtype.val e)
def encN {n:Nat} (k:KeyN n):Value:=ints k.1
theorem Ma (xs:List Int) (d:Nat):Instr.sameBits (d+1) (ints xs) (ints xs)=true:=by
 unfold ints
 rw [Instr.sameBits];simp only [beq_self_eq_true,Bool.true_and];rw [List.all_eq_true];rintro ⟨x,y⟩ h;rw [List.zip_eq_zipWith] at h;simp only [List.zipWith_self,List.mem_map] at h;obtain ⟨v,hv,e⟩:=h;cases e;have hv':x ∈ xs.map fun x=>Value.int .i64 x:=by simpa using hv
 obtain ⟨q,_,rfl⟩:=List.mem_map.1 hv';simp [Instr.sameBits]
theorem Wy {n:Nat} (h:IntsK P kt n D) (hD:D≤100) (hwide:(match P.underlying kt with|some (.array _ _)|some (.struct _)=>true|_=>false)=true):KeyOk P kt (encN (n:=n)):=by
  have heq:∀ (k k':KeyN n) (w:World),(Op.equal kt (encN k) (encN k')).run P w = .ok (decide (k=k')) w:=fun k k' w=>by
    have:=h.eq (10000-D) k.1 k'.1 w k.2 k'.2
    rw [Nat.sub_add_cancel (by omega)] at this;unfold Op.equal Op.maxDepth encN;rw [this];congr 1;exact decide_eq_decide.2 ⟨fun h=>Subtype.ext h,fun h=>congrArg Subtype.val h⟩
  refine ⟨fun l k es w he=>?_,fun m k w=>?_,fun k=>Ma _ _⟩
  · rw [run_findKey_eq w hwide]
    exact Iv heq k l es 0 he
  · have:=h.ck m (10000-D) k.1 w k.2
    rw [Nat.sub_add_cancel (by omega)] at this;exact this
end
structure Unt where
 mach:Int
 every:Int
 seen:Int
 rates:List (Int×Int)
 RA:Option Addr
 rc:Nat
 worn:Int
 turns:Int
 age:Int
 uses:List Use
 UA:Option Addr
 uc:Nat
 old:Int
 tn:Int
 cl:Int
 kind:Int
def aFg:Unt:=⟨0,0,0,[],none,0,0,0,0,[],none,0,0,0,0,0⟩
def Unt.cell (u:Unt):Nat→Value
 | 0 => .int .i64 u.mach
 | 1 => .int .i64 u.every
 | 2 => .int .i64 u.seen
 | 3 => .slice u.RA u.rates.length u.rc
 | 4 => .int .i64 u.worn
 | 5 => .int .i64 u.turns
 | 6 => .int .i64 u.age
 | 7 => .slice u.UA u.uses.length u.uc
 | 8 => .int .i64 u.old
 | 9 => .int .i64 u.tn
 | 10 => .int .i64 u.cl
 | _ => .int .i64 u.kind
def vcell (l:List Unt) (k j:Nat):Value:=(l.getD k aFg).cell j
def Unt.part (u:Unt):Part:=⟨u.rates,u.worn,u.turns,u.age⟩
def Unt.same (u v:Unt):Prop:=v={ u with RA:=v.RA,rc:=v.rc,UA:=v.UA,uc:=v.uc }
structure Spr where
 day:Int
 kind:Int
 many:Int
def aFo:Spr:=⟨0,0,0⟩
def Spr.cell (s:Spr):Nat→Value
 | 0 => .int .i64 s.day
 | 1 => .int .i64 s.kind
 | _ => .int .i64 s.many
def aBt (l:List Spr) (k j:Nat):Value:=(l.getD k aFo).cell j
structure Tsk where
 day:Int
 unit:Int
 kind:Int
deriving instance DecidableEq for Tsk
def aFh:Tsk:=⟨0,0,0⟩
def Tsk.cell (t:Tsk):Nat→Value
 | 0 => .int .i64 t.day
 | 1 => .int .i64 t.unit
 | _ => .int .i64 t.kind
def cD (l:List Tsk) (k j:Nat):Value:=(l.getD k aFh).cell j
structure Yr where
 days:Int
 pl:Int
 ps:List Psg
 PA:Option Addr
 pc:Nat
 xs:List Int
 XA:Option Addr
 xc:Nat
 pe:List Int
 BA:Option Addr
 bc:Nat
 limit:Int
 help:Bool
 prs:List Prm
 QA:Option Addr
 qc:Nat
 us:List Unt
 VA:Option Addr
 vc:Nat
 crew:Int
 sps:List Spr
 SA:Option Addr
 sc:Nat
def Yr.cells (y:Yr):List Value:=[.int .i64 y.days,.int .i64 y.pl,.slice y.PA y.ps.length y.pc,.slice y.XA y.xs.length y.xc,.slice y.BA y.pe.length y.bc,.int .i64 y.limit,.bool y.help,.slice y.QA y.prs.length y.qc,.slice y.VA y.us.length y.vc,.int .i64 y.crew,.slice y.SA y.sps.length y.sc]
abbrev Yr.st (y:Yr):Value := .agg [.int .i64 y.pl,.slice y.PA y.ps.length y.pc,.slice y.XA y.xs.length y.xc].toArray
abbrev Yr.u (y:Yr) (k:Nat):Unt:=y.us.getD k aFg
structure YIn (w:World) (F:Nat→Prop) (y:Yr):Prop where
 ps:InS w F 7 y.PA y.ps.length (pcell y.ps)
 xs:InS w F 1 y.XA y.xs.length (icl y.xs)
 pe:InS w F 1 y.BA y.pe.length (icl y.pe)
 prs:InS w F 5 y.QA y.prs.length (dX y.prs)
 us:InS w F 12 y.VA y.us.length (vcell y.us)
 sps:InS w F 3 y.SA y.sps.length (aBt y.sps)
 rt:∀ k,k<y.us.length→InS w F 2 (y.us.getD k aFg).RA (y.us.getD k aFg).rates.length (scell (y.us.getD k aFg).rates)
 ul:∀ k,k<y.us.length→InS w F 6 (y.us.getD k aFg).UA (y.us.getD k aFg).uses.length (ucell (y.us.getD k aFg).uses)
structure YBd (y:Yr):Prop where
 ps:y.ps.length*56≤140737488351232
 xs:y.xs.length*8≤140737488351232
 pe:y.pe.length*8≤140737488351232
 prs:y.prs.length*40≤140737488351232
 us:y.us.length*120≤140737488351232
 sps:y.sps.length*24≤140737488351232
 rt:∀ k,k<y.us.length→(y.us.getD k aFg).rates.length*16≤140737488351232
 ul:∀ k,k<y.us.length→(y.us.getD k aFg).uses.length*48≤140737488351232
 cap:∀ k,k<y.us.length→(y.us.getD k aFg).uses.length≤(y.us.getD k aFg).uc
section
variable {w w0:World} {F F0:Nat→Prop} {R:List Mem} {y:Yr}
theorem YIn.now (h:YIn w0 F0 y) (S:St w0 F0 R w):YIn w noF y:=
 ⟨h.ps.now S,h.xs.now S,h.pe.now S,h.prs.now S,h.us.now S,h.sps.now S,fun k hk=>(h.rt k hk).now S,fun k hk=>(h.ul k hk).now S⟩
theorem YBd.psn (h:YBd y):y.ps.length≤9223372036854775807:=by have:=h.ps;omega
theorem YBd.xsn (h:YBd y):y.xs.length≤9223372036854775807:=by have:=h.xs;omega
theorem YBd.pen (h:YBd y):y.pe.length≤9223372036854775807:=by have:=h.pe;omega
theorem YBd.prn (h:YBd y):y.prs.length≤9223372036854775807:=by have:=h.prs;omega
theorem YBd.usn (h:YBd y):y.us.length≤9223372036854775807:=by have:=h.us;omega
theorem YBd.spn (h:YBd y):y.sps.length≤9223372036854775807:=by have:=h.sps;omega
theorem YBd.rtn (h:YBd y) {k:Nat} (hk:k<y.us.length):(y.us.getD k aFg).rates.length≤9223372036854775807:=by have:=h.rt k hk;omega
theorem YBd.uln (h:YBd y) {k:Nat} (hk:k<y.us.length):(y.us.getD k aFg).uses.length≤9223372036854775807:=by have:=h.ul k hk;omega
end
def untI (u:Unt):Prop:=(1≤u.every∧u.every≤20)∧(-20≤u.seen∧u.seen≤0)∧(0≤u.kind∧u.kind≤3)∧u.uses.length≤20∧(prevD u.uses u.uses.length≤u.old∧u.old≤99980)∧(0≤u.tn∧u.tn≤1000000)∧(0≤u.cl∧u.cl≤(u.rates.length:Int)-1)
instance (u:Unt):Decidable (untI u):=by unfold untI;exact inferInstance
def freeN (ps:List Psg) (us:List Unt) (n i:Nat) (m:Int):Bool:=!allN (fun k=>!(decide (0≤(ps.getD k aFf).mach)&&decide ((ps.getD k aFf).mach=m))) n&&allN (fun k=>!decide ((us.getD k aFg).mach=m)) i
def freeM (ps:List Psg) (us:List Unt) (i:Nat) (m:Int):Bool:=freeN ps us ps.length i m
noncomputable def untU (ps:List Psg) (us:List Unt) (i:Nat) (u:Unt):Bool:=freeM ps us i u.mach&&(decide (untI u)&&decide (wearE u.part u.uses=0))
noncomputable def untB (ps:List Psg) (us:List Unt) (i:Nat):Bool:=untU ps us i (us.getD i aFg)
def sprB (days:Int) (s:Spr):Bool:=decide ((0≤s.day∧s.day≤days-1)∧(0≤s.kind∧s.kind≤3)∧(1≤s.many∧s.many≤8))
def yrI (y:Yr):Prop:=(1≤y.days∧y.days≤20)∧((y.pe.length:Int)=y.pl∧∀ k,k<y.pe.length→0≤y.pe.getD k 0∧y.pe.getD k 0≤1000)∧(0≤y.limit∧y.limit≤60)∧(0≤y.crew∧y.crew≤8)∧y.sps.length≤20∧∀ k,k<y.sps.length→sprB y.days (y.sps.getD k aFo)=true
open Classical in
noncomputable def yearE (y:Yr):Int:=if keptE y.pl y.ps y.xs [] y.prs≠0 then keptE y.pl y.ps y.xs [] y.prs else if ¬ yrI y then 120 else if 6<y.us.length then 2 else if allN (untB y.ps y.us) y.us.length=true then 0 else 121
def befB (a b:Tsk):Bool:=if a.day≠b.day then decide (a.day<b.day) else if a.unit≠b.unit then decide (a.unit<b.unit) else decide (a.kind<b.kind)
def tskB (y:Yr) (l:List Tsk) (i:Nat):Bool:=decide ((0≤(l.getD i aFh).day∧(l.getD i aFh).day≤y.days-1)∧(0≤(l.getD i aFh).unit∧(l.getD i aFh).unit≤(y.us.length:Int)-1)∧(1≤(l.getD i aFh).kind∧(l.getD i aFh).kind≤2))&&(decide (i=0)||befB (l.getD (i-1) aFh) (l.getD i aFh))
noncomputable def taskE (y:Yr) (l:List Tsk):Int:=if yearE y≠0 then yearE y else if 60<l.length then 2 else if allN (tskB y l) l.length=true then 0 else 122
structure YOk (y:Yr):Prop where
 kept:keptE y.pl y.ps y.xs [] y.prs=0
 yr:yrI y
 many:y.us.length≤6
 un:∀ k,k<y.us.length→untB y.ps y.us k=true
section
variable {y:Yr} {l:List Tsk} {i k:Nat} {ps:List Psg} {us:List Unt}
theorem pI (h:keptE y.pl y.ps y.xs [] y.prs≠0):yearE y=keptE y.pl y.ps y.xs [] y.prs:=by unfold yearE;rw [if_pos h]
theorem qX (h:keptE y.pl y.ps y.xs [] y.prs=0) (h1:¬ yrI y):yearE y=120:=by unfold yearE;rw [if_neg (by omega),if_pos h1]
theorem wK (h:keptE y.pl y.ps y.xs [] y.prs=0) (h1:yrI y) (h2:6<y.us.length):yearE y=2:=by unfold yearE;rw [if_neg (by omega),if_neg (fun h=>h h1),if_pos h2]
theorem wL (h:keptE y.pl y.ps y.xs [] y.prs=0) (h1:yrI y) (h2:¬ 6<y.us.length) (hk:k<y.us.length) (h3:untB y.ps y.us k=false):yearE y=121:=by
 unfold yearE;rw [if_neg (by omega),if_neg (fun h=>h h1),if_neg h2,if_neg]
 rw [bI];intro h4;rw [h4 k hk] at h3;cases h3
theorem Di (h:keptE y.pl y.ps y.xs [] y.prs=0) (h1:yrI y) (h2:¬ 6<y.us.length) (h3:allN (untB y.ps y.us) y.us.length=true):yearE y=0:=by
 unfold yearE;rw [if_neg (by omega),if_neg (fun h=>h h1),if_neg h2,if_pos h3]
theorem qY (h:yearE y=0):YOk y:=by
  unfold yearE at h
  split at h
  · omega
  · split at h
    · cases h
    · split at h
      · cases h
      · split at h
        · rename_i h1 h2 h3 h4
          exact ⟨by omega,Classical.not_not.1 h2,by omega,bI.1 h4⟩
        · cases h
theorem wM (h:yearE y≠0):taskE y l=yearE y:=by unfold taskE;rw [if_pos h]
theorem wN (h:yearE y=0) (h1:60<l.length):taskE y l=2:=by unfold taskE;rw [if_neg (by omega),if_pos h1]
theorem gR (h:yearE y=0) (h1:¬ 60<l.length) (hi:i<l.length) (h2:tskB y l i=false):taskE y l=122:=by
 unfold taskE;rw [if_neg (by omega),if_neg h1,if_neg]
 rw [bI];intro h4;rw [h4 i hi] at h2;cases h2
theorem Dj (h:yearE y=0) (h1:¬ 60<l.length) (h2:allN (tskB y l) l.length=true):taskE y l=0:=by unfold taskE;rw [if_neg (by omega),if_neg h1,if_pos h2]
theorem Bb (h:taskE y l=0):yearE y=0∧l.length≤60∧∀ k,k<l.length→tskB y l k=true:=by
  unfold taskE at h
  split at h
  · omega
  · split at h
    · cases h
    · split at h
      · rename_i h1 h2 h3
        exact ⟨by omega,by omega,bI.1 h3⟩
      · cases h
theorem Sc (h:tskB y l i=true):(0≤(l.getD i aFh).day∧(l.getD i aFh).day≤y.days-1)∧(0≤(l.getD i aFh).unit∧(l.getD i aFh).unit≤(y.us.length:Int)-1)∧(1≤(l.getD i aFh).kind∧(l.getD i aFh).kind≤2):=by
 unfold tskB at h
 rw [Bool.and_eq_true] at h;exact of_decide_eq_true h.1
theorem Mb {m:Int}:freeM ps us i m=true↔(∃ k,k<ps.length∧0≤(ps.getD k aFf).mach∧(ps.getD k aFf).mach=m)∧∀ k,k<i→(us.getD k aFg).mach≠m:=by
  unfold freeM freeN
  rw [Bool.and_eq_true,Bool.not_eq_true',←Bool.not_eq_true,bI,bI];constructor
  · rintro ⟨h1,h2⟩
    refine ⟨Classical.byContradiction fun h3=>h1 fun k hk=>?_,fun k hk=>?_⟩
    · rw [Bool.not_eq_true',←Bool.not_eq_true,Bool.and_eq_true,decide_eq_true_eq,decide_eq_true_eq]
      exact fun h4=>h3 ⟨k,hk,h4⟩
    · have:=h2 k hk
      rw [Bool.not_eq_true'] at this;exact of_decide_eq_false this
  · rintro ⟨⟨k,hk,h1⟩,h2⟩
    refine ⟨fun h3=>?_,fun k hk=>by rw [decide_eq_false (h2 k hk)];rfl⟩
    have:=h3 k hk
    rw [decide_eq_true h1.1,decide_eq_true h1.2] at this;cases this
structure UntOk (ps:List Psg) (us:List Unt) (u:Unt) (i:Nat):Prop where
 free:freeM ps us i u.mach=true
 i:untI u
 wear:wearE u.part u.uses=0
theorem wO {u:Unt}:untU ps us i u=true↔UntOk ps us u i:=by
 unfold untU
 rw [Bool.and_eq_true,Bool.and_eq_true,decide_eq_true_eq,decide_eq_true_eq];exact ⟨fun h=>⟨h.1,h.2.1,h.2.2⟩,fun h=>⟨h.free,h.i,h.wear⟩⟩
theorem lZ:untB ps us i=true↔UntOk ps us (us.getD i aFg) i:=wO
theorem Dk {u:Unt} (h:¬ UntOk ps us u i):untU ps us i u=false:=by rw [←Bool.not_eq_true,wO];exact h
def macP (ps:List Psg) (us:List Unt) (n i:Nat) (h:Int→Option Value):Prop:=∀ m,(h m).getD (.bool false) = .bool (freeN ps us n i m)
theorem Mc:macP ps us 0 0 (fun _=>none):=fun m=>rfl
theorem Dl {n:Nat} {m:Int}:freeN ps us (n+1) 0 m=(freeN ps us n 0 m||(decide (0≤(ps.getD n aFf).mach)&&decide ((ps.getD n aFf).mach=m))):=by
 unfold freeN
 simp only [allN,Bool.and_true,Bool.not_and,Bool.not_not,Bool.not_or]
theorem Wz {n:Nat} (hd:∀ j,j<n→0≤(ps.getD n aFf).mach→(ps.getD j aFf).mach≠(ps.getD n aFf).mach) (hn:∀ j,j<n→(ps.getD n aFf).mach<0→(ps.getD j aFf).mach=(ps.getD n aFf).mach→(ps.getD j aFf).mach<0) :
    ∀ h,macP ps us n 0 h→macP ps us (n+1) 0 (fun k'=>if k'=(ps.getD n aFf).mach then some (.bool (decide (0≤(ps.getD n aFf).mach))) else h k'):=fun h hh m=>by
  dsimp only;rw [Dl];by_cases e:m=(ps.getD n aFf).mach
  · subst e
    rw [if_pos rfl,decide_eq_true (p:=(ps.getD n aFf).mach=(ps.getD n aFf).mach) rfl,Bool.and_true];by_cases h0:0≤(ps.getD n aFf).mach
    · rw [decide_eq_true h0,Bool.or_true];rfl
    · rw [decide_eq_false h0,Bool.or_false]
      have:freeN ps us n 0 (ps.getD n aFf).mach=false:=by
        unfold freeN
        rw [Bool.and_eq_false_iff];left;rw [Bool.not_eq_false',bI];intro k hk;rw [Bool.not_eq_true',Bool.and_eq_false_iff,decide_eq_false_iff_not,decide_eq_false_iff_not];by_cases e2:(ps.getD k aFf).mach=(ps.getD n aFf).mach
        · left;omega
        · exact .inr e2
      rw [this];rfl
  · rw [if_neg e,decide_eq_false (p:=(ps.getD n aFf).mach=m) (fun h=>e h.symm),Bool.and_false,Bool.or_false]
    exact hh m
theorem Xa {i:Nat}:∀ h,macP ps us ps.length i h→macP ps us ps.length (i+1) (fun k'=>if k'=(us.getD i aFg).mach then some (.bool false) else h k'):=fun h hh m=>by
  dsimp only
  have e0:freeN ps us ps.length (i+1) m=(freeN ps us ps.length i m&&!decide ((us.getD i aFg).mach=m)):=by
    unfold freeN
    show (_&&(allN _ i&&_))=_
    rw [Bool.and_assoc]
  rw [e0];by_cases e:m=(us.getD i aFg).mach
  · subst e
    rw [if_pos rfl,decide_eq_true rfl,Bool.not_true,Bool.and_false];rfl
  · rw [if_neg e,decide_eq_false (fun h=>e h.symm),Bool.not_false,Bool.and_true]
    exact hh m
theorem Dm (h:¬ UntOk ps us (us.getD i aFg) i):untB ps us i=false:=by rw [←Bool.not_eq_true,lZ];exact h
end
def bsum (f:Nat→Bool):Nat→Int
 | 0=>0
 | n+1=>bsum f n+if f n=true then 2^n else 0
theorem qZ (n:Nat):(0:Int)<2^n:=Int.pow_pos (by decide)
theorem uB (f:Nat→Bool):∀ n,0≤bsum f n∧bsum f n<2^n:=by
  intro n;induction n with
  | zero=>exact ⟨Int.le_refl 0,(by decide:(0:Int)<2^0)⟩
  | succ n ih=>
    have h:=qZ n
    rw [bsum,Int.pow_succ];split <;> omega
theorem Xb {x:Int} {n:Nat} (h0:0≤x) (h1:x<2^n):x/2^n%2=0∧(x+2^n)/2^n%2=1:=by
 have hp:=qZ n
 have e1:x/2^n=0:=Int.ediv_eq_zero_of_lt h0 h1
 refine ⟨by rw [e1];rfl,?_⟩
 have e2:(x+2^n)/2^n=x/2^n+1:=by
  have:=Int.add_mul_ediv_right x 1 (show (2:Int)^n≠0 by omega)
  rw [Int.one_mul] at this;exact this
 rw [e2,e1];rfl
theorem Xc {x:Int} {n d:Nat} (hd:d<n):(x+2^n)/2^d%2=x/2^d%2:=by
 have hp:=qZ d
 have e:(2:Int)^n=(2^(n-d-1)*2)*2^d:=by
  rw [←Int.pow_succ,←Int.pow_add];congr 1;omega
 rw [e,Int.add_mul_ediv_right _ _ (by omega)];omega
theorem wP {f:Nat→Bool}:∀ {n d:Nat},d<n→bsum f n/2^d%2=if f d=true then 1 else 0:=by
  intro n;induction n with
  | zero=>intro d h;omega
  | succ n ih=>
    intro d hd;have hb:=uB f n;rw [bsum];by_cases e:d=n
    · subst e
      have h:=Xb hb.1 hb.2
      split
      · exact h.2
      · rw [Int.add_zero];exact h.1
    · split
      · rw [Xc (by omega)];exact ih (by omega)
      · rw [Int.add_zero];exact ih (by omega)
theorem Iy {f:Nat→Bool} {n d:Nat} (h:n≤d):bsum f n/2^d%2=0:=by
 have hb:=uB f n
 have hp:(2:Int)^n≤2^d:=by
  have h1:2^n≤2^d:=Nat.pow_le_pow_right (by decide) h
  exact_mod_cast h1
 rw [Int.ediv_eq_zero_of_lt hb.1 (by omega)];rfl
theorem yN (f:Nat→Bool) {n:Nat} (h:n≤39):0≤bsum f n∧bsum f n<2^40:=by
 have hb:=uB f n
 have hp:(2:Int)^n≤2^39:=by
  have h1:2^n≤2^39:=Nat.pow_le_pow_right (by decide) h
  exact_mod_cast h1
 omega
theorem Gu {d:Nat} (h:d≤39):i64ok (1*2^((d:Nat):Int).toNat):=by
 have hp:(2:Int)^d≤2^39:=by
  have h1:2^d≤2^39:=Nat.pow_le_pow_right (by decide) h
  exact_mod_cast h1
 have h0:=qZ d
 rw [Int.toNat_natCast];unfold i64ok;omega
theorem Sd {f:Nat→Bool} {n:Nat} (h:f n=true):bsum f n+2^((n:Nat):Int).toNat=bsum f (n+1):=by rw [bsum,if_pos h];rfl
theorem Se {f:Nat→Bool} {n:Nat} (h:f n=false):bsum f n=bsum f (n+1):=by rw [bsum,if_neg (by rw [h];simp),Int.add_zero]
theorem pJ {f g:Nat→Bool}:∀ {n:Nat},(∀ i,i<n→f i=g i)→bsum f n=bsum g n:=by
 intro n;induction n with
 | zero=>intro _;rfl
 | succ n ih=>intro h;rw [bsum,bsum,ih fun i hi=>h i (by omega),h n (by omega)]
theorem Xd {m k:Nat} (hm:m<2^40) (hk:k<40) (h:m/2^k%2=0):IntKind.i64.wrap ((BitVec.ofInt 64 (m:Int) ||| BitVec.ofInt 64 ((2^k:Nat):Int)).toNat:Int)=((m+2^k:Nat):Int):=by
 have hp:2^k≤2^39:=Nat.pow_le_pow_right (by omega) (by omega)
 have e:((BitVec.ofInt 64 (m:Int) ||| BitVec.ofInt 64 ((2^k:Nat):Int)).toNat)=m+2^k:=by
  rw [BitVec.toNat_or,BitVec.ofInt_natCast,BitVec.ofInt_natCast,BitVec.toNat_ofNat,BitVec.toNat_ofNat,Nat.mod_eq_of_lt (by omega),Nat.mod_eq_of_lt (by omega)];exact Zv h
 rw [e];exact i64ok.eq ⟨by omega,by omega⟩
section
variable {P:Program} {L:List (Nat×Value)} {w:World} {d:Option Nat} {ty:TypeId} {pos:String} {af:Array Edge} {g:Option (Nat×Bool)}
theorem wQ {x y:Operand} {xt yt:TypeId} {m k:Int} (hx:ev L x=some (.int .i64 m)) (hy:ev L y=some (.int .i64 (1*2^k.toNat))) (hm:0≤m∧m<2^40) (hk:0≤k∧k<40) (h:m/2^k.toNat%2=0) :
  Does P L ⟨d,.binOp .or xt x y yt,ty,pos,af,g⟩ w (.int .i64 (m+2^k.toNat)):=fun ρ hρ=>by
 obtain ⟨m,rfl⟩:∃ n:Nat,m=n:=⟨m.toNat,by omega⟩;have e1:(1:Int)*2^k.toNat=((2^k.toNat:Nat):Int):=by push_cast;omega
 have h1:m/2^k.toNat%2=0:=by
  have h2:((m/2^k.toNat%2:Nat):Int)=0:=by push_cast;exact h
  omega
 have e2:(m:Int)+2^k.toNat=((m+2^k.toNat:Nat):Int):=by push_cast;rfl
 have e:Op.intBits .or .i64 (m:Int) (1*2^k.toNat)=pure (.int .i64 ((m:Int)+2^k.toNat)):=by
  rw [e1,e2];exact congrArg (fun z=>(pure (Value.int .i64 z):Sem Value)) (Xd (by have:=hm.2;omega) (by omega) h1)
 rw [Int.one_mul] at e;simp [execOp,hρ _ _ hx,hρ _ _ hy,eqGuard,binOp,e]
end
structure LSt where
 uses:List Use
 born:Int
 seen:Int
def insp (j:Int):Bool:=decide (j/2^(1:Int).toNat%2=1)
def renw (j:Int):Bool:=decide (j/2^(2:Int).toNat%2=1)
def useAt (u:Unt) (d born:Int):Use:=⟨d-born,u.tn,u.cl,false,0,0⟩
noncomputable def bydB (p:Part) (l:List Use):Bool:=!decide ((eQ p l Prod.snd).2=0)||decide (0≤(eQ p l Prod.snd).1)
def seenN (s:LSt) (j:Int) (d:Nat):Int:=if insp j=true then (d:Int) else s.seen
def certN (u:Unt) (s:LSt) (j:Int) (d:Nat):Bool:=decide ((d:Int)-seenN s j d≤u.every)
noncomputable def runN (u:Unt) (s:LSt) (j:Int) (d:Nat):Bool:=(decide (j=0)&&certN u s j d)&&!bydB u.part (s.uses++[useAt u d s.born])
noncomputable def stepL (u:Unt) (s:LSt) (j:Int) (d:Nat):LSt:=⟨if renw j=true then [] else if runN u s j d=true then s.uses++[useAt u d s.born] else s.uses,if renw j=true then (d:Int) else s.born,seenN s j d⟩
noncomputable def lifeS (u:Unt) (J:Nat→Int):Nat→LSt
 | 0=>⟨u.uses,-u.old,u.seen⟩
 | d+1=>stepL u (lifeS u J d) (J d) d
noncomputable def certB (u:Unt) (J:Nat→Int) (d:Nat):Bool:=certN u (lifeS u J d) (J d) d
noncomputable def runB' (u:Unt) (J:Nat→Int) (d:Nat):Bool:=runN u (lifeS u J d) (J d) d
section
variable {u:Unt} {J J':Nat→Int} {d n:Nat}
theorem Md:∀ d,(lifeS u J d).uses.length≤u.uses.length+d:=by
  intro d;induction d with
  | zero=>exact Nat.le_refl _
  | succ d ih=>
    show (stepL u (lifeS u J d) (J d) d).uses.length≤_
    unfold stepL
    dsimp only;split
    · simp
    · split
      · rw [List.length_append];show _+1≤_;omega
      · omega
theorem Gv (ho:0≤u.old∧u.old≤99980):∀ d,-99980≤(lifeS u J d).born∧(lifeS u J d).born≤d:=by
  intro d;induction d with
  | zero=>exact ⟨by show -99980 ≤ -u.old;omega,by show -u.old≤((0:Nat):Int);omega⟩
  | succ d ih=>
    show -99980≤(stepL u (lifeS u J d) (J d) d).born∧(stepL u (lifeS u J d) (J d) d).born≤((d+1:Nat):Int)
    unfold stepL
    dsimp only;split <;> omega
theorem Dn {s:LSt} {j:Int} (h : -20≤s.seen∧s.seen≤d) : -20≤seenN s j d∧seenN s j d≤d:=by
 unfold seenN
 split <;> omega
theorem Gw (ho : -20≤u.seen∧u.seen≤0):∀ d:Nat,-20≤(lifeS u J d).seen∧(lifeS u J d).seen≤d:=by
  intro d;induction d with
  | zero=>exact ⟨ho.1,ho.2⟩
  | succ d ih=>
    have h:=Dn (j:=J d) ih
    show -20≤seenN (lifeS u J d) (J d) d∧seenN (lifeS u J d) (J d) d≤((d+1:Nat):Int)
    omega
theorem tF:∀ d,(∀ i,i<d→J i=J' i)→lifeS u J d=lifeS u J' d:=by
 intro d;induction d with
 | zero=>intro _;rfl
 | succ d ih=>intro h;rw [lifeS,lifeS,ih fun i hi=>h i (by omega),h d (by omega)]
theorem Gx (h:∀ i,i≤d→J i=J' i):runB' u J d=runB' u J' d:=by unfold runB';rw [tF d fun i hi=>h i (by omega),h d (Nat.le_refl d)]
theorem Do (h:∀ i,i≤d→J i=J' i):certB u J d=certB u J' d:=by unfold certB;rw [tF d fun i hi=>h i (by omega),h d (Nat.le_refl d)]
end
theorem Xe {w w0:World} {F0:Nat→Prop} {R:List Mem} {i b ty n:Nat} {f:Nat→Value} (S:St w0 F0 R w) (hi:R[i]?=some (boxM b ty ((List.range n).map f))) (hn:n≤maxLen):St w0 F0 (R.set i (ownM ty 1 (some ⟨b,0,none⟩) n n (fun k _=>f k))) w:=by
 refine S.imp hi (fun h => .inr ⟨b,_,rfl,h,Nat.le_refl _,hn,by simp,fun k j hk hj=>?_⟩) (fun k hk=>by obtain ⟨a,e,h⟩:=hk;cases e;exact h.symm)
 have:j=0:=by omega
 subst this;simp [hk]
theorem Iz (u:Unt) (J:Nat→Int) (d:Nat) (x:Int) (h:x=seenN (lifeS u J d) (J d) d):((decide (J d=0)&&decide ((d:Int)-x≤u.every))&&!bydB u.part ((lifeS u J d).uses++[⟨(d:Int)-(lifeS u J d).born,u.tn,u.cl,false,0,0⟩]))=runB' u J d:=by subst h;rfl
theorem Dp (u:Unt) (J:Nat→Int) (d:Nat) (x:Int) (h:x=seenN (lifeS u J d) (J d) d):decide ((d:Int)-x≤u.every)=certB u J d:=by subst h;rfl
noncomputable def usesN (u:Unt) (J:Nat→Int) (d:Nat):List Use:=if runB' u J d=true then (lifeS u J d).uses++[useAt u d (lifeS u J d).born] else (lifeS u J d).uses
theorem aBu {u:Unt} {J:Nat→Int} {d:Nat} {x:Int} (h:renw (J d)=true) (hx:x=seenN (lifeS u J d) (J d) d):(⟨[],(d:Int),x⟩:LSt)=lifeS u J (d+1):=by
 subst hx;show _=stepL u (lifeS u J d) (J d) d;unfold stepL;simp only [h,if_true]
theorem aBv {u:Unt} {J:Nat→Int} {d:Nat} {x:Int} (h:renw (J d)=false) (hx:x=seenN (lifeS u J d) (J d) d):(⟨usesN u J d,(lifeS u J d).born,x⟩:LSt)=lifeS u J (d+1):=by
 subst hx;show _=stepL u (lifeS u J d) (J d) d;unfold stepL usesN;simp only [h,Bool.false_eq_true,if_false];rfl
theorem Ja {u:Unt} {J:Nat→Int} {d:Nat} (h:runB' u J d=true):usesN u J d=(lifeS u J d).uses++[useAt u d (lifeS u J d).born]:=if_pos h
theorem Bc {u:Unt} {J:Nat→Int} {d:Nat} (h:runB' u J d=false):usesN u J d=(lifeS u J d).uses:=if_neg (by rw [h];simp)
def hasT (l:List Tsk) (d u k:Int):Bool:=l.any fun t=>decide (t.day=d∧t.unit=u∧t.kind=k)
def jobV (l:List Tsk) (u d:Int):Int:=(if hasT l d u 1=true then 2 else 0)+(if hasT l d u 2=true then 4 else 0)
theorem Me {l:List Tsk} {u d:Int}:renw (jobV l u d)=hasT l d u 2:=by
 unfold renw jobV
 cases hasT l d u 1 <;> cases hasT l d u 2 <;> decide
theorem Mf {l:List Tsk} {u d:Int}:decide (jobV l u d=0)=(!hasT l d u 1&&!hasT l d u 2):=by
 unfold jobV
 cases hasT l d u 1 <;> cases hasT l d u 2 <;> decide
theorem Xf (l:List Tsk) (u d:Int):0≤jobV l u d∧jobV l u d≤6:=by
 unfold jobV
 cases hasT l d u 1 <;> cases hasT l d u 2 <;> decide
theorem Dq (l m:List Tsk) (d u k:Int):hasT (l++m) d u k=(hasT l d u k||hasT m d u k):=by unfold hasT;rw [List.any_append]
def jobF (l:List Tsk) (u:Nat):Nat→Int:=fun d=>jobV l u d
noncomputable def runsY (y:Yr) (l:List Tsk) (i d:Nat):Bool:=runB' (y.us.getD i aFg) (jobF l i) d
noncomputable def outY (y:Yr) (l:List Tsk) (d:Nat):Nat→Int
 | 0=>0
 | i+1=>outY y l d i+if runsY y l i d=true then 0 else 2^(y.us.getD i aFg).mach.toNat
def frzM (B:Nat→Prop) (wz:World):Mem where
 fp:=B
 holds:=fun w=>∀ k,B k→w.heap[k]?=wz.heap[k]?
 stable:=fun _ _ h h' k hk=>(h k hk).trans (h' k hk)
def RdF (w0:World) (F0 B:Nat→Prop) (wz:World) (sz:Nat) (A:Option Addr) (n:Nat) (cell:Nat→Nat→Value):Prop:=
 0<n→∃ b o,A=some ⟨b,o,none⟩∧((b<w0.heap.size∧¬ F0 b∧∀ k j,k<n→j<sz→w0.cell? ⟨b,o+k*sz+j,none⟩=some (cell k j))∨(B b∧b<wz.heap.size∧∀ k j,k<n→j<sz→wz.cell? ⟨b,o+k*sz+j,none⟩=some (cell k j)))
section
variable {w w0 wz:World} {F0 B:Nat→Prop} {R:List Mem} {sz n c i:Nat} {A:Option Addr} {cell:Nat→Nat→Value} {e:TypeId}
theorem RdF.base (h:InS w0 F0 sz A n cell):RdF w0 F0 B wz sz A n cell:=fun hn=>by
 obtain ⟨b,o,e,h1,h2,h3⟩:=h hn;exact ⟨b,o,e,.inl ⟨h1,h2,h3⟩⟩
theorem RdF.nil:RdF w0 F0 B wz sz A 0 cell:=fun hn=>absurd hn (Nat.lt_irrefl 0)
theorem RdF.now (h:RdF w0 F0 B wz sz A n cell) (S:St w0 F0 R w) (hi:R[i]?=some (frzM B wz)):InS w noF sz A n cell:=fun hn=>by
  obtain ⟨b,o,e,h⟩:=h hn;rcases h with ⟨h1,h2,h3⟩|⟨h1,h2,h3⟩
  · refine ⟨b,o,e,Nat.lt_of_lt_of_le h1 S.size,fun h=>h,fun k j hk hj=>?_⟩
    rw [←h3 k j hk hj];exact World.cell?_of_block (w:=w0) (S.ro b h1 h2)
  · refine ⟨b,o,e,(S.inn _ (List.mem_of_getElem? hi) b h1).1,fun h=>h,fun k j hk hj=>?_⟩
    rw [←h3 k j hk hj];exact World.cell?_of_block (w:=wz) (S.holds hi b h1)
theorem St.frz0 (S:St w0 F0 R w):St w0 F0 (frzM noF w::R) w:=S.new (Keeps.refl _ _) (fun _ h=>h.elim) (fun _ h=>h.elim)
theorem RdF.grow {B':Nat→Prop} (h:RdF w0 F0 B wz sz A n cell) (S:St w0 F0 R w) (hi:R[i]?=some (frzM B wz)) (hB:∀ k,B k→B' k):RdF w0 F0 B' w sz A n cell:=fun hn=>by
  obtain ⟨b,o,e,h⟩:=h hn;rcases h with h|⟨h1,h2,h3⟩
  · exact ⟨b,o,e,.inl h⟩
  · refine ⟨b,o,e,.inr ⟨hB b h1,(S.inn _ (List.mem_of_getElem? hi) b h1).1,fun k j hk hj=>?_⟩⟩
    rw [←h3 k j hk hj];exact World.cell?_of_block (w:=wz) (S.holds hi b h1)
theorem St.freeze (S:St w0 F0 (ownM e sz A n c cell::R) w) (hi:R[i]?=some (frzM B wz)) :
    ∃ B',St w0 F0 (R.set i (frzM B' w)) w∧RdF w0 F0 B' w sz A n cell∧∀ sz' A' n' cell',RdF w0 F0 B wz sz' A' n' cell'→RdF w0 F0 B' w sz' A' n' cell':=by
  refine ⟨fun k=>B k∨(ownM e sz A n c cell).fp k,S.merge (i:=i) hi (fun _ _=>rfl) (fun k h=>h.symm),fun hn=>?_,fun sz' A' n' cell' h=>h.grow S (i:=i+1) (by simpa using hi) fun _ h => .inl h⟩
  have hown:=S.holds (i:=0) rfl
  rcases hown with ⟨_,h,_⟩|⟨b,cs,rfl,hb,h1,h2,h3,h4⟩
  · omega
  · refine ⟨b,0,rfl,.inr ⟨.inr ⟨_,rfl,rfl⟩,eI hb,fun k j hk hj=>?_⟩⟩
    rw [←h4 k j hk hj,Nat.zero_add];exact cell_of_row w b (k*sz+j) cs e (0,0) hb
end
section
variable {P:Program} {ops:Array Oper} {w w0:World} {F0:Nat→Prop} {R:List Mem} {Q:Exit→Act→World→Prop} {rest:List Oper} {N:FN} {L:List (Nat×Value)} {a:Act} {ty:TypeId} {pos:String} {af:Array Edge}
theorem rB {d t e sz by_ n c m c':Nat} {x y:Operand} {zs:List Value} {A B:Option Addr} {cell cell':Nat→Nat→Value} (H:Fr N L a) (hd:Nat.blt d N.n=true) (S:St w0 F0 R w) (ht:SlT P t e) (hs:Sz P e sz) (hz:Zero P e zs) (hby:Bytes P e by_) (hzs:Nat.beq zs.length sz=true) (hpos:Nat.blt 0 sz=true)
    (hx:ev L x=some (.slice A n c)) (hy:ev L y=some (.slice B m c')) (hA:InS w noF sz A n cell) (hn:A=none→n=0∧c=0) (hfull:c<n+m) (hm:0<m) (hB:InS w noF sz B m cell') (hone:∀ k j,k<m→j<sz→(cell' k j).oneCell'=true)
    (hlen:(n+m)*by_≤140737488355328) (hlen2:n+m≤9223372036854775807)
    (k:∀ A' c1 w' a',St w0 F0 (ownM e sz A' (n+m) c1 (capp n cell cell')::R) w'→Fr N ((d,.slice A' (n+m) c1)::L) a'→wpList P ops Q rest a' w') :
    wpList P ops Q (⟨some d,.call ⟨.builtin .append,#[x,y],#[t,t]⟩,ty,pos,af,none⟩::rest) a w:=by
  have hpos':0<sz:=by simpa using hpos
  have hzs':zs.length=sz:=Nat.eq_of_beq_eq_true hzs
  have hflat:∀ (q:Nat) (C:Option Addr) (cl:Nat→Nat→Value),InS w noF sz C q cl→∀ b,C=some b→∀ (j:Nat) u,(flat sz q cl)[j]?=some u→w.cell? (b.add j)=some u:=by
    intro q C cl h b hb j u hu
    have hjl:j<q*sz:=by
      have:=(List.getElem?_eq_some_iff.1 hu).1
      simpa [flat] using this
    have hq0:0<q:=by
      rcases Nat.eq_zero_or_pos q with h0|h0
      · subst h0;omega
      · exact h0
    obtain ⟨b',o,hC,_,_,hc⟩:=h hq0;rw [hb] at hC;injection hC with hC;subst hC;rw [fN];have hk:j/sz<q:=(Nat.div_lt_iff_lt_mul hpos').2 hjl;have hj:j%sz<sz:=Nat.mod_lt _ hpos';have he:j/sz*sz+j%sz=j:=by rw [Nat.mul_comm];exact Nat.div_add_mod j sz
    have h1:=hc _ _ hk hj
    have h2:=kK (cell:=cl) hk hj
    rw [he,hu,Option.some.injEq] at h2;rw [Nat.add_assoc,he] at h1;rw [h1,h2]
  unfold Zero at hz
  unfold Sz at hs
  unfold Bytes at hby
  cases hi:P.info? e with
  | none=>rw [hi] at hz;simp at hz
  | some i=>
    rw [hi] at hz hs hby;simp at hz hs hby;obtain ⟨z,hz1,hz2⟩:=hz;have hzsz:z.cells.size=sz:=by rw [←hzs',←hz2];simp
    obtain ⟨bb,bo,hBe,_⟩:=hB hm
    have hone':∀ u ∈ flat sz m cell',u.oneCell'=true:=by
      intro u hu;simp only [flat,List.mem_map,List.mem_range] at hu;obtain ⟨q,hq,rfl⟩:=hu;exact hone _ _ ((Nat.div_lt_iff_lt_mul hpos').2 hq) (Nat.mod_lt _ hpos')
    refine wpList_append_grows (w:=w) rfl x y t rfl e i z sz by_ ht hi hz1 hs hby hzsz hpos' A n c (flat sz n cell) (H.eval hx) hn (by simp [flat]) (hflat n A cell hA) ⟨bb,bo,none⟩ m c' (flat sz m cell') (by rw [H.eval hy,hBe]) (by simp [flat]) (fun j u hu=>hflat m B cell' hB ⟨bb,bo,none⟩ hBe j u hu) hone' hfull (by simp only [maxLen];omega) hlen ?_;intro v' w' hown hgrow
    have hfl:∀ k j,k<n+m→j<sz→(flat sz n cell++flat sz m cell')[k*sz+j]?=some (capp n cell cell' k j):=by
      intro k j hk hj;have hl:(flat sz n cell).length=n*sz:=by simp [flat]
      unfold capp
      by_cases hkn:k<n
      · rw [if_pos hkn]
        have hlt:k*sz+j<n*sz:=by
          have:(k+1)*sz≤n*sz:=Nat.mul_le_mul_right _ (by omega)
          rw [Nat.add_mul] at this;omega
        rw [List.getElem?_append_left (by omega)];exact kK hkn hj
      · rw [if_neg hkn]
        have hge:n*sz≤k*sz:=Nat.mul_le_mul_right _ (by omega)
        rw [List.getElem?_append_right (by omega),hl];have:k*sz+j-n*sz=(k-n)*sz+j:=by rw [Nat.sub_mul];omega
        rw [this];exact kK (by omega) hj
    have hown0:w'.ownsRow 0 e sz v' (n+m) (flat sz n cell++flat sz m cell'):=⟨hown.1,hown.2.imp (fun h=>h) fun ⟨g,cap,cur,h1,h2,h3⟩=>⟨g,cap,cur,h1,Nat.zero_le _,h3⟩⟩
    obtain ⟨A',c1,rfl,h6,h7⟩:=yW (cell:=capp n cell cell') hown0 hfl;refine k A' c1 w' _ (S.new ((Keeps.of_grown hgrow).mono fun k hk=>by cases hk) h6 ?_) (H.put _ hd);rintro q ⟨aa,rfl,rfl⟩;rcases hown.2 with ⟨h,_⟩|⟨g,cap,cur,h,h1,h2,_⟩
    · cases h
    · injection h with h _ _
      injection h with h
      subst h;exact ⟨h1,eI h2⟩
end
theorem tG {P:Program} {L:List (Nat×Value)} {w:World} {d:Option Nat} {ty:TypeId} {pos:String} {af:Array Edge} {g:Option (Nat×Bool)} {t e sz:Nat} {x y z:Operand} {A:Option Addr} {n c hi:Nat} {k1 k2:IntKind} (ht:SlT P t e) (hs:Sz P e sz) (hx:ev L x=some (.slice A n c)) (hy:ev L y=some (.int k1 (hi:Int))) (hz:ev L z=some (.int k2 (hi:Int))) (h:hi≤c) :
    Does P L ⟨d,.slice t x none (some y) (some z),ty,pos,af,g⟩ w (.slice A hi hi):=fun ρ hρ=>by
  have hb:(Instr.sliceBounds true n c none (some (.int k1 (hi:Int))) (some (.int k2 (hi:Int)))).run P w = .ok (0,hi,hi) w:=by
    simp [Instr.sliceBounds,Instr.sliceBound,asIntOf,h]
  have e1:(Instr.sliceAt t (.slice A n c) none (some (.int k1 (hi:Int))) (some (.int k2 (hi:Int)))).run P w = .ok (.slice A hi hi) w:=by
    unfold Instr.sliceAt
    simp only [Sem.run_bind,bS ht,Result.andThen_ok,Instr.slice,hb,hs.run,Sem.run_pure]
    have e0:(if hi=0 then A else A.map (·.add (0*sz)))=A:=by
      split
      · rfl
      · cases A with
        | none=>rfl
        | some ad=>simp [Addr.add]
    rw [e0];rfl
  simp [execOp,hρ _ _ hx,hρ _ _ hy,hρ _ _ hz,e1]
section
variable {w w0:World} {F0:Nat→Prop} {R:List Mem} {i b:Nat} {κ:Type} [DecidableEq κ] {enc:κ→Value} {Φ Φ':(κ→Option Value)→Prop}
theorem aEr (S:St w0 F0 R w) (hi:R[i]?=some (mapK enc b Φ)):∃ h0,Φ h0∧St w0 F0 (R.set i (mapK enc b (fun h=>h=h0))) w:=by
 obtain ⟨es,ck,l,h1,h2,h3,h4,h5⟩:=S.holds hi;exact ⟨getL l,h5,S.imp hi (fun _=>⟨es,ck,l,h1,h2,h3,h4,rfl⟩) (fun _ h=>h)⟩
theorem aEs (S:St w0 F0 R w) (hi:R[i]?=some (mapK enc b Φ)) (h:∀ g,Φ g→Φ' g):St w0 F0 (R.set i (mapK enc b Φ')) w:=
 S.imp hi (fun ⟨es,ck,l,h1,h2,h3,h4,h5⟩=>⟨es,ck,l,h1,h2,h3,h4,h _ h5⟩) (fun _ h=>h)
theorem Dr {ty:TypeId} {cs:List Value} (S:St w0 F0 R w) (hi:R[i]?=some (boxM b ty cs)) (hn:cs.length≤maxLen):St w0 F0 (R.set i (ownM ty 1 (some ⟨b,0,none⟩) cs.length cs.length (fun k _=>cs.getD k undef))) w:=by
 refine S.imp hi (fun h => .inr ⟨b,_,rfl,h,Nat.le_refl _,hn,by simp,fun k j hk hj=>?_⟩) (fun k hk=>by obtain ⟨a,e,h⟩:=hk;cases e;exact h.symm)
 have:j=0:=by omega
 subst this;simp [hk]
theorem Xg {ty:TypeId} {n:Nat} {cell:Nat→Nat→Value} (S:St w0 F0 R w) (hi:R[i]?=some (ownM ty 1 (some ⟨b,0,none⟩) n n cell)):St w0 F0 (R.set i (boxM b ty ((List.range n).map fun k=>cell k 0))) w:=by
  refine S.imp hi (fun h=>?_) (fun k hk=>⟨_,rfl,hk.symm⟩)
  rcases h with ⟨h,_⟩|⟨b',cs,hA,hb,h1,h2,h3,h4⟩
  · cases h
  · injection hA with hA
    injection hA with hA
    subst hA;show w.heap[b]?=_;rw [hb]
    have e:cs=((List.range n).map fun k=>cell k 0).toArray:=by
      apply Array.ext
      · simp;omega
      · intro k hk1 hk2
        have hk:k<n:=by simpa using hk2
        have:=h4 k 0 hk (by omega)
        rw [Nat.mul_one,Nat.add_zero,Array.getElem?_eq_getElem hk1,Option.some.injEq] at this;rw [this];simp
    rw [e]
end
def orJ (j k:Int):Int:=if k=1 then (if j/2%2=1 then j else j+2) else (if j/4%2=1 then j else j+4)
theorem Sf {P:Program} {L:List (Nat×Value)} {w:World} {d:Option Nat} {ty:TypeId} {pos:String} {af:Array Edge} {g:Option (Nat×Bool)} {x y:Operand} {xt yt:TypeId} {j k:Int} (hx:ev L x=some (.int .i64 j)) (hy:ev L y=some (.int .i64 (1*2^k.toNat))) (hj:j=0∨j=2∨j=4∨j=6) (hk:1≤k∧k≤2) :
  Does P L ⟨d,.binOp .or xt x y yt,ty,pos,af,g⟩ w (.int .i64 (orJ j k)):=fun ρ hρ=>by
 have hk':k=1∨k=2:=by omega
 have e:Op.intBits .or .i64 j (1*2^k.toNat)=pure (.int .i64 (orJ j k)):=by
  rcases hk' with rfl|rfl <;> rcases hj with rfl|rfl|rfl|rfl <;> rfl
 simp only [execOp,hρ _ _ hx,hρ _ _ hy]
 rw [Int.one_mul] at e;simp [eqGuard,binOp,e]
theorem Mg (l:List Tsk) (u d:Int):jobV l u d=0∨jobV l u d=2∨jobV l u d=4∨jobV l u d=6:=by
 unfold jobV
 cases hasT l d u 1 <;> cases hasT l d u 2 <;> decide
theorem Sg (t:Tsk) (d u k:Int):hasT [t] d u k=decide (t.day=d∧t.unit=u∧t.kind=k):=by
 unfold hasT;simp
theorem wR {l:List Tsk} {t:Tsk} {u d:Int} (hk:1≤t.kind∧t.kind≤2):jobV (l++[t]) u d=if t.unit=u∧t.day=d then orJ (jobV l u d) t.kind else jobV l u d:=by
  have h1:=Dq l [t] d u 1
  have h2:=Dq l [t] d u 2
  rw [Sg] at h1 h2;by_cases h:t.unit=u∧t.day=d
  · rw [if_pos h]
    have hk':t.kind=1∨t.kind=2:=by omega
    unfold jobV
    rw [h1,h2];rcases hk' with e|e
    · rw [e,decide_eq_true (show t.day=d∧t.unit=u∧(1:Int)=1 from ⟨h.2,h.1,rfl⟩),decide_eq_false (show ¬ (t.day=d∧t.unit=u∧(1:Int)=2) from fun h=>by omega)]
      cases hasT l d u 1 <;> cases hasT l d u 2 <;> decide
    · rw [e,decide_eq_false (show ¬ (t.day=d∧t.unit=u∧(2:Int)=1) from fun h=>by omega),decide_eq_true (show t.day=d∧t.unit=u∧(2:Int)=2 from ⟨h.2,h.1,rfl⟩)]
      cases hasT l d u 1 <;> cases hasT l d u 2 <;> decide
  · rw [if_neg h]
    unfold jobV
    rw [h1,h2,decide_eq_false (fun h9=>h ⟨h9.2.1,h9.1⟩),decide_eq_false (fun h9=>h ⟨h9.2.1,h9.1⟩),Bool.or_false,Bool.or_false]
theorem yO {l:List Tsk} {k:Nat} (hk:k<l.length):l.take (k+1)=l.take k++[l.getD k aFh]:=by
 rw [List.take_succ_eq_append_getElem hk,List.getD_eq_getElem?_getD,List.getElem?_eq_getElem hk];rfl
def kcl (i:Nat) (J:Nat→Int) (k _j:Nat):Value:=if k=0 then .int .i64 i else .int .i64 (J (k-1))
def jobP (l:List Tsk) (n i:Nat):Nat→Int:=fun d=>jobV (l.take n) i d
theorem Sh (l:List Tsk) (i:Nat):jobP l l.length i=jobF l i:=by
 funext d;unfold jobP jobF;rw [List.take_length]
theorem Mh (l:List Tsk) (i:Nat):jobP l 0 i=fun _=>0:=by funext d;rfl
theorem Si {l:List Tsk} {i k j:Nat} (hk:k<21) (hj:j<1):(([.int .i64 (i:Int),.int .i64 0,.int .i64 0,.int .i64 0,.int .i64 0,.int .i64 0,.int .i64 0,.int .i64 0,.int .i64 0,.int .i64 0,.int .i64 0,.int .i64 0,.int .i64 0,.int .i64 0,.int .i64 0,.int .i64 0,.int .i64 0,.int .i64 0,.int .i64 0,.int .i64 0,.int .i64 0]:List Value).getD k undef)=kcl i (jobP l 0 i) k j:=by
  rw [Mh];unfold kcl;rcases Nat.eq_zero_or_pos k with e|e
  · subst e;rfl
  · rw [if_neg (by omega)]
    obtain ⟨q,rfl⟩:∃ q,k=q+1:=⟨k-1,by omega⟩;have hq:q<20:=by omega
    show ((List.replicate 20 (Value.int .i64 0)).getD q undef)=_
    rw [List.getD_eq_getElem?_getD,List.getElem?_replicate,if_pos hq];rfl
theorem Xh {k:Int} (h:1≤k∧k≤2):i64ok (1*2^k.toNat):=by
 have hk':k=1∨k=2:=by omega
 rcases hk' with rfl|rfl <;> (unfold i64ok;decide)
theorem Xi {l:List Tsk} {n i:Nat} (hn:n<l.length) (hk:1≤(l.getD n aFh).kind∧(l.getD n aFh).kind≤2) (h:¬ (l.getD n aFh).unit=(i:Int)):jobP l (n+1) i=jobP l n i:=by
 funext d
 unfold jobP
 rw [yO hn,wR hk,if_neg (fun h9=>h h9.1)]
theorem Xj {l:List Tsk} {n i d:Nat} (hn:n<l.length) (hk:1≤(l.getD n aFh).kind∧(l.getD n aFh).kind≤2) (h:(l.getD n aFh).unit=(i:Int)) (hd:(l.getD n aFh).day=(d:Int)) :
    ∀ k j,j<1→cput (kcl i (jobP l n i)) (d+1) 0 (.int .i64 (orJ (jobP l n i d) (l.getD n aFh).kind)) k j=kcl i (jobP l (n+1) i) k j:=by
  intro k j hj;have hj0:j=0:=by omega
  subst hj0;unfold cput kcl jobP;rw [yO hn];by_cases e:k=d+1
  · subst e
    rw [if_pos ⟨rfl,rfl⟩,if_neg (by omega),Nat.add_sub_cancel,wR hk,if_pos ⟨h,hd⟩]
  · rw [if_neg (fun h9=>e h9.1)]
    by_cases e0:k=0
    · rw [if_pos e0,if_pos e0]
    · rw [if_neg e0,if_neg e0,wR hk,if_neg (fun h9=>by omega)]
def keyOf (i:Nat) (J:Nat→Int):KeyN 21:=⟨(i:Int)::(List.range 20).map J,by simp⟩
noncomputable def lifeV (u:Unt) (J:Nat→Int) (n:Nat):Value := .agg [.int .i64 (bsum (runB' u J) n),.int .i64 (bsum (certB u J) n)].toArray
theorem Ds {u:Unt} {J J':Nat→Int} {n:Nat} (h:∀ d,d<n→J d=J' d):lifeV u J n=lifeV u J' n:=by
 unfold lifeV
 rw [pJ (f:=runB' u J) (g:=runB' u J') fun d hd=>Gx fun i hi=>h i (by omega),pJ (f:=certB u J) (g:=certB u J') fun d hd=>Do fun i hi=>h i (by omega)]
theorem Mi {i i':Nat} {J J':Nat→Int} (h:keyOf i J=keyOf i' J'):i=i'∧∀ d,d<20→J d=J' d:=by
 have h1:(i:Int)::(List.range 20).map J=(i':Int)::(List.range 20).map J':=congrArg Subtype.val h
 injection h1 with h2 h3
 refine ⟨by omega,fun d hd=>?_⟩
 have h4:=congrArg (fun l=>l[d]?) h3
 simp only [List.getElem?_map,List.getElem?_range hd,Option.map_some,Option.some.injEq] at h4
 exact h4
def livP (y:Yr) (h:KeyN 21→Option Value):Prop:=∀ i J v,i<y.us.length→h (keyOf i J)=some v→v=lifeV (y.us.getD i aFg) J y.days.toNat
theorem Mj {y:Yr}:livP y (fun _=>none):=fun _ _ _ _ h=>by cases h
theorem Sj {y:Yr} {i:Nat} {J:Nat→Int} {v:Value} (hd:y.days.toNat≤20) (hv:v=lifeV (y.us.getD i aFg) J y.days.toNat):∀ h,livP y h→livP y (fun k'=>if k'=keyOf i J then some v else h k'):=fun h hh i' J' v' hi' hv'=>by
  dsimp only at hv';split at hv'
  · rename_i e
    obtain ⟨e1,e2⟩:=Mi e;subst e1;rw [Option.some.injEq] at hv';rw [←hv',hv];exact Ds fun d hd'=>(e2 d (by omega)).symm
  · exact hh i' J' v' hi' hv'
noncomputable def leavB (y:Yr) (out:Int):Bool:=decide (mfv y.pl.toNat y.limit.toNat y.pe y.xs (hds out y.xs y.ps)=sumI y.pe y.pe.length)
def safP (y:Yr) (h:Int→Option Value):Prop:=∀ o v,(0≤o∧o≤4095)→h o=some v→v = .bool (leavB y o)
theorem Mk {y:Yr}:safP y (fun _=>none):=fun _ _ _ h=>by cases h
theorem Sk {y:Yr} {o:Int} {v:Value} (hv:v = .bool (leavB y o)):∀ h,safP y h→safP y (fun k'=>if k'=o then some v else h k'):=fun h hh o' v' ho' hv'=>by
 dsimp only at hv';split at hv'
 ·rename_i e;subst e;rw [Option.some.injEq] at hv';rw [←hv',hv]
 ·exact hh o' v' ho' hv'
noncomputable def prmB (y:Yr) (d out:Int) (k:Nat):Bool:=!(decide ((y.prs.getD k aFj).first≤d)&&decide (d≤(y.prs.getD k aFj).last))||decide (0≤dst y.pl.toNat y.ps out (y.help&&(y.prs.getD k aFj).helped) (y.prs.getD k aFj).to.toNat (y.prs.getD k aFj).fr.toNat)
noncomputable def keepB (y:Yr) (d out:Int):Bool:=allN (prmB y d out) y.prs.length
def kepP (y:Yr) (h:Int×Int→Option Value):Prop:=∀ d o v,(0≤o∧o≤4095)→h (d,o)=some v→v = .bool (keepB y d o)
theorem Ml {y:Yr}:kepP y (fun _=>none):=fun _ _ _ _ h=>by cases h
theorem Sl {y:Yr} {d o:Int} {v:Value} (hv:v = .bool (keepB y d o)):∀ h,kepP y h→kepP y (fun k'=>if k'=(d,o) then some v else h k'):=fun h hh d' o' v' ho' hv'=>by
 dsimp only at hv';split at hv'
 ·rename_i e;cases e;rw [Option.some.injEq] at hv';rw [←hv',hv]
 ·exact hh d' o' v' ho' hv'
theorem Sm {f g:Nat→Bool} {n:Nat} (h1:f n=false) (h2:g n=true) (h3:∀ i,i≠n→g i=f i):∀ N,bsum g N=bsum f N+if n<N then 2^n else 0:=by
  intro N;induction N with
  | zero=>rw [if_neg (by omega)];rfl
  | succ N ih=>
    rw [bsum,bsum,ih];by_cases e:N=n
    · subst e
      rw [h1,h2,if_neg (Nat.lt_irrefl N),if_pos (c:=N<N+1) (by omega)];simp
    · rw [h3 N e]
      generalize (if f N=true then (2:Int)^N else 0)=z
      by_cases h4:n<N
      · rw [if_pos h4,if_pos (c:=n<N+1) (by omega)];omega
      · rw [if_neg h4,if_neg (c:=n<N+1) (by omega)];omega
noncomputable def outM (y:Yr) (l:List Tsk) (d k m:Nat):Bool:=!allN (fun i=>!(decide ((y.us.getD i aFg).mach=(m:Int))&&!runsY y l i d)) k
section
variable {y:Yr} {l:List Tsk} {d k m:Nat}
theorem sK:outM y l d (k+1) m=(outM y l d k m||(decide ((y.us.getD k aFg).mach=(m:Int))&&!runsY y l k d)):=by
 unfold outM
 simp only [allN,Bool.not_and,Bool.not_not,Bool.not_or]
theorem Dt:outM y l d k m=true↔∃ i,i<k∧(y.us.getD i aFg).mach=(m:Int)∧runsY y l i d=false:=by
  unfold outM
  rw [Bool.not_eq_true',←Bool.not_eq_true,bI];constructor
  · intro h
    refine Classical.byContradiction fun h2=>h fun i hi=>?_
    rw [Bool.not_eq_true',←Bool.not_eq_true,Bool.and_eq_true,decide_eq_true_eq,Bool.not_eq_true'];exact fun h3=>h2 ⟨i,hi,h3⟩
  · rintro ⟨i,hi,h1,h2⟩ h
    have:=h i hi
    rw [h1,h2] at this;simp at this
theorem oK {ps:List Psg} {us:List Unt} {P:Int} {xs:List Int} (V:StV P ps xs) {u:Unt} {i:Nat} (h:UntOk ps us u i):(0≤u.mach∧u.mach≤11)∧∀ j,j<i→(us.getD j aFg).mach≠u.mach:=by
 obtain ⟨⟨k,hk,h1,h2⟩,h3⟩:=Mb.1 h.free;have h4:=dL.1 (V.pas k hk);exact ⟨by omega,h3⟩
theorem YOk.V (h:YOk y):StV y.pl y.ps y.xs:=jW (oE (lV h.kept).1).1
theorem wS (h:YOk y) (hk:k<y.us.length):outM y l d k (y.us.getD k aFg).mach.toNat=false:=by
 have h1:=oK h.V (lZ.1 (h.un k hk))
 rw [←Bool.not_eq_true,Dt];rintro ⟨i,hi,h2,_⟩;have:=h1.2 i hi;omega
theorem yP (h:YOk y):∀ k,k≤y.us.length→outY y l d k=bsum (outM y l d k) 12:=by
  intro k;induction k with
  | zero=>
    intro _
    have:∀ N,bsum (outM y l d 0) N=0:=fun N=>by
      induction N with
      | zero=>rfl
      | succ N ih=>rw [bsum,ih];rfl
    rw [this];rfl
  | succ k ih=>
    intro hk;have h1:=oK h.V (lZ.1 (h.un k (by omega)));have hf:=wS (l:=l) (d:=d) h (show k<y.us.length by omega);rw [outY,ih (by omega)];by_cases hr:runsY y l k d=true
    · rw [if_pos hr,Int.add_zero]
      refine pJ fun i _=>?_
      rw [sK,hr];simp
    · rw [if_neg hr]
      rw [Bool.not_eq_true] at hr;rw [Sm (g:=outM y l d (k+1)) (n:=(y.us.getD k aFg).mach.toNat) hf (by rw [sK,hr,decide_eq_true (by omega)];simp) (fun i hi=>by rw [sK,decide_eq_false (by omega)];simp),if_pos (by omega)]
theorem uC (h:YOk y) (hk:k≤y.us.length):0≤outY y l d k∧outY y l d k≤4095:=by
 rw [yP h k hk];have:=uB (outM y l d k) 12;have e:(2:Int)^12=4096:=by decide
 omega
theorem Du (h:YOk y) (hk:k≤y.us.length) (hm:m<12):outY y l d k/2^m%2=if outM y l d k m=true then 1 else 0:=by
 rw [yP h k hk];exact wP hm
theorem Gy (h:YOk y) (hk:k<y.us.length):outY y l d k/2^(y.us.getD k aFg).mach.toNat%2=0:=by
 have h1:=oK h.V (lZ.1 (h.un k hk))
 rw [Du h (by omega) (by omega),wS h hk];rfl
theorem Sn (hr:runsY y l k d=true):outY y l d (k+1)=outY y l d k:=by rw [outY,if_pos hr,Int.add_zero]
theorem So (hr:runsY y l k d=false):outY y l d (k+1)=outY y l d k+2^(y.us.getD k aFg).mach.toNat:=by rw [outY,if_neg (by rw [hr];simp)]
noncomputable def setsQ (y:Yr) (l:List Tsk) (k q:Nat) (d _j:Nat):Value := .int .i64 (if d<q then outY y l d (k+1) else outY y l d k)
noncomputable def setsV (y:Yr) (l:List Tsk) (k:Nat) (d _j:Nat):Value := .int .i64 (outY y l d k)
theorem Gz:setsQ y l k 0=setsV y l k:=by
 funext d j;unfold setsQ setsV;rw [if_neg (by omega)]
theorem Mm {n:Nat}:∀ d j,d<n→j<1→setsQ y l k n d j=setsV y l (k+1) d j:=fun d j hd _=>by
 unfold setsQ setsV;rw [if_pos hd]
theorem Mn {q:Nat} (hr:runsY y l k q=true):setsQ y l k q=setsQ y l k (q+1):=by
  funext d j
  unfold setsQ
  by_cases e:d=q
  · subst e;rw [if_neg (by omega),if_pos (by omega),Sn hr]
  · by_cases h:d<q
    · rw [if_pos h,if_pos (by omega)]
    · rw [if_neg h,if_neg (by omega)]
theorem Mo {q:Nat} {v:Int} (hr:runsY y l k q=false) (hv:v=outY y l q k+2^(y.us.getD k aFg).mach.toNat):∀ d j,j<1→cput (setsQ y l k q) q 0 (.int .i64 v) d j=setsQ y l k (q+1) d j:=fun d j hj=>by
  subst hv;have:j=0:=by omega
  subst this;unfold cput setsQ;by_cases e:d=q
  · subst e;rw [if_pos ⟨rfl,rfl⟩,if_pos (by omega),So hr]
  · rw [if_neg (fun h=>e h.1)]
    by_cases h:d<q
    · rw [if_pos h,if_pos (by omega)]
    · rw [if_neg h,if_neg (by omega)]
theorem aDv {n q:Nat} (hq:q<n) (h:bsum (runB' (y.us.getD k aFg) (jobF l k)) n/2^((q:Nat):Int).toNat%2=0):runsY y l k q=false:=by
 rw [Int.toNat_natCast,wP hq] at h;rw [←Bool.not_eq_true];intro h2;have h3:runB' (y.us.getD k aFg) (jobF l k) q=true:=h2;rw [if_pos h3] at h;cases h
theorem aDw {n q:Nat} (hq:q<n) (h:¬ bsum (runB' (y.us.getD k aFg) (jobF l k)) n/2^((q:Nat):Int).toNat%2=0):runsY y l k q=true:=by
 rw [Int.toNat_natCast,wP hq] at h;refine Classical.byContradiction fun h2=>h ?_
 rw [if_neg (show ¬ runB' (y.us.getD k aFg) (jobF l k) q=true from h2)]
theorem YOk.leave (h:YOk y) {out:Int} (ho:0≤out∧out≤4095):dO y.pl y.ps y.xs out y.pe y.limit=0:=by
 have h1:=(oE (lV h.kept).1).1
 have h2:=h.yr
 unfold yrI at h2
 unfold dO
 rw [if_neg (by omega),if_pos];have h4:eN y.pl y.pe=true:=by unfold eN;rw [decide_eq_true h2.2.1.1,Bool.and_true,bI];exact fun k hk=>decide_eq_true (h2.2.1.2 k hk)
 rw [h4,decide_eq_true ho,decide_eq_true h2.2.2.1];rfl
end
def spS (y:Yr) (d k:Nat):Nat→Int
 | 0=>0
 | n+1=>spS y d k n+if (y.sps.getD n aFo).day=(d:Int)∧(y.sps.getD n aFo).kind=(k:Int) then (y.sps.getD n aFo).many else 0
def tkK (y:Yr) (l:List Tsk) (n:Nat):Int:=(y.us.getD (l.getD n aFh).unit.toNat aFg).kind
def ovS (y:Yr) (l:List Tsk) (d k:Nat):Nat→Int
 | 0=>0
 | n+1=>ovS y l d k n+if ((l.getD n aFh).day=(d:Int)∧(l.getD n aFh).kind=2)∧tkK y l n=(k:Int) then 1 else 0
def stk (y:Yr) (l:List Tsk) (k:Nat):Nat→Int
 | 0=>0
 | d+1=>stk y l k d+spS y d k y.sps.length-ovS y l d k l.length
def jbS (l:List Tsk) (d:Nat):Nat→Int
 | 0=>0
 | n+1=>jbS l d n+if (l.getD n aFh).day=(d:Int) then 1 else 0
def shS (y:Yr) (l:List Tsk) (d:Nat):Nat→Bool
 | 0=>false
 | n+1=>shS y l d n||(decide ((l.getD n aFh).day=(d:Int)∧(l.getD n aFh).kind=2)&&decide (stk y l (tkK y l n).toNat d+spS y d (tkK y l n).toNat y.sps.length-ovS y l d (tkK y l n).toNat (n+1)<0))
noncomputable def eM (y:Yr) (l:List Tsk) (d:Nat):Int:=if y.crew<jbS l d l.length then 1 else if shS y l d l.length=true then 2 else if keepB y d (outY y l d y.us.length)=false then 3 else if leavB y (outY y l d y.us.length)=false then 4 else 0
noncomputable def wT (y:Yr) (l:List Tsk):Nat:=fstB (fun d=>decide (eM y l d≠0)) y.days.toNat
noncomputable def fL (y:Yr) (l:List Tsk):Int×Int:=if wT y l<y.days.toNat then ((wT y l:Int),eM y l (wT y l)) else (0,0)
section
variable {y:Yr} {l:List Tsk} {d k n m:Nat}
theorem rD (hd:d<y.days.toNat) (h:∀ q,q<d→eM y l q=0) (hf:eM y l d≠0):fL y l=((d:Int),eM y l d):=by
 have e:wT y l=d:=pB (f:=fun d=>decide (eM y l d≠0)) (fun q hq=>decide_eq_false (fun h9=>h9 (h q hq))) (decide_eq_true hf) hd
 unfold fL
 rw [e,if_pos hd]
theorem wU (h:∀ q,q<y.days.toNat→eM y l q=0):fL y l=(0,0):=by
 have e:wT y l=y.days.toNat:=jX (fun q hq=>decide_eq_false (fun h9=>h9 (h q hq)))
 unfold fL
 rw [e,if_neg (Nat.lt_irrefl _)]
theorem Bd (h:YOk y):∀ n,n≤y.sps.length→0≤spS y d k n∧spS y d k n≤8*(n:Int):=by
  intro n;induction n with
  | zero=>intro _;exact ⟨Int.le_refl 0,Int.le_refl 0⟩
  | succ n ih=>
    intro hn;have h1:=ih (by omega);have h2:=h.yr.2.2.2.2.2 n (by omega);unfold sprB at h2;have h3:=of_decide_eq_true h2;rw [spS];split <;> omega
theorem Ha:∀ n,0≤ovS y l d k n∧ovS y l d k n≤n:=by
 intro n;induction n with
 | zero=>exact ⟨Int.le_refl 0,Int.le_refl 0⟩
 | succ n ih=>rw [ovS];split <;> omega
theorem aBw:∀ n,0≤jbS l d n∧jbS l d n≤n:=by
 intro n;induction n with
 | zero=>exact ⟨Int.le_refl 0,Int.le_refl 0⟩
 | succ n ih=>rw [jbS];split <;> omega
theorem Sp (h:YOk y) (hl:l.length≤1000):∀ d:Nat,-1000*(d:Int)≤stk y l k d∧stk y l k d≤160*d:=by
  intro d;induction d with
  | zero=>exact ⟨Int.le_refl 0,Int.le_refl 0⟩
  | succ d ih=>
    have h1:=Bd (d:=d) (k:=k) h y.sps.length (Nat.le_refl _)
    have h2:=Ha (y:=y) (l:=l) (d:=d) (k:=k) l.length
    have h3:=h.yr.2.2.2.2.1
    rw [stk];omega
def stkC (y:Yr) (l:List Tsk) (d n m k _j:Nat):Value := .int .i64 (stk y l k d+spS y d k n-ovS y l d k m)
theorem Mp:stkC y l d y.sps.length l.length=stkC y l (d+1) 0 0:=by
 funext k j;unfold stkC;rw [stk];simp [spS,ovS]
theorem Xk {x:Int} {q:Nat} (hd:(y.sps.getD n aFo).day=(d:Int)) (hq:(y.sps.getD n aFo).kind=(q:Int)) (hx:x=stk y l q d+spS y d q n-ovS y l d q 0+(y.sps.getD n aFo).many):∀ k j,j<1→cput (stkC y l d n 0) q 0 (.int .i64 x) k j=stkC y l d (n+1) 0 k j:=fun k j hj=>by
 subst hx;have:j=0:=by omega
 subst this;unfold cput stkC;by_cases e:k=q
 ·subst e;rw [if_pos ⟨rfl,rfl⟩,spS,if_pos ⟨hd,hq⟩];congr 1;omega
 ·rw [if_neg (fun h=>e h.1),spS,if_neg (fun h=>e (by omega))];congr 1;omega
theorem Xl (hd:¬ (y.sps.getD n aFo).day=(d:Int)):stkC y l d n 0=stkC y l d (n+1) 0:=by
 funext k j;unfold stkC;rw [spS,if_neg (fun h=>hd h.1)];congr 1;omega
theorem Xm {x:Int} {q:Nat} (hd:(l.getD m aFh).day=(d:Int)∧(l.getD m aFh).kind=2) (hq:tkK y l m=(q:Int)) (hx:x=stk y l q d+spS y d q n-ovS y l d q m-1):∀ k j,j<1→cput (stkC y l d n m) q 0 (.int .i64 x) k j=stkC y l d n (m+1) k j:=fun k j hj=>by
 subst hx;have:j=0:=by omega
 subst this;unfold cput stkC;by_cases e:k=q
 ·subst e;rw [if_pos ⟨rfl,rfl⟩,ovS,if_pos ⟨hd,hq⟩];congr 1;omega
 ·rw [if_neg (fun h=>e h.1),ovS,if_neg (fun h=>e (by omega))];congr 1;omega
theorem Dv (hd:¬ ((l.getD m aFh).day=(d:Int)∧(l.getD m aFh).kind=2)):stkC y l d n m=stkC y l d n (m+1):=by
 funext k j;unfold stkC;rw [ovS,if_neg (fun h=>hd h.1)];congr 1;omega
theorem aDx {b:Int} (hb:b=jbS l d m) (hd:¬ (l.getD m aFh).day=(d:Int)):b=jbS l d (m+1):=by rw [jbS,if_neg hd,hb];omega
theorem Sq {b:Int} (hb:b=jbS l d m) (hd:(l.getD m aFh).day=(d:Int)):b+1=jbS l d (m+1):=by rw [jbS,if_pos hd,hb]
theorem Zn {s:Bool} (hs:s=shS y l d m) (hd:¬ ((l.getD m aFh).day=(d:Int)∧(l.getD m aFh).kind=2)):s=shS y l d (m+1):=by
 rw [shS,decide_eq_false hd,Bool.false_and,Bool.or_false,hs]
theorem aBx {s:Bool} {q:Nat} {x:Int} (hs:s=shS y l d m) (hd:(l.getD m aFh).day=(d:Int)∧(l.getD m aFh).kind=2) (hq:tkK y l m=(q:Int)) (hx:x=stk y l q d+spS y d q y.sps.length-ovS y l d q (m+1)):(s||decide (x<0))=shS y l d (m+1):=by
 subst hx;rw [shS,decide_eq_true hd,Bool.true_and,hs,show (tkK y l m).toNat=q by omega]
theorem Jc (h:y.crew<jbS l d l.length):eM y l d=1:=by unfold eM;rw [if_pos h]
theorem Jd (h:¬ y.crew<jbS l d l.length) (h2:shS y l d l.length=true):eM y l d=2:=by unfold eM;rw [if_neg h,if_pos h2]
theorem Je (h:¬ y.crew<jbS l d l.length) (h2:shS y l d l.length=false) (h3:keepB y d (outY y l d y.us.length)=false):eM y l d=3:=by unfold eM;rw [if_neg h,if_neg (by rw [h2];simp),if_pos h3]
theorem Jf (h:¬ y.crew<jbS l d l.length) (h2:shS y l d l.length=false) (h3:keepB y d (outY y l d y.us.length)=true) (h4:leavB y (outY y l d y.us.length)=false):eM y l d=4:=by unfold eM;rw [if_neg h,if_neg (by rw [h2];simp),if_neg (by rw [h3];simp),if_pos h4]
theorem Jg (h:¬ y.crew<jbS l d l.length) (h2:shS y l d l.length=false) (h3:keepB y d (outY y l d y.us.length)=true) (h4:leavB y (outY y l d y.us.length)=true):eM y l d=0:=by unfold eM;rw [if_neg h,if_neg (by rw [h2];simp),if_neg (by rw [h3];simp),if_neg (by rw [h4];simp)]
theorem Sr (h:∀ q,q<d→eM y l q=0) (h2:eM y l d=0):∀ q,q<d+1→eM y l q=0:=fun q hq=>by
 by_cases e:q=d
 ·subst e;exact h2
 ·exact h q (by omega)
end
def filtN (f:Nat→Bool):Nat→List Nat
 | 0=>[]
 | n+1=>if f n=true then filtN f n++[n] else filtN f n
section
variable {y:Yr} {l:List Tsk} {u:Int} {f:Nat→Bool} {n:Nat}
theorem yQ:∀ n,(filtN f n).length≤n:=by
  intro n;induction n with
  | zero=>exact Nat.le_refl _
  | succ n ih=>
    rw [filtN];split
    · rw [List.length_append];show _+1≤_;omega
    · omega
theorem aBy (h:f n=true):filtN f n++[n]=filtN f (n+1):=by rw [filtN,if_pos h]
theorem aBz (h:f n=false):filtN f n=filtN f (n+1):=by rw [filtN,if_neg (by rw [h];simp)]
end
section
variable {y:Yr} {l:List Tsk} {i d k:Nat} {f:Nat→Bool}
theorem rE {g:Nat→Bool}:∀ {n q},q<fstB g n→g q=false:=by
  intro n;induction n with
  | zero=>intro q hq;exact absurd hq (Nat.not_lt_zero q)
  | succ n ih=>
    intro q hq;rw [fstB] at hq;split at hq
    · exact ih hq
    · rename_i h1
      have h2:=Gb (f:=g) n
      split at hq
      · exact ih (by omega)
      · rename_i h3
        by_cases e:q=n
        · subst e;simpa using h3
        · exact ih (by omega)
theorem Xn {g:Nat→Bool}:∀ {n},fstB g n<n→g (fstB g n)=true:=by
  intro n;induction n with
  | zero=>intro h;exact absurd h (Nat.not_lt_zero _)
  | succ n ih=>
    intro h;rw [fstB] at h ⊢;split
    · rename_i h1;exact ih h1
    · rename_i h1
      rw [if_neg h1] at h;split
      · rename_i h2;exact h2
      · rename_i h2;rw [if_neg h2] at h;omega
end
end
section
theorem Mq {p:Part} {l:List Use} (h:PartOk p l):cK p l=0:=by
 unfold cK
 rw [if_pos h.hdr,if_pos h.rates,if_pos h.len,if_pos h.uses]
end
section
def NoW (x:Use):Prop:=x.turns=0∧x.cls=0∧x.meas=false∧x.lo=0∧x.hi=0
section
variable {p:Part} {l:List Use}
theorem wV {x:Use} (h2:p.rates=[(0,0)]) (h:NoW x):cZ p x=(0,0):=by
 unfold cZ
 rw [h.1,h2,Int.zero_mul,Int.zero_mul]
theorem yR (h2:p.rates=[(0,0)]) (hu:∀ k,k<l.length→NoW (l.getD k aFi)):∀ k,k≤l.length→fwd p l k=(0,0):=by
  intro k;induction k with
  | zero=>intro _;rfl
  | succ k ih=>
    intro hk;have h:=hu k (by omega);rw [fwd,ih (by omega),wV h2 h,if_neg (by rw [h.2.2.1];simp)];rfl
theorem Mr (h2:p.rates=[(0,0)]) (hu:∀ k,k<l.length→NoW (l.getD k aFi)):∀ d,d<l.length→bkw p l d=(0,0):=by
  intro d;induction d with
  | zero=>intro _;exact yR h2 hu _ (Nat.le_refl _)
  | succ d ih=>
    intro hd;rw [bkw,ih (by omega),wV h2 (hu _ (by omega)),yR h2 hu _ (by omega)];rfl
theorem Mt (hu:∀ k,k<l.length→NoW (l.getD k aFi)):∀ k,k≤l.length→sumT l k=0:=by
 intro k;induction k with
 | zero=>intro _;rfl
 | succ k ih=>intro hk;rw [sumT,ih (by omega),(hu k (by omega)).1];rfl
theorem Mu (h1:fV p=true) (h2:p.rates=[(0,0)]) (ha:p.age=100000) (hl:l.length≤40) (hu:∀ k,k<l.length→NoW (l.getD k aFi)) (hd:∀ k,k<l.length→prevD l k≤(l.getD k aFi).day∧(l.getD k aFi).day≤100000):bydB p l=false:=by
 have hP:PartOk p l:=⟨h1,by rw [h2];rfl,hl,by
  unfold fX
  rw [List.all_eq_true];intro k hk;rw [List.mem_range] at hk;have h:=hu k hk;have h3:=hd k hk;unfold useOk;rw [decide_eq_true_eq,h.1,h.2.1,h.2.2.2.1,h.2.2.2.2,h2];refine ⟨⟨h3.1,h3.2,by decide,by decide,by decide,by show (0:Int)≤((1:Nat):Int)-1;decide⟩,by decide,by decide,by decide,fun _=>⟨rfl,rfl⟩⟩⟩
 have hA:IsAt p l l.length:=⟨Nat.le_refl _,fun k hk h=>(by rw [(hu k hk).2.2.1] at h;cases h),fun h=>absurd h (Nat.lt_irrefl _)⟩
 have hb:eQ p l Prod.snd=(-1,0):=by
  rw [aDu _ (wJ (Mq hP) hA)]
  have h4:lJ (fun k=>wornB p l k (Prod.snd (cA p l k))) l.length = -1:=tE fun k hk=>by
   have h5:=h1
   unfold fV at h5
   rw [decide_eq_true_eq] at h5;have h6:=hd k hk;unfold wornB cA;rw [Mr h2 hu _ (by omega),Mt hu _ (by omega),ha,Bool.or_eq_false_iff,Bool.or_eq_false_iff,decide_eq_false_iff_not,decide_eq_false_iff_not,decide_eq_false_iff_not];refine ⟨⟨by omega,by omega⟩,?_⟩;show ¬ p.worn*1000000<0;omega
  rw [h4]
 unfold bydB
 rw [hb];decide
end
def calU (m:Int) (A:Option Addr) (c:Nat):Unt:=⟨m,20,0,[(0,0)],A,c,0,0,100000,[],none,0,0,0,0,0⟩
def calUs (ms:List Int) (RA:Nat→Option Addr) (rc:Nat→Nat):List Unt:=(List.range ms.length).map fun k=>calU (ms.getD k 0) (RA k) (rc k)
section
variable {ms:List Int} {RA:Nat→Option Addr} {rc:Nat→Nat} {i k d:Nat} {J:Nat→Int} {m:Int} {A:Option Addr} {c:Nat}
theorem calUs_len:(calUs ms RA rc).length=ms.length:=by unfold calUs;rw [List.length_map,List.length_range]
theorem gS (h:k<ms.length):(calUs ms RA rc).getD k aFg=calU (ms.getD k 0) (RA k) (rc k):=by
 unfold calUs
 rw [List.getD_eq_getElem?_getD,List.getElem?_map,List.getElem?_range h];rfl
theorem Ss (hJ:∀ q,q<21→renw (J q)=false):∀ d:Nat,d≤20→(lifeS (calU m A c) J d).born=0∧0≤(lifeS (calU m A c) J d).seen∧(lifeS (calU m A c) J d).uses.length≤d∧(∀ k,k<(lifeS (calU m A c) J d).uses.length→NoW ((lifeS (calU m A c) J d).uses.getD k aFi)∧prevD (lifeS (calU m A c) J d).uses k≤((lifeS (calU m A c) J d).uses.getD k aFi).day∧((lifeS (calU m A c) J d).uses.getD k aFi).day<d):=by
  intro d;induction d with
  | zero=>intro _;exact ⟨rfl,Int.le_refl 0,Nat.zero_le _,fun k hk=>absurd hk (Nat.not_lt_zero k)⟩
  | succ d ih =>
    intro hd;obtain ⟨h1,h2,h3,h4⟩:=ih (by omega);have e:lifeS (calU m A c) J (d+1)=stepL (calU m A c) (lifeS (calU m A c) J d) (J d) d:=rfl;rw [e];unfold stepL;rw [hJ d (by omega),if_neg (c:=false=true) (by simp),if_neg (c:=false=true) (by simp)];refine ⟨h1,?_,?_,?_⟩
    · show 0≤seenN _ _ _
      unfold seenN
      split <;> omega
    · dsimp only
      split
      · rw [List.length_append];show _+1≤_;omega
      · omega
    · dsimp only
      intro k hk;by_cases hr:runN (calU m A c) (lifeS (calU m A c) J d) (J d) d=true
      · rw [if_pos hr] at hk ⊢
        rw [List.length_append] at hk;have hk':k<(lifeS (calU m A c) J d).uses.length+1:=hk;by_cases e2:k<(lifeS (calU m A c) J d).uses.length
        · have eg:((lifeS (calU m A c) J d).uses++[useAt (calU m A c) d (lifeS (calU m A c) J d).born]).getD k aFi=(lifeS (calU m A c) J d).uses.getD k aFi:=by
            rw [List.getD_eq_getElem?_getD,List.getElem?_append_left e2,←List.getD_eq_getElem?_getD]
          have ep:prevD ((lifeS (calU m A c) J d).uses++[useAt (calU m A c) d (lifeS (calU m A c) J d).born]) k=prevD (lifeS (calU m A c) J d).uses k:=by
            match k,e2 with
            | 0,_=>rfl
            | k+1,e2=>
              show (List.getD _ k aFi).day=(List.getD _ k aFi).day
              rw [List.getD_eq_getElem?_getD,List.getElem?_append_left (by omega),←List.getD_eq_getElem?_getD]
          rw [eg,ep];have:=h4 k e2;exact ⟨this.1,this.2.1,by have:=this.2.2;omega⟩
        · have e3:k=(lifeS (calU m A c) J d).uses.length:=by omega
          have eg:((lifeS (calU m A c) J d).uses++[useAt (calU m A c) d (lifeS (calU m A c) J d).born]).getD k aFi=useAt (calU m A c) d (lifeS (calU m A c) J d).born:=by
            rw [List.getD_eq_getElem?_getD,List.getElem?_append_right (by omega),e3,Nat.sub_self];rfl
          have ed:(useAt (calU m A c) d (lifeS (calU m A c) J d).born).day=(d:Int):=by
            show (d:Int)-_=_
            rw [h1];omega
          rw [eg,ed];refine ⟨⟨rfl,rfl,rfl,rfl,rfl⟩,?_,by omega⟩;match k,e3 with
          | 0,_=>exact Int.natCast_nonneg d
          | k+1,e3=>
            show (List.getD _ k aFi).day≤_
            rw [List.getD_eq_getElem?_getD,List.getElem?_append_left (by omega),←List.getD_eq_getElem?_getD];have:=(h4 k (by omega)).2.2;omega
      · rw [if_neg hr] at hk ⊢
        have:=h4 k hk
        exact ⟨this.1,this.2.1,by have:=this.2.2;omega⟩
theorem Su (hJ:∀ q,q<21→renw (J q)=false) (hd:d<20):runB' (calU m A c) J d=decide (J d=0):=by
  obtain ⟨h1,h2,h3,h4⟩:=Ss (m:=m) (A:=A) (c:=c) hJ d (by omega);unfold runB' runN
  have hc:certN (calU m A c) (lifeS (calU m A c) J d) (J d) d=true:=by
    unfold certN seenN
    rw [decide_eq_true_eq];show (d:Int)-_≤20;split <;> omega
  have hb : bydB (calU m A c).part ((lifeS (calU m A c) J d).uses++[useAt (calU m A c) d (lifeS (calU m A c) J d).born])=false:=by
    have hget:∀ k,k<((lifeS (calU m A c) J d).uses++[useAt (calU m A c) d (lifeS (calU m A c) J d).born]).length→k<(lifeS (calU m A c) J d).uses.length∧((lifeS (calU m A c) J d).uses++[useAt (calU m A c) d (lifeS (calU m A c) J d).born]).getD k aFi=(lifeS (calU m A c) J d).uses.getD k aFi∨k=(lifeS (calU m A c) J d).uses.length∧((lifeS (calU m A c) J d).uses++[useAt (calU m A c) d (lifeS (calU m A c) J d).born]).getD k aFi=useAt (calU m A c) d (lifeS (calU m A c) J d).born:=by
      intro k hk;rw [List.length_append] at hk;have hk':k<(lifeS (calU m A c) J d).uses.length+1:=hk;by_cases e:k<(lifeS (calU m A c) J d).uses.length
      · exact .inl ⟨e,by rw [List.getD_eq_getElem?_getD,List.getElem?_append_left e,←List.getD_eq_getElem?_getD]⟩
      · have e3:k=(lifeS (calU m A c) J d).uses.length:=by omega
        exact .inr ⟨e3,by rw [List.getD_eq_getElem?_getD,List.getElem?_append_right (by omega),e3,Nat.sub_self];rfl⟩
    have ed:(useAt (calU m A c) d (lifeS (calU m A c) J d).born).day=(d:Int):=by
      show (d:Int)-_=_
      rw [h1];omega
    refine Mu (by show fV ⟨[(0,0)],0,0,100000⟩=true;decide) G G (by rw [List.length_append];show _+1≤40;omega) (fun k hk=>?_) (fun k hk=>?_)
    · rcases hget k hk with ⟨h,e⟩|⟨_,e⟩
      · rw [e];exact (h4 k h).1
      · rw [e];exact ⟨rfl,rfl,rfl,rfl,rfl⟩
    · have hpv:k≤(lifeS (calU m A c) J d).uses.length→prevD ((lifeS (calU m A c) J d).uses++[useAt (calU m A c) d (lifeS (calU m A c) J d).born]) k=prevD (lifeS (calU m A c) J d).uses k:=fun hk=>by
        match k,hk with
        | 0,_=>rfl
        | k+1,hk=>
          show (List.getD _ k aFi).day=(List.getD _ k aFi).day
          rw [List.getD_eq_getElem?_getD,List.getElem?_append_left (by omega),←List.getD_eq_getElem?_getD]
      rcases hget k hk with ⟨h,e⟩|⟨h,e⟩
      · rw [e,hpv (by omega)]
        have:=h4 k h
        exact ⟨this.2.1,by have:=this.2.2;omega⟩
      · rw [e,ed,hpv (by omega)]
        refine ⟨?_,by omega⟩
        match k,h with
        | 0,_=>exact Int.natCast_nonneg d
        | k+1,h=>
          show (List.getD _ k aFi).day≤_
          have:=(h4 k (by omega)).2.2
          omega
  rw [hc,hb,Bool.and_true,Bool.not_false,Bool.and_true]
end
def posI (ms:List Int) (m:Int):Int:=if fstB (fun k=>decide (ms.getD k 0=m)) ms.length<ms.length then ((fstB (fun k=>decide (ms.getD k 0=m)) ms.length:Nat):Int) else -1
def calM (js:List Jq):Nat→List Int
 | 0=>[]
 | n+1=>if posI (calM js n) (js.getD n Jq.zero).mach<0 then calM js n++[(js.getD n Jq.zero).mach] else calM js n
section
variable {ms:List Int} {m x:Int} {js:List Jq} {k n q:Nat}
theorem mO:(posI ms m = -1∧∀ k,k<ms.length→ms.getD k 0≠m)∨∃ k,k<ms.length∧posI ms m=(k:Int)∧ms.getD k 0=m:=by
  unfold posI
  by_cases h:fstB (fun k=>decide (ms.getD k 0=m)) ms.length<ms.length
  · rw [if_pos h]
    exact .inr ⟨_,h,rfl,of_decide_eq_true (Xn h)⟩
  · rw [if_neg h]
    refine .inl ⟨rfl,fun k hk e=>?_⟩
    have h2:fstB (fun k=>decide (ms.getD k 0=m)) ms.length=ms.length:=by have:=Gb (f:=fun k=>decide (ms.getD k 0=m)) ms.length;omega
    have h3:=rE (g:=fun k=>decide (ms.getD k 0=m)) (n:=ms.length) (q:=k) (by omega)
    rw [decide_eq_true e] at h3;cases h3
theorem Xo : -1≤posI ms m∧posI ms m<ms.length:=by
 rcases mO (ms:=ms) (m:=m) with ⟨h,_⟩|⟨k,h1,h2,_⟩ <;> omega
theorem nR (h:k<ms.length):(ms++[x]).getD k 0=ms.getD k 0:=by rw [List.getD_eq_getElem?_getD,List.getElem?_append_left h,←List.getD_eq_getElem?_getD]
theorem wW:(ms++[x]).getD ms.length 0=x:=by rw [List.getD_eq_getElem?_getD,List.getElem?_append_right (Nat.le_refl _),Nat.sub_self];rfl
theorem yS (h:posI ms x<0):posI (ms++[x]) m=if m=x then (ms.length:Int) else posI ms m:=by
  have hx:∀ k,k<ms.length→ms.getD k 0≠x:=by
    rcases mO (ms:=ms) (m:=x) with ⟨_,h2⟩|⟨k,_,h2,_⟩
    · exact h2
    · omega
  have hlen:(ms++[x]).length=ms.length+1:=by rw [List.length_append];rfl
  by_cases e:m=x
  · rw [if_pos e]
    subst e;have h2:fstB (fun k=>decide ((ms++[m]).getD k 0=m)) (ms++[m]).length=ms.length:=pB (f:=fun k=>decide ((ms++[m]).getD k 0=m)) (t:=ms.length) (fun q hq=>decide_eq_false (by rw [nR hq];exact hx q hq)) (decide_eq_true (wW (ms:=ms) (x:=m))) (by omega);unfold posI;rw [h2,if_pos (by omega)]
  · rw [if_neg e]
    rcases mO (ms:=ms) (m:=m) with ⟨h1,h2⟩|⟨k,h1,h2,h3⟩
    · rw [h1]
      have h4:fstB (fun k=>decide ((ms++[x]).getD k 0=m)) (ms++[x]).length=(ms++[x]).length:=jX fun q hq=>decide_eq_false (by
        by_cases hq2:q<ms.length
        · rw [nR hq2];exact h2 q hq2
        · have:q=ms.length:=by omega
          subst this;rw [wW];exact fun h=>e h.symm)
      unfold posI
      rw [h4,if_neg (by omega)]
    · have hf:fstB (fun k=>decide (ms.getD k 0=m)) ms.length=k:=by
        unfold posI at h2
        by_cases h5:fstB (fun k=>decide (ms.getD k 0=m)) ms.length<ms.length
        · rw [if_pos h5] at h2;omega
        · rw [if_neg h5] at h2;omega
      have h4:fstB (fun k=>decide ((ms++[x]).getD k 0=m)) (ms++[x]).length=k:=pB (fun q hq=>by
        rw [nR (by omega)];exact rE (g:=fun k=>decide (ms.getD k 0=m)) (n:=ms.length) (by omega)) (decide_eq_true (by rw [nR h1];exact h3)) (by omega)
      unfold posI
      rw [h4,if_pos (by omega),hf,if_pos h1]
theorem wX:∀ n,(calM js n).length≤n:=by
  intro n;induction n with
  | zero=>exact Nat.le_refl _
  | succ n ih=>
    rw [calM];split
    · rw [List.length_append];show _+1≤_;omega
    · omega
theorem Dw:∀ n,∀ q,q<n→∃ k,k<(calM js n).length∧posI (calM js n) (js.getD q Jq.zero).mach=(k:Int)∧(calM js n).getD k 0=(js.getD q Jq.zero).mach:=by
  intro n;induction n with
  | zero=>intro q hq;exact absurd hq (Nat.not_lt_zero q)
  | succ n ih=>
    intro q hq
    have hne:0≤posI (calM js (n+1)) (js.getD q Jq.zero).mach:=by
      rw [calM];by_cases h:posI (calM js n) (js.getD n Jq.zero).mach<0
      · rw [if_pos h,yS h]
        by_cases e:(js.getD q Jq.zero).mach=(js.getD n Jq.zero).mach
        · rw [if_pos e];omega
        · rw [if_neg e]
          have hqn:q<n:=by
            have:q≠n:=fun h9=>e (by rw [h9])
            omega
          obtain ⟨k,_,h3,_⟩:=ih q hqn;omega
      · rw [if_neg h]
        by_cases e:q=n
        · subst e;omega
        · obtain ⟨k,_,h3,_⟩:=ih q (by omega)
          omega
    rcases mO (ms:=calM js (n+1)) (m:=(js.getD q Jq.zero).mach) with ⟨h1,_⟩|⟨k,h1,h2,h3⟩
    · omega
    · exact ⟨k,h1,h2,h3⟩
end
section
variable (ms:List Int) (js:List Jq) (st:List Int)
def calB (d u i:Nat):Bool:=decide (posI ms (js.getD i Jq.zero).mach=(u:Int))&&atB js st (d:Int) i
def calI (d u:Nat):Nat→List Tsk
 | 0=>[]
 | i+1=>if calB ms js st d u i=true then calI d u i++[⟨(d:Int),(u:Int),1⟩] else calI d u i
def calV (d:Nat):Nat→List Tsk
 | 0=>[]
 | u+1=>calV d u++calI ms js st d u js.length
def calL:Nat→List Tsk
 | 0=>[]
 | d+1=>calL d++calV ms js st d ms.length
end
section
variable {ms:List Int} {js:List Jq} {st:List Int} {t:Tsk} {d u i n:Nat}
theorem Dx:∀ i,(calI ms js st d u i).length≤i:=by
  intro i;induction i with
  | zero=>exact Nat.le_refl _
  | succ i ih=>
    rw [calI];split
    · rw [List.length_append];show _+1≤_;omega
    · omega
theorem Dy:∀ u,(calV ms js st d u).length≤u*js.length:=by
  intro u;induction u with
  | zero=>exact Nat.zero_le _
  | succ u ih=>
    rw [calV,List.length_append,Nat.add_mul];have:=Dx (ms:=ms) (js:=js) (st:=st) (d:=d) (u:=u) js.length;omega
theorem Sv:∀ d,(calL ms js st d).length≤d*(ms.length*js.length):=by
  intro d;induction d with
  | zero=>exact Nat.zero_le _
  | succ d ih=>
    rw [calL,List.length_append,Nat.add_mul];have:=Dy (ms:=ms) (js:=js) (st:=st) (d:=d) ms.length;omega
theorem Sw:∀ i,t ∈ calI ms js st d u i↔t=⟨(d:Int),(u:Int),1⟩∧∃ q,q<i∧calB ms js st d u q=true:=by
  intro i;induction i with
  | zero=>exact ⟨(fun h=>by cases h),fun ⟨_,q,h,_⟩=>absurd h (Nat.not_lt_zero q)⟩
  | succ i ih=>
    rw [calI];by_cases h:calB ms js st d u i=true
    · rw [if_pos h,List.mem_append,ih,List.mem_singleton]
      constructor
      · rintro (⟨h1,q,h2,h3⟩|h1)
        · exact ⟨h1,q,by omega,h3⟩
        · exact ⟨h1,i,by omega,h⟩
      · rintro ⟨h1,_⟩;exact .inr h1
    · rw [if_neg h,ih]
      constructor
      · rintro ⟨h1,q,h2,h3⟩;exact ⟨h1,q,by omega,h3⟩
      · rintro ⟨h1,q,h2,h3⟩
        by_cases e:q=i
        · subst e;exact absurd h3 h
        · exact ⟨h1,q,by omega,h3⟩
theorem Sx:∀ u,t ∈ calV ms js st d u↔∃ v,v<u∧t=⟨(d:Int),(v:Int),1⟩∧∃ q,q<js.length∧calB ms js st d v q=true:=by
  intro u;induction u with
  | zero=>exact ⟨(fun h=>by cases h),fun ⟨q,h,_⟩=>absurd h (Nat.not_lt_zero q)⟩
  | succ u ih=>
    rw [calV,List.mem_append,ih,Sw];constructor
    · rintro (⟨v,h1,h2⟩|h1)
      · exact ⟨v,by omega,h2⟩
      · exact ⟨u,by omega,h1⟩
    · rintro ⟨v,h1,h2⟩
      by_cases e:v=u
      · subst e;exact .inr h2
      · exact .inl ⟨v,by omega,h2⟩
theorem rF:∀ d,t ∈ calL ms js st d↔∃ e,e<d∧∃ v,v<ms.length∧t=⟨(e:Int),(v:Int),1⟩∧∃ q,q<js.length∧calB ms js st e v q=true:=by
  intro d;induction d with
  | zero=>exact ⟨(fun h=>by cases h),fun ⟨q,h,_⟩=>absurd h (Nat.not_lt_zero q)⟩
  | succ d ih=>
    rw [calL,List.mem_append,ih,Sx];constructor
    · rintro (⟨v,h1,h2⟩|h1)
      · exact ⟨v,by omega,h2⟩
      · exact ⟨d,by omega,h1⟩
    · rintro ⟨v,h1,h2⟩
      by_cases e:v=d
      · subst e;exact .inr h2
      · exact .inl ⟨v,by omega,h2⟩
end
section
variable {y:Yr} {js:List Jq} {st nv:List Int} {RA:Nat→Option Addr} {rc:Nat→Nat} {d i m N:Nat} {mm cr un:Int}
theorem Dz (hd:d<N) (hi:i<(calM js js.length).length):hasT (calL (calM js js.length) js st N) (d:Int) (i:Int) 1=true↔∃ q,q<js.length∧atB js st (d:Int) q=true∧posI (calM js js.length) (js.getD q Jq.zero).mach=(i:Int):=by
  unfold hasT
  rw [List.any_eq_true];constructor
  · rintro ⟨t,ht,h⟩
    obtain ⟨e,he,v,hv,rfl,q,hq,hb⟩:=(rF N).1 ht;have h2:=of_decide_eq_true h;have e1:e=d:=by have:(e:Int)=(d:Int):=h2.1;omega
    have e2:v=i:=by have:(v:Int)=(i:Int):=h2.2.1;omega
    subst e1;subst e2;unfold calB at hb;rw [Bool.and_eq_true,decide_eq_true_eq] at hb;exact ⟨q,hq,hb.2,hb.1⟩
  · rintro ⟨q,hq,h1,h2⟩
    refine ⟨⟨(d:Int),(i:Int),1⟩,(rF N).2 ⟨d,hd,i,hi,rfl,q,hq,?_⟩,decide_eq_true ⟨rfl,rfl,rfl⟩⟩
    unfold calB
    rw [h1,decide_eq_true h2];rfl
theorem yT {dd uu:Int}:hasT (calL (calM js js.length) js st N) dd uu 2=false:=by
 rw [←Bool.not_eq_true];unfold hasT;rw [List.any_eq_true];rintro ⟨t,ht,h⟩;obtain ⟨e,he,v,hv,rfl,_⟩:=(rF N).1 ht;have h2:=(of_decide_eq_true h).2.2;cases h2
theorem Ea (hu:y.us=calUs (calM js js.length) RA rc) (hi:i<(calM js js.length).length) (hd:d<20):runsY y (calL (calM js js.length) js st N) i d=!hasT (calL (calM js js.length) js st N) (d:Int) (i:Int) 1:=by
 unfold runsY
 rw [hu,gS hi,Su (fun q _=>by show renw (jobV _ _ _)=false;rw [Me];exact yT) hd];show decide (jobV _ _ _=0)=_;rw [Mf,yT];simp
theorem Sy (hu:y.us=calUs (calM js js.length) RA rc) (hd:d<N) (hd20:d<20) (hm:∀ q,q<js.length→0≤(js.getD q Jq.zero).mach):outM y (calL (calM js js.length) js st N) d y.us.length m=true↔∃ q,q<js.length∧atB js st (d:Int) q=true∧(js.getD q Jq.zero).mach.toNat=m:=by
  rw [Dt,hu,calUs_len];constructor
  · rintro ⟨i,hi,h1,h2⟩
    rw [gS hi] at h1;rw [Ea hu hi hd20,Bool.not_eq_false',Dz hd hi] at h2;obtain ⟨q,hq,ha,hp⟩:=h2;obtain ⟨k,hk,h3,h4⟩:=Dw (js:=js) js.length q hq;have:k=i:=by omega
    subst this;refine ⟨q,hq,ha,?_⟩;have h5:(calM js js.length).getD k 0=(m:Int):=h1;omega
  · rintro ⟨q,hq,ha,hp⟩
    obtain ⟨k,hk,h3,h4⟩:=Dw (js:=js) js.length q hq;refine ⟨k,hk,?_,?_⟩
    · rw [gS hk]
      show (calM js js.length).getD k 0=_
      have:=hm q hq
      omega
    · rw [Ea hu hk hd20,Bool.not_eq_false',Dz hd hk]
      exact ⟨q,hq,ha,h3⟩
theorem Ta (V:WkV mm js nv cr un) {dd:Int} {k:Nat}:∀ i,i≤js.length→((nSet js st dd i).toNat.testBit k=true↔∃ q,q<i∧atB js st dd q=true∧(js.getD q Jq.zero).mach.toNat=k):=by
  intro i;induction i with
  | zero=>
    intro _;show (0:Nat).testBit k=true↔_;rw [Nat.zero_testBit];exact ⟨(fun h=>by cases h),fun ⟨q,h,_⟩=>absurd h (Nat.not_lt_zero q)⟩
  | succ i ih=>
    intro hi;have ih:=ih (by omega);rw [nSet];by_cases h:atB js st dd i=true
    · rw [if_pos h]
      unfold lorW
      have e2:(1:Int)*2^(js.getD i Jq.zero).mach.toNat=((2^(js.getD i Jq.zero).mach.toNat:Nat):Int):=by rw [Int.one_mul];exact (Int.natCast_pow 2 _).symm
      rw [e2,Int.toNat_natCast,Int.toNat_natCast,Nat.testBit_or,Bool.or_eq_true,ih,Nat.testBit_two_pow,decide_eq_true_eq];constructor
      · rintro (⟨q,h1,h2⟩|h1)
        · exact ⟨q,by omega,h2⟩
        · exact ⟨i,by omega,h,h1⟩
      · rintro ⟨q,h1,h2,h3⟩
        by_cases e:q=i
        · subst e;exact .inr h3
        · exact .inl ⟨q,by omega,h2,h3⟩
    · rw [if_neg h,ih]
      constructor
      · rintro ⟨q,h1,h2⟩;exact ⟨q,by omega,h2⟩
      · rintro ⟨q,h1,h2,h3⟩
        by_cases e:q=i
        · subst e;exact absurd h2 h
        · exact ⟨q,by omega,h2,h3⟩
theorem Xp (hok:YOk y) (V:WkV mm js nv cr un) (hu:y.us=calUs (calM js js.length) RA rc) (hd:d<N) (hd20:d<20):outY y (calL (calM js js.length) js st N) d y.us.length=nSet js st (d:Int) js.length:=by
  have hb:=uC (l:=calL (calM js js.length) js st N) (d:=d) hok (Nat.le_refl _)
  have hs:=tZ (st:=st) (d:=(d:Int)) V js.length (Nat.le_refl _)
  have hm:∀ q,q<js.length→0≤(js.getD q Jq.zero).mach:=fun q hq=>(V.job q hq).1.1
  obtain ⟨a,ha⟩:=Int.eq_ofNat_of_zero_le hb.1;obtain ⟨b,hb'⟩:=Int.eq_ofNat_of_zero_le hs.1
  have key:a=b:=Nat.eq_of_testBit_eq fun k=>by
    have h1:b.testBit k=true↔∃ q,q<js.length∧atB js st (d:Int) q=true∧(js.getD q Jq.zero).mach.toNat=k:=by
      have:=Ta (st:=st) (dd:=(d:Int)) (k:=k) V js.length (Nat.le_refl _)
      rw [hb'] at this;exact this
    have h2:a.testBit k=true↔∃ q,q<js.length∧atB js st (d:Int) q=true∧(js.getD q Jq.zero).mach.toNat=k:=by
      by_cases hk:k<12
      · have h3:=Du (l:=calL (calM js js.length) js st N) (d:=d) hok (Nat.le_refl _) hk
        rw [ha] at h3;have e3:((a:Nat):Int)/2^k%2=((a/2^k%2:Nat):Int):=by push_cast;rfl
        rw [e3] at h3;rw [Nat.testBit_eq_decide_div_mod_eq,decide_eq_true_eq,←Sy hu hd hd20 hm];by_cases h4:outM y (calL (calM js js.length) js st N) d y.us.length k=true
        · rw [if_pos h4] at h3
          exact ⟨fun _=>h4,fun _=>by omega⟩
        · rw [if_neg h4] at h3
          exact ⟨fun h=>by omega,fun h=>absurd h h4⟩
      · have h3:a<2^k:=by
          have h5:2^12≤2^k:=Nat.pow_le_pow_right (by decide) (by omega)
          omega
        rw [Nat.testBit_lt_two_pow h3];refine ⟨(fun h=>by cases h),fun ⟨q,hq,_,hk2⟩=>?_⟩;have:=(V.job q hq).1;have:=V.mmb;omega
    rw [Bool.eq_iff_iff,h1,h2]
  rw [ha,hb',key]
end
def calP (un:Int) (p:Prm):Prm:=⟨p.fr,p.to,0,un-1,p.helped⟩
def calY (un pl:Int) (ps:List Psg) (PA:Option Addr) (pc:Nat) (xs:List Int) (XA:Option Addr) (xc:Nat) (pe:List Int) (BA:Option Addr) (bc:Nat) (lim:Int) (hlp:Bool) (prs:List Prm) (QA:Option Addr) (qc:Nat) (ms:List Int) (RA:Nat→Option Addr) (rc:Nat→Nat) (VA:Option Addr) (vc:Nat) (cr:Int):Yr:=
 { days:=un,pl:=pl,ps:=ps,PA:=PA,pc:=pc,xs:=xs,XA:=XA,xc:=xc,pe:=pe,BA:=BA,bc:=bc,limit:=lim,help:=hlp,prs:=prs.map (calP un),QA:=QA,qc:=qc,us:=calUs ms RA rc,VA:=VA,vc:=vc,crew:=cr,sps:=[],SA:=none,sc:=0 }
section
variable {ms:List Int} {RA:Nat→Option Addr} {rc:Nat→Nat} {prs:List Prm} {un m:Int} {k c:Nat} {A:Option Addr} {vs:List Value}
theorem aCa (hk:k<prs.length) (h:∀ j,j<5→vs.getD j undef=(calP un (prs.getD k aFj)).cell j):∀ j,j<5→vs.getD j undef=dX (prs.map (calP un)) k j:=fun j hj=>by
 rw [h j hj];unfold dX
 have e:(prs.map (calP un)).getD k aFj=calP un (prs.getD k aFj):=by
  rw [List.getD_eq_getElem?_getD,List.getD_eq_getElem?_getD,List.getElem?_map,List.getElem?_eq_getElem hk];rfl
 rw [e]
theorem Xq (h:∀ j,j<12→vs.getD j undef=(calU m A c).cell j):∀ k j,k<ms.length+1→j<12→capp ms.length (vcell (calUs ms RA rc)) (fun k' j=>([vs].getD k' []).getD j undef) k j=vcell (calUs (ms++[m]) (upd RA ms.length A) (upd rc ms.length c)) k j:=fun k j hk hj=>by
  have hl:(ms++[m]).length=ms.length+1:=by rw [List.length_append];rfl
  unfold capp vcell
  rw [gS (show k<(ms++[m]).length by omega)];by_cases e:k<ms.length
  · rw [if_pos e,gS e,nR e,cC _ _ (by omega),cC _ _ (by omega)]
  · have e2:k=ms.length:=by omega
    subst e2;rw [if_neg e,Nat.sub_self,wW,bQ,bQ];exact h j hj
theorem aCb (h:posI ms m<0) (h0:0≤m):∀ k j,j<1→cput (fun q _ => .int .i64 (posI ms (q:Int))) m.toNat 0 (.int .i64 (ms.length:Int)) k j = .int .i64 (posI (ms++[m]) (k:Int)):=fun k j hj=>by
 have:j=0:=by omega
 subst this;unfold cput;rw [yS h];by_cases e:k=m.toNat
 ·rw [if_pos ⟨e,rfl⟩,if_pos (by omega)]
 ·rw [if_neg (fun h9=>e h9.1),if_neg (by omega)]
end
section
variable {w w0:World} {F0:Nat→Prop} {R:List Mem} {e k c':Nat} {RA:Nat→Option Addr} {rc:Nat→Nat} {A':Option Addr} {cell' cl:Nat→Nat→Value}
theorem Tb (S:St w0 F0 (ownM e 2 A' 1 c' cell'::ragM e 2 (fun q=>q<k) RA (fun _=>1) rc (fun _=>cl)::R) w) (hc:cell'=cl):St w0 F0 (ragM e 2 (fun q=>q<k+1) (upd RA k A') (fun _=>1) (upd rc k c') (fun _=>cl)::R) w:=by
  subst hc;have S2:=aEz (i:=0) S rfl;refine aFc (i:=0) S2 rfl fun q hq=>⟨rfl,?_,rfl,?_⟩
  · by_cases e:q=k
    · subst e;exact bQ _ _ _
    · exact cC _ _ e
  · by_cases e:q=k
    · subst e;exact bQ _ _ _
    · exact cC _ _ e
end
section
variable {ms:List Int} {js:List Jq} {st:List Int} {d u i:Nat} {X:List Tsk}
theorem Xr (h:calB ms js st d u i=true):(X++calI ms js st d u i)++[⟨(d:Int),(u:Int),1⟩]=X++calI ms js st d u (i+1):=by rw [calI,if_pos h,List.append_assoc]
theorem Xs (h:calB ms js st d u i=false):X++calI ms js st d u i=X++calI ms js st d u (i+1):=by rw [calI,if_neg (by rw [h];simp)]
theorem Xu:(X++calV ms js st d u)++calI ms js st d u js.length=X++calV ms js st d (u+1):=by rw [calV,List.append_assoc]
theorem Jh (hd:d≤24) (hu:u≤6) (hi:i≤6) (hm:ms.length≤6) (hj:js.length≤6):((calL ms js st d++calV ms js st d u)++calI ms js st d u i).length≤1000:=by
 have h1:=Sv (ms:=ms) (js:=js) (st:=st) d
 have h2:=Dy (ms:=ms) (js:=js) (st:=st) (d:=d) u
 have h3:=Dx (ms:=ms) (js:=js) (st:=st) (d:=d) (u:=u) i
 have h4:ms.length*js.length≤6*6:=Nat.mul_le_mul hm hj
 have h5:d*(ms.length*js.length)≤24*(6*6):=Nat.mul_le_mul hd h4
 have h6:u*js.length≤6*6:=Nat.mul_le_mul hu hj
 rw [List.length_append,List.length_append];omega
theorem aCc {a:Int} (ha:a=(js.getD i Jq.zero).mach) (h:(posI ms a=(u:Int)∧st.getD i 0≤(d:Int))∧(d:Int)<st.getD i 0+(js.getD i Jq.zero).nights):calB ms js st d u i=true:=by
 subst ha;unfold calB atB;rw [decide_eq_true h.1.1,decide_eq_true h.1.2,decide_eq_true h.2];rfl
theorem aCd {a:Int} (ha:a=(js.getD i Jq.zero).mach) (h:¬ ((posI ms a=(u:Int)∧st.getD i 0≤(d:Int))∧(d:Int)<st.getD i 0+(js.getD i Jq.zero).nights)):calB ms js st d u i=false:=by
 subst ha;rw [←Bool.not_eq_true];unfold calB atB;rw [Bool.and_eq_true,Bool.and_eq_true,decide_eq_true_eq,decide_eq_true_eq,decide_eq_true_eq];exact fun h9=>h ⟨⟨h9.1,h9.2.1⟩,h9.2.2⟩
theorem fiveI {p:Nat→Prop} (h0:p 0) (h1:p 1) (h2:p 2) (h3:p 3) (h4:p 4):∀ j,j<5→p j:=fun j hj=>by
 match j,hj with
 | 0,_=>exact h0
 | 1,_=>exact h1
 | 2,_=>exact h2
 | 3,_=>exact h3
 | 4,_=>exact h4
theorem Ji {p:Nat→Prop} (h0:p 0) (h1:p 1) (h2:p 2) (h3:p 3) (h4:p 4) (h5:p 5) (h6:p 6) (h7:p 7) (h8:p 8) (h9:p 9) (h10:p 10) (h11:p 11):∀ j,j<12→p j:=fun j hj=>by
 match j,hj with
 | 0,_=>exact h0
 | 1,_=>exact h1
 | 2,_=>exact h2
 | 3,_=>exact h3
 | 4,_=>exact h4
 | 5,_=>exact h5
 | 6,_=>exact h6
 | 7,_=>exact h7
 | 8,_=>exact h8
 | 9,_=>exact h9
 | 10,_=>exact h10
 | 11,_=>exact h11
end
section
variable {w w0:World} {F0:Nat→Prop} {R:List Mem} {un pl:Int} {ps:List Psg} {PA:Option Addr} {pc:Nat} {xs:List Int} {XA:Option Addr} {xc:Nat} {pe:List Int} {BA:Option Addr} {bc:Nat} {lim:Int} {hlp:Bool} {prs:List Prm} {QA:Option Addr} {qc:Nat} {ms:List Int} {RA:Nat→Option Addr} {rc:Nat→Nat} {VA:Option Addr} {vc:Nat} {cr:Int} {i j k eP eU eS:Nat}
theorem Be (S:St w0 F0 R w) (hps:InS w0 F0 7 PA ps.length (pcell ps)) (hxs:InS w0 F0 1 XA xs.length (icl xs)) (hpe:InS w0 F0 1 BA pe.length (icl pe))
  (hi:R[i]?=some (ownM eP 5 QA (prs.map (calP un)).length qc (dX (prs.map (calP un))))) (hj:R[j]?=some (ownM eU 12 VA (calUs ms RA rc).length vc (vcell (calUs ms RA rc)))) (hk:R[k]?=some (ragM eS 2 (fun q=>q<(calUs ms RA rc).length) RA (fun _=>1) rc (fun _=>scell [(0,0)]))) :
  YIn w noF (calY un pl ps PA pc xs XA xc pe BA bc lim hlp prs QA qc ms RA rc VA vc cr):=
 ⟨hps.now S,hxs.now S,hpe.now S,aEi S hi,aEi S hj,InS.nil,fun q hq=>by
  have hq':q<ms.length:=by have:q<(calUs ms RA rc).length:=hq;rw [calUs_len] at this;exact this
  have e:((calY un pl ps PA pc xs XA xc pe BA bc lim hlp prs QA qc ms RA rc VA vc cr).us.getD q aFg)=calU (ms.getD q 0) (RA q) (rc q):=gS hq'
  rw [e];exact aFa S hk (p:=q) hq,fun q hq=>by
  have hq':q<ms.length:=by have:q<(calUs ms RA rc).length:=hq;rw [calUs_len] at this;exact this
  have e:((calY un pl ps PA pc xs XA xc pe BA bc lim hlp prs QA qc ms RA rc VA vc cr).us.getD q aFg)=calU (ms.getD q 0) (RA q) (rc q):=gS hq'
  rw [e];exact InS.nil⟩
theorem Jj (h1:ps.length*56≤140737488351232) (h2:xs.length*8≤140737488351232) (h3:pe.length*8≤140737488351232) (h4:prs.length≤1000) (h5:ms.length≤6):YBd (calY un pl ps PA pc xs XA xc pe BA bc lim hlp prs QA qc ms RA rc VA vc cr):=by
 have hu:∀ q,q<(calUs ms RA rc).length→(calUs ms RA rc).getD q aFg=calU (ms.getD q 0) (RA q) (rc q):=fun q hq=>gS (by rw [calUs_len] at hq;exact hq)
 refine ⟨h1,h2,h3,?_,?_,Nat.zero_le _,fun q hq=>?_,fun q hq=>?_,fun q hq=>?_⟩
 ·show (prs.map (calP un)).length*40≤_;rw [List.length_map];omega
 ·show (calUs ms RA rc).length*120≤_;rw [calUs_len];omega
 ·show ((calUs ms RA rc).getD q aFg).rates.length*16≤_;rw [hu q hq];show 1*16≤_;decide
 ·show ((calUs ms RA rc).getD q aFg).uses.length*48≤_;rw [hu q hq];show 0*48≤_;decide
 ·show ((calUs ms RA rc).getD q aFg).uses.length≤_;rw [hu q hq];exact Nat.zero_le _
end
end
section
theorem tK (rates:List (Int×Int)) (pwn ptn pag:Int) (RA:Option Addr) (rcp:Nat) (l:List Use) (A:Option Addr) (cp:Nat) (w:World) (hr:InS w noF 2 RA rates.length (scell rates)) (hrn:rates.length≤9223372036854775807) (hl:InS w noF 6 A l.length (ucell l)) (hn:l.length≤9223372036854775807) :
    Calls Tryz.prog 181 [.agg [.slice RA rates.length rcp,.int .i64 pwn,.int .i64 ptn,.int .i64 pag].toArray,.slice A l.length cp].toArray w (Ret (fun v w'=>v = .int .i64 (cK (⟨rates,pwn,ptn,pag⟩:Part) l)∧St w noF [] w')):=by
 refine enter Tryz.func181 rfl Tryz.ntmps181 rfl (fun a H=>?_)
 have S:=St.start w
 refine seq_list fun K1 k1=>?_
 refine aO H rfl S G G ?_;intro b2 _ a hb2 hbw2 S H
 refine ls 1 H<|sr 1 G<|sE ?_;intro a H
 refine k1 _ _ ?_;refine wp_seq_k fun K2 k2=>?_
 replace H:=H.keep [1,2] rfl;refine sS H fun K3 k3=>sf fT rfl<|sl S 0 iW G G G<|sL dH rfl<|sc rfl Tryz.func190 G G (eZ _ _ _ _)<|sr 2 G<|sg 4 5 15 19 false G G (fun hg6=>sy hg6<|sf zP rfl<|sy hg6<|sl S 0 aD G G G<|sy hg6<|sc rfl Tryz.func190 G G (eZ _ _ _ _)<|sy hg6<|sr 1 G<|sz 4 G G G)<|so G G G<|sr 1 G<|sg 4 11 21 25 false G G (fun hg12=>sy hg12<|sf pZ rfl<|sy hg12<|sl S 0 aD G G G<|sy hg12<|sc rfl Tryz.func190 G G (eZ _ _ _ _)<|sy hg12<|sr 1 G<|sz 4 G G G)<|so G G G<|sr 1 G<|sg 4 17 27 31 false G G (fun hg18=>sy hg18<|sf tS rfl<|sy hg18<|sl S 0 aD G G G<|sy hg18<|sc rfl Tryz.func190 G G (eZ _ _ _ _)<|sy hg18<|sr 1 G<|sz 4 G G G)<|so G G G<|sE ?_;intro a H
 refine k3 _ ?_;refine cond_ H rfl (fun hc1=>?_) (fun hc1=>?_)
 ·skip
  try simp only [oz] at hc1
  replace H:=H.keep [] rfl;refine sS H fun K4 k4=>sr 1 G<|sE ?_;intro a H
  refine k4 _ ?_;refine wp_ret ?_;refine ret1 (fn:=Tryz.f181) rfl H rfl ?_;refine ⟨?_,(S.sel [] G G)⟩;unfold cK;rw [if_neg (by unfold fV;simp only [decide_eq_true_eq];omega)]
 try simp only [oz] at hc1
 refine wp_skip ?_;refine k2 _ _ ?_;refine wp_seq_k fun K5 k5=>?_
 have hhd:fV (⟨rates,pwn,ptn,pag⟩:Part)=true:=by unfold fV;simp only [decide_eq_true_eq];omega
 refine sS H fun K6 k6=>sf fT rfl<|sl S 0 iW G G G<|sL dH rfl<|sr 1 G<|sE ?_;intro a H
 refine k6 _ ?_;refine wp_block ?_;refine loop_st (X:=Nat) (R0:=_) [1,2,34,35] H rfl (fun k=>[(36,.int .i64 (k:Int))]) (fun k=>[]) (fun g k=>k≤rates.length∧g+k=rates.length∧(rates.take k).all jE=true) (rates.length) 0 ?_ (S.sel [0] G G) (H.keep [36,1,2,34,35] rfl) ?_
 · exact ⟨by omega,by omega,by simp⟩
 clear H S a;intro g1 x1 a w1 hp S H K7 k7;obtain ⟨k,rfl⟩:∃ y,y=x1:=⟨_,rfl⟩;refine sS H fun K8 k8=>sr 1 G<|sE ?_;intro a H
 refine k8 _ ?_;refine wp_seq_k fun K9 k9=>?_
 refine condL H rfl (fun hc2=>?_) (fun hc2=>?_)
 ·skip
  refine wp_skip ?_;refine k9 _ _ ?_;refine wp_seq_k fun K10 k10=>?_
  refine wp_block ?_;refine seq_list fun K11 k11=>?_
  refine ls 2 H<|si dH aS G G (hr.adr (by omega)) (by omega)<|sd ((aU bF aS rfl S hr (by omega) (by omega)))<|sE ?_;intro a H
  refine aJ H rfl S cB ?_;intro b6 _ a hb6 hbw6 S H
  refine aE H S (i:=0) G G G G aS G G ?_
  clear H a S;intro _ a S H;refine k11 _ _ ?_;replace H:=H.keep [1,2,6,34,35,36] rfl;refine sS H fun K12 k12=>sf bJ rfl<|sl S 0 aD G G G<|sr 2 G<|sg 5 3 43 48 false G G (fun hg4=>sy hg4<|sf bH rfl<|sy hg4<|sl S 0 aD G G G<|sy hg4<|sf bJ rfl<|sy hg4<|sl S 0 aD G G G<|sy hg4<|sr 1 G<|sz 5 G G G)<|so G G G<|sr 1 G<|sg 3 10 50 53 false G G (fun hg11=>sy hg11<|sf bH rfl<|sy hg11<|sl S 0 aD G G G<|sy hg11<|sr 1 G<|sz 3 G G G)<|so G G G<|sE ?_;intro a H
  refine k12 _ ?_;refine cond_ H rfl (fun hc3=>?_) (fun hc3=>?_)
  ·skip
   try simp only [oz] at hc3
   replace H:=H.keep [] rfl;refine sS H fun K13 k13=>sr 1 G<|sE ?_;intro a H
   refine k13 _ ?_;refine wp_ret ?_;refine ret1 (fn:=Tryz.f181) rfl H rfl ?_;refine ⟨?_,(S.sel [] G G)⟩;unfold cK;rw [if_pos hhd];(try dsimp only);rw [sH (k:=k) (d:=(0,0)) (by omega) (by unfold jE;simp only [decide_eq_false_iff_not];omega)];rfl
  try simp only [oz] at hc3
  refine wp_skip ?_;refine k10 _ _ ?_;refine sO H<|sd (aI G G (by unfold i64ok;omega))<|sr 1 G<|sE ?_;intro a H
  exact k7 (g1-1) (k+1) a _ (by omega) (⟨by omega,by omega,wE (d:=(0,0)) (by omega) hp.2.2 (by unfold jE;simp only [decide_eq_true_eq];omega)⟩) (S.sel [1] G G) (H.keep [36,1,2,34,35] rfl)
 refine wp_exit ?_;refine k5 _ _ ?_;refine wp_seq_k fun K15 k15=>?_
 have hrt:rates.all jE=true:=by have h9:=hp.2.2;rw [List.take_of_length_le (by omega)] at h9;exact h9
 refine sS H fun K16 k16=>sr 1 G<|sL dI rfl<|sr 1 G<|sE ?_;intro a H
 refine k16 _ ?_;refine condL H rfl (fun hc4=>?_) (fun hc4=>?_)
 ·skip
  refine sS H fun K17 k17=>sr 1 G<|sE ?_;intro a H
  refine k17 _ ?_;refine wp_ret ?_;refine ret1 (fn:=Tryz.f181) rfl H rfl ?_;refine ⟨?_,(S.sel [] G G)⟩;unfold cK;rw [if_pos hhd,if_pos hrt,if_neg (by omega)]
 refine wp_skip ?_;refine k15 _ _ ?_;refine sS H fun K18 k18=>sr 1 G<|sE ?_;intro a H
 refine k18 _ ?_;refine wp_seq_k fun K19 k19=>?_
 replace H:=H.keep [1,2,7] rfl;refine sS H fun K20 k20=>sr 1 G<|sL dI rfl<|sr 1 G<|sE ?_;intro a H
 refine k20 _ ?_;refine wp_block ?_;refine loop_st (X:=Nat) (R0:=_) [2,59,60] H rfl (fun j=>[(7,.int .i64 (prevD l j)),(61,.int .i64 (j:Int))]) (fun j=>[]) (fun g j=>j≤l.length∧g+j=l.length∧fX rates.length l j=true) (l.length) 0 ?_ (S.sel [0] G G) (H.keep [7,61,2,59,60] rfl) ?_
 · exact ⟨by omega,by omega,rfl⟩
 clear H S a;intro g2 x2 a w2 hp S H K21 k21;obtain ⟨j,rfl⟩:∃ y,y=x2:=⟨_,rfl⟩;refine sS H fun K22 k22=>sr 1 G<|sE ?_;intro a H
 refine k22 _ ?_;refine wp_seq_k fun K23 k23=>?_
 refine condL H rfl (fun hc5=>?_) (fun hc5=>?_)
 ·skip
  refine wp_skip ?_;refine k23 _ _ ?_;refine wp_seq_k fun K24 k24=>?_
  refine wp_block ?_;refine seq_list fun K25 k25=>?_
  refine ls 2 H<|si dI cY G G (hl.adr (by omega)) (by omega)<|sd ((aU kY cY rfl S hl (by omega) (by omega)))<|sE ?_;intro a H
  refine aJ H rfl S lH ?_;intro b9 _ a hb9 hbw9 S H
  refine aE H S (i:=0) G G G G cY G G ?_
  clear H a S;intro _ a S H;refine k25 _ _ ?_;refine wp_seq_k fun K26 k26=>?_
  replace H:=H.keep [2,7,9,59,60,61] rfl;refine sS H fun K27 k27=>sf iE rfl<|sl S 0 aD G G G<|sr 1 G<|sc rfl Tryz.func190 G G (eZ _ _ _ _)<|sr 2 G<|sg 4 5 70 74 false G G (fun hg6=>sy hg6<|sf kO rfl<|sy hg6<|sl S 0 aD G G G<|sy hg6<|sc rfl Tryz.func190 G G (eZ _ _ _ _)<|sy hg6<|sr 1 G<|sz 4 G G G)<|so G G G<|sr 1 G<|sg 8 11 76 84 false G G (fun hg12=>sy hg12<|sf qH rfl<|sy hg12<|sl S 0 aD G G G<|sy hg12<|sf fT rfl<|sy hg12<|sl S 1 iW G G G<|sy hg12<|sL dH rfl<|sy hg12<|sd (aR G G (by unfold i64ok;omega))<|sy hg12<|sc rfl Tryz.func190 G G (eZ _ _ _ _)<|sy hg12<|sr 1 G<|sz 8 G G G)<|so G G G<|sE ?_;intro a H
  refine k27 _ ?_;refine cond_ H rfl (fun hc6=>?_) (fun hc6=>?_)
  ·skip
   try simp only [oz] at hc6
   replace H:=H.keep [] rfl;refine sS H fun K28 k28=>sr 1 G<|sE ?_;intro a H
   refine k28 _ ?_;refine wp_ret ?_;refine ret1 (fn:=Tryz.f181) rfl H rfl ?_;refine ⟨?_,(S.sel [] G G)⟩;unfold cK;rw [if_pos hhd,if_pos hrt,if_pos (by omega)];unfold fX;rw [gG (k:=j) (by omega) (by unfold useOk;simp only [decide_eq_false_iff_not];omega)];rfl
  try simp only [oz] at hc6
  refine wp_skip ?_;refine k26 _ _ ?_;refine wp_seq_k fun K29 k29=>?_
  replace H:=H.keep [2,9,59,60,61] rfl;refine sS H fun K30 k30=>sf fB rfl<|sf bJ rfl<|sl S 0 aD G G G<|sr 2 G<|sg 7 4 90 97 false G G (fun hg5=>sy hg5<|sf fB rfl<|sy hg5<|sf bH rfl<|sy hg5<|sl S 0 aD G G G<|sy hg5<|sf fB rfl<|sy hg5<|sf bJ rfl<|sy hg5<|sl S 0 aD G G G<|sy hg5<|sr 1 G<|sz 7 G G G)<|so G G G<|sr 1 G<|sg 4 13 99 103 false G G (fun hg14=>sy hg14<|sf fB rfl<|sy hg14<|sf bH rfl<|sy hg14<|sl S 0 aD G G G<|sy hg14<|sr 1 G<|sz 4 G G G)<|so G G G<|sr 1 G<|sg 9 19 105 114 false G G (fun hg20=>sy hg20<|sf nG rfl<|sy hg20<|sl S 0 iP G G G<|sy hg20<|sr 1 G<|sy hg20<|sr 1 G<|sg 4 23 109 113 true G G (fun hg24=>sy hg24<|sf fB rfl<|sy hg24<|sd ((aB bF aS rfl S (i:=0) G G))<|sy hg24<|sd (aN dW G G)<|sy hg24<|sd (oP G G)<|sz 4 G G G)<|sy hg20<|sa G G G<|sz 6 G G G)<|so G G G<|sE ?_;intro a H
  refine k30 _ ?_;refine cond_ H rfl (fun hc7=>?_) (fun hc7=>?_)
  ·skip
   try simp only [oz] at hc7
   replace H:=H.keep [] rfl;refine sS H fun K31 k31=>sr 1 G<|sE ?_;intro a H
   refine k31 _ ?_;refine wp_ret ?_;refine ret1 (fn:=Tryz.f181) rfl H rfl ?_;refine ⟨?_,(S.sel [] rfl rfl)⟩;unfold cK;rw [if_pos hhd,if_pos hrt,if_pos (by omega)];unfold fX;rw [gG (k:=j) (by omega) (by unfold useOk;simp only [decide_eq_false_iff_not];generalize l.getD j aFi=u at hc6 hc7 ⊢;rintro ⟨_,_,_,_,hm⟩;cases hq:u.meas <;> simp [hq] at hc7 hm <;> omega)];rfl
  try simp only [oz] at hc7
  refine wp_skip ?_;refine k29 _ _ ?_;refine sO H<|sf iE rfl<|sl S 0 aD G G G<|sr 1 G<|sE ?_;intro a H
  refine k24 _ _ ?_;refine sO H<|sd (aI G G (by unfold i64ok;omega))<|sr 1 G<|sE ?_;intro a H
  exact k21 (g2-1) (j+1) a _ (by omega) (⟨by omega,by omega,by unfold fX;rw [kT (n:=0)];have h9:=hp.2.2;unfold fX at h9;rw [h9];simp only [Bool.true_and];unfold useOk;simp only [decide_eq_true_eq];generalize l.getD j aFi=u at hc6 hc7 ⊢;refine ⟨by omega,by omega,by omega,by omega,fun hm=>?_⟩;simp [hm] at hc7;omega⟩) (S.sel [1] G G) (H.keep [7,61,2,59,60] rfl)
 refine wp_exit ?_;refine k19 _ _ ?_;refine sS H fun K34 k34=>sr 1 G<|sE ?_;intro a H
 refine k34 _ ?_;refine wp_ret ?_;refine ret1 (fn:=Tryz.f181) rfl H rfl ?_;refine ⟨?_,(S.sel [] G G)⟩;have hj9:j=l.length:=by omega
 unfold cK;rw [if_pos hhd,if_pos hrt,if_pos (by omega)];rw [hj9] at hp;dsimp only;rw [if_pos hp.2.2]
theorem gT (rates:List (Int×Int)) (pwn ptn pag:Int) (RA:Option Addr) (rcp:Nat) (u:Use) (w:World) (hr:InS w noF 2 RA rates.length (scell rates)) (hrn:rates.length≤9223372036854775807) (hcl:0≤u.cls∧u.cls<rates.length) (hg1:i64ok (cZ (⟨rates,pwn,ptn,pag⟩:Part) u).1) (hg2:i64ok (cZ (⟨rates,pwn,ptn,pag⟩:Part) u).2) :
    Calls Tryz.prog 192 [.agg [.slice RA rates.length rcp,.int .i64 pwn,.int .i64 ptn,.int .i64 pag].toArray,.agg [.int .i64 u.day,.int .i64 u.turns,.int .i64 u.cls,.bool u.meas,.int .i64 u.lo,.int .i64 u.hi].toArray].toArray w (Ret (fun v w'=>v = .agg [.int .i64 (cZ (⟨rates,pwn,ptn,pag⟩:Part) u).1,.int .i64 (cZ (⟨rates,pwn,ptn,pag⟩:Part) u).2].toArray∧St w noF [] w')):=by
 refine enter Tryz.func192 rfl Tryz.ntmps192 rfl (fun a H=>?_)
 have S:=St.start w
 refine seq_list fun K1 k1=>?_
 refine aO H rfl S G G ?_;intro b2 _ a hb2 hbw2 S H
 refine aO H rfl S G G ?_;intro b3 _ a hb3 hbw3 S H
 refine aJ H rfl S cB ?_;intro b4 _ a hb4 hbw4 S H
 refine k1 _ _ ?_;replace H:=H.keep [2,3,4] rfl;refine seq_list fun K2 k2=>?_
 refine ls 6 H<|sf fT rfl<|sl S 2 iW G G G<|sf qH rfl<|sl S 1 aD G G G<|sI dH aS G G (hr.adr (by omega)) (by omega) (by omega)<|sd ((aU bF aS rfl S hr (by omega) (by omega)))<|sE ?_;intro a H
 refine aJ H rfl S cB ?_;intro b5 _ a hb5 hbw5 S H
 refine aE H S (i:=0) G G G G aS G G ?_
 clear H a S;intro _ a S H;refine k2 _ _ ?_;replace H:=H.keep [3,4,5] rfl;refine seq_list fun K3 k3=>?_
 refine ls 11 H<|sf kO rfl<|sl S 2 aD G G G<|sf bJ rfl<|sl S 0 aD G G G<|sd (fY G G (by exact hg1))<|sf kO rfl<|sl S 2 aD G G G<|sf bH rfl<|sl S 0 aD G G G<|sd (fY G G (by exact hg2))<|sd (aN dW G G)<|sE ?_;intro a H
 refine aE H S (i:=1) G G G G aS G G ?_
 clear H a S;intro _ a S H;refine k3 _ _ ?_;refine wp_ret ?_;refine retA (fn:=Tryz.f192) rfl H rfl bF (by exact aS) (dN S (i:=1) rfl) ?_;exact ⟨rfl,(S.sel [] G G)⟩
theorem gM (a1 a2 b1 b2:Int) (w:World) :
    Calls Tryz.prog 193 [.agg [.int .i64 a1,.int .i64 a2].toArray,.agg [.int .i64 b1,.int .i64 b2].toArray].toArray w (Ret (fun v w'=>v = .tuple #[.agg [.int .i64 (meetS (a1,a2) (b1,b2)).1,.int .i64 (meetS (a1,a2) (b1,b2)).2].toArray,.bool (decide ((meetS (a1,a2) (b1,b2)).1≤(meetS (a1,a2) (b1,b2)).2))]∧St w noF [] w')):=by
 refine enter Tryz.func193 rfl Tryz.ntmps193 rfl (fun a H=>?_)
 have S:=St.start w
 refine seq_list fun K1 k1=>?_
 refine aO H rfl S G G ?_;intro b2 _ a hb2 hbw2 S H
 refine aO H rfl S G G ?_;intro b3 _ a hb3 hbw3 S H
 refine aJ H rfl S cB ?_;intro b4 _ a hb4 hbw4 S H
 refine ls 1 H<|sr 1 G<|sE ?_;intro a H
 refine k1 _ _ ?_;replace H:=H.keep [2,3,4] rfl;refine seq_list fun K2 k2=>?_
 refine ls 11 H<|sf bJ rfl<|sl S 2 aD G G G<|sf bJ rfl<|sl S 1 aD G G G<|sd (lK G G)<|sf bH rfl<|sl S 2 aD G G G<|sf bH rfl<|sl S 1 aD G G G<|sd (uF G G)<|sd (aN dW G G)<|sE ?_;intro a H
 refine aJ H rfl S cB ?_;intro b6 _ a hb6 hbw6 S H
 refine aE H S (i:=0) G G G G aS G G ?_
 clear H a S;intro _ a S H;refine k2 _ _ ?_;replace H:=H.keep [4,6] rfl;replace S:=S.drew;refine seq_wq [(0,true),(1,true),(2,true),(3,true),(4,true),(5,true),(6,false),(7,true)] (by kernel_rfl) (by kernel_rfl) (S.sel [0,2,3] G G) fun K3 k3=>?_
 refine qF H<|qd G (fun _ S=>(aB bF aS rfl S (i:=0) G G))<|qd G (fun _ S=>(aC bJ rfl))<|qd G (fun _ S=>aF aD rfl (aEh S (i:=0) G G))<|qd G (fun _ S=>(aC bH rfl))<|qd G (fun _ S=>aF aD rfl (aEh S (i:=0) G G))<|qr 1 G<|qK ?_;intro a H
 refine aT rfl ?_
 refine aE H S (i:=1) G G G G aS G G ?_
 clear H a S;intro _ a S H;refine wpList_nil (And.intro (S.sel [0,2,3] G G) ?_);refine qF H<|qr 1 G<|qK ?_;intro a H
 refine bL ?_
 refine k3 _ _ ?_;refine wp_ret ?_;refine retA1 (fn:=Tryz.f193) rfl H rfl bF (by exact aS) (dN S (i:=1) rfl) rfl ?_;exact ⟨rfl,(S.sel [] G G)⟩
end
section
theorem tH (rates:List (Int×Int)) (pwn ptn pag:Int) (RA:Option Addr) (rcp:Nat) (l:List Use) (A:Option Addr) (cp:Nat) (w:World) (hr:InS w noF 2 RA rates.length (scell rates)) (hrn:rates.length≤9223372036854775807) (hl:InS w noF 6 A l.length (ucell l)) (hn:l.length≤9223372036854775807) (hok:PartOk (⟨rates,pwn,ptn,pag⟩:Part) l) :
    Calls Tryz.prog 191 [.agg [.slice RA rates.length rcp,.int .i64 pwn,.int .i64 ptn,.int .i64 pag].toArray,.slice A l.length cp].toArray w (Ret (fun v w'=>∃ n A' c',IsAt (⟨rates,pwn,ptn,pag⟩:Part) l n∧v = .tuple #[.slice A' n c',.int .i64 (n:Int)]∧St w noF [ownM 88 2 A' n c' (fcell (fun q=>fwd (⟨rates,pwn,ptn,pag⟩:Part) l (q+1)))] w')):=by
 refine enter Tryz.func191 rfl Tryz.ntmps191 rfl (fun a H=>?_)
 have S:=St.start w
 refine seq_list fun K1 k1=>?_
 refine aO H rfl S G G ?_;intro b2 _ a hb2 hbw2 S H
 refine ls 2 H<|sr 2 G<|sE ?_;clear H a;intro a H
 refine k1 _ _ ?_;refine seq_list fun K2 k2=>?_
 refine aJ H rfl S cB ?_;intro b6 _ a hb6 hbw6 S H
 refine k2 _ _ ?_;refine wp_seq_k fun K3 k3=>?_
 refine sS H fun K4 k4=>sr 1 G<|sL dI rfl<|sr 1 G<|sE ?_;clear H a;intro a H
 refine k4 _ ?_;refine wp_block ?_;replace S:=S.newNil 88 2 (fcell (fun q=>fwd (⟨rates,pwn,ptn,pag⟩:Part) l (q+1)));refine loop_st (X:=Nat×Option Addr×Nat) (R0:=_) [1,2,6,11,12] H rfl (fun ⟨k,A',c'⟩=>[(4,.slice A' k c'),(13,.int .i64 (k:Int))]) (fun ⟨k,A',c'⟩=>[boxM b6 88 [.int .i64 (fwd (⟨rates,pwn,ptn,pag⟩:Part) l k).1,.int .i64 (fwd (⟨rates,pwn,ptn,pag⟩:Part) l k).2],ownM 88 2 A' k c' (fcell (fun q=>fwd (⟨rates,pwn,ptn,pag⟩:Part) l (q+1)))]) (fun g ⟨k,A',c'⟩=>k≤l.length∧g+k=l.length∧∀ q,q<k→fits (⟨rates,pwn,ptn,pag⟩:Part) l q) (l.length) (0,none,0) ?_ (S.sel [1,0,2] G G) (H.keep [4,13,1,2,6,11,12] rfl) ?_
 · exact ⟨by omega,by omega,fun q hq=>by omega⟩
 clear H S a;intro g1 x1 a w1 hp S H K5 k5;obtain ⟨k,A',c'⟩:=x1;dsimp only at hp S H;refine sS H fun K6 k6=>sr 1 G<|sE ?_;clear H a;intro a H
 refine k6 _ ?_;refine wp_seq_k fun K7 k7=>?_
 refine condL H rfl (fun hc1=>?_) (fun hc1=>?_)
 ·skip
  refine wp_skip ?_;refine k7 _ _ ?_;refine wp_seq_k fun K8 k8=>?_
  refine wp_block ?_;have hu:=hok.use (k:=k) (by omega);unfold useOk at hu;simp only [decide_eq_true_eq] at hu;have hgb:=nP hok (k:=k) (by omega)
  have hcls:0≤(l.getD k aFi).cls∧(l.getD k aFi).cls<rates.length:=by
    have:((⟨rates,pwn,ptn,pag⟩:Part).rates.length:Int)=rates.length:=rfl
    omega
  have hll:=hok.len
  have hfb:=As hok k (by omega)
  refine seq_list fun K9 k9=>?_
  refine ls 3 H<|sr 1 G<|si dI cY G G (hl.adr (by omega)) (by omega)<|sd ((aU kY cY rfl S hl (by omega) (by omega)))<|sE ?_;clear H a;intro a H
  refine aJ H rfl S lH ?_;intro b8 _ a hb8 hbw8 S H
  refine ls 1 H<|sr 1 G<|sE ?_;clear H a;intro a H
  refine aE H S (i:=0) G G G G cY G G ?_
  clear H a S;intro _ a S H;refine k9 _ _ ?_;replace H:=H.keep [1,2,4,6,7,8,11,12,13] rfl;refine seq_list fun K10 k10=>?_
  refine ls 2 H<|sd ((aB fH iQ rfl S (i:=3) G G))<|sd ((aB kY cY rfl S (i:=0) G G))<|sE ?_;clear H a;intro a H
  refine aA H G G Tryz.func192 G G (gT rates pwn ptn pag RA rcp (l.getD k aFi) _ (hr.now S) hrn hcls (by unfold i64ok;omega) (by unfold i64ok;omega)) ?_;clear H a
  rintro _ _ a ⟨rfl,S2⟩ H;replace S:=S.call S2;clear S2;refine aJ H rfl S cB ?_;intro b9 _ a hb9 hbw9 S H;refine aE H S (i:=0) rfl rfl rfl rfl aS rfl rfl ?_;clear H a S;intro _ a S H;refine k10 _ _ ?_;replace H:=H.keep [1,2,4,6,7,8,9,11,12,13] rfl;refine seq_list fun K11 k11=>?_
  refine ls 11 H<|sf bJ rfl<|sl S 2 aD G G G<|sf bJ rfl<|sl S 0 aD G G G<|sd (aI G G (by unfold i64ok;omega))<|sf bH rfl<|sl S 2 aD G G G<|sf bH rfl<|sl S 0 aD G G G<|sd (aI G G (by unfold i64ok;omega))<|sd (aN dW G G)<|sE ?_;clear H a;intro a H
  refine aE H S (i:=2) G G G G aS G G ?_
  clear H a S;intro _ a S H;refine k11 _ _ ?_;refine wp_seq_k fun K12 k12=>?_
  replace H:=H.keep [1,2,4,6,7,8,11,12,13] rfl;refine sS H fun K13 k13=>sf nG rfl<|sl S 1 iP G G G<|sE ?_;clear H a;intro a H
  refine k13 _ ?_;refine cond_ H rfl (fun hc2=>?_) (fun hc2=>?_)
  ·skip
   try simp only [oz] at hc2
   refine sS H fun K14 k14=>sr 1 G<|sE ?_;clear H a;intro a H
   refine k14 _ ?_;replace H:=H.keep [1,2,4,6,7,8,11,12,13] rfl;refine seq_list fun K15 k15=>?_
   refine ls 3 H<|sd ((aB bF aS rfl S (i:=2) G G))<|sf fB rfl<|sd ((aB bF aS rfl S (i:=1) G G))<|sE ?_;clear H a;intro a H
   refine aA H G G Tryz.func193 G G (gM _ _ _ _ _) ?_;clear H a
   rintro _ _ a ⟨rfl,S2⟩ H;replace S:=S.call S2;clear S2;refine ls 3 H<|sr 3 G<|sE ?_;clear H a;intro a H
   refine aE H S (i:=2) G G G G aS G G ?_
   clear H a S;intro _ a S H;refine ls 1 H<|sr 1 G<|sE ?_;clear H a;intro a H
   refine k15 _ _ ?_;replace H:=H.keep [1,2,4,6,7,10,11,12,13] rfl;refine sS H fun K16 k16=>sr 2 G<|sE ?_;clear H a;intro a H
   refine k16 _ ?_;refine cond_ H rfl (fun hc3=>?_) (fun hc3=>?_)
   ·skip
    try simp only [oz] at hc3
    refine sS H fun K17 k17=>sr 4 G<|sE ?_;clear H a;intro a H
    refine k17 _ ?_;refine wp_ret ?_;refine ret2 (fn:=Tryz.f191) rfl H G G ?_;refine ⟨k,A',c',⟨by omega,hp.2.2,fun _ hf=>?_⟩,rfl,(S.sel [3] G G)⟩;have h9:=hf hc2;rw [wF hc2] at h9;exact absurd h9 (Int.not_le.2 hc3)
   try simp only [oz] at hc3
   refine wp_skip ?_;refine k12 _ _ ?_;have e9:=(by first|exact wF (p:=(⟨rates,pwn,ptn,pag⟩:Part)) hc2|exact Im (p:=(⟨rates,pwn,ptn,pag⟩:Part)) hc2:fwd (⟨rates,pwn,ptn,pag⟩:Part) l (k+1)=_);replace H:=H.keep [1,2,4,6,11,12,13] rfl;refine one_list ?_;refine ls 2 H<|sr 1 G<|sd ((aB bF aS rfl S (i:=2) G G))<|sE ?_;clear H a;intro a H
   refine aY H rfl S dH aS cB G G G G G G G G G ?_;intro A1 _ a hA1 S H
   refine bM H rfl S dH aS cB Ov G G (i:=4) G G G (aEi S (i:=0) rfl) (jA (two G G)) (by omega) (by omega) ?_;intro A2 c2 _ a S H
   replace S:=S.recell (i:=4) rfl (cell':=fcell (fun q=>fwd (⟨rates,pwn,ptn,pag⟩:Part) l (q+1))) (vL (two (by show _=Value.int .i64 (fwd (⟨rates,pwn,ptn,pag⟩:Part) l (k+1)).1;rw [e9];rfl) (by show _=Value.int .i64 (fwd (⟨rates,pwn,ptn,pag⟩:Part) l (k+1)).2;rw [e9];rfl)));refine ls 1 H<|sr 1 G<|sE ?_;clear H a;intro a H
   refine k8 _ _ ?_;refine sO H<|sd (aI G G (by unfold i64ok;omega))<|sr 1 G<|sE ?_;clear H a;intro a H
   replace S:=aEl S (i:=3) (cs':=[.int .i64 (fwd (⟨rates,pwn,ptn,pag⟩:Part) l (k+1)).1,.int .i64 (fwd (⟨rates,pwn,ptn,pag⟩:Part) l (k+1)).2]) rfl (by rw [e9];rfl)
   exact k5 (g1-1) (k+1,_,_) a _ (by omega) (⟨by omega,by omega,fun q hq=>by
     by_cases h:q=k
     · subst h;first|exact Dd hc2|(intro _;rw [e9];exact hc3)
     · exact hp.2.2 q (by omega)⟩) (S.sel [3,4,5] G G) (H.keep [4,13,1,2,6,11,12] rfl)
  try simp only [oz] at hc2
  refine wp_skip ?_;refine k12 _ _ ?_;have e9:=(by first|exact wF (p:=(⟨rates,pwn,ptn,pag⟩:Part)) hc2|exact Im (p:=(⟨rates,pwn,ptn,pag⟩:Part)) hc2:fwd (⟨rates,pwn,ptn,pag⟩:Part) l (k+1)=_);replace H:=H.keep [1,2,4,6,11,12,13] rfl;refine one_list ?_;refine ls 2 H<|sr 1 G<|sd ((aB bF aS rfl S (i:=2) G G))<|sE ?_;clear H a;intro a H
  refine aY H rfl S dH aS cB G G G G G G G G G ?_;intro A3 _ a hA3 S H
  refine bM H rfl S dH aS cB Ov G G (i:=4) G G G (aEi S (i:=0) rfl) (jA (two G G)) (by omega) (by omega) ?_;intro A4 c4 _ a S H
  replace S:=S.recell (i:=4) rfl (cell':=fcell (fun q=>fwd (⟨rates,pwn,ptn,pag⟩:Part) l (q+1))) (vL (two (by show _=Value.int .i64 (fwd (⟨rates,pwn,ptn,pag⟩:Part) l (k+1)).1;rw [e9];rfl) (by show _=Value.int .i64 (fwd (⟨rates,pwn,ptn,pag⟩:Part) l (k+1)).2;rw [e9];rfl)));refine ls 1 H<|sr 1 G<|sE ?_;clear H a;intro a H
  refine k8 _ _ ?_;refine sO H<|sd (aI G G (by unfold i64ok;omega))<|sr 1 G<|sE ?_;clear H a;intro a H
  replace S:=aEl S (i:=3) (cs':=[.int .i64 (fwd (⟨rates,pwn,ptn,pag⟩:Part) l (k+1)).1,.int .i64 (fwd (⟨rates,pwn,ptn,pag⟩:Part) l (k+1)).2]) rfl (by rw [e9];rfl)
  exact k5 (g1-1) (k+1,_,_) a _ (by omega) (⟨by omega,by omega,fun q hq=>by
    by_cases h:q=k
    · subst h;first|exact Dd hc2|(intro _;rw [e9];exact hc3)
    · exact hp.2.2 q (by omega)⟩) (S.sel [3,4,5] G G) (H.keep [4,13,1,2,6,11,12] rfl)
 refine wp_exit ?_;refine k3 _ _ ?_;replace H:=H.keep [1,4] rfl;refine sS H fun K22 k22=>sr 2 G<|sL dI rfl<|sr 2 G<|sE ?_;clear H a;intro a H
 refine k22 _ ?_;refine wp_ret ?_;refine ret2 (fn:=Tryz.f191) rfl H G G ?_;have hk9:k=l.length:=by omega
 subst hk9;exact ⟨_,A',c',⟨Nat.le_refl _,hp.2.2,fun h=>absurd h (Nat.lt_irrefl _)⟩,rfl,(S.sel [1] G G)⟩
end
end Go.Proofs.YtinghmelkmblmaaGreat
