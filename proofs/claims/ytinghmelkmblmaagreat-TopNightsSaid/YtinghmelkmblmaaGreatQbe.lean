/- Part 5 of the proof. -/
import Derived.Test.YtinghmelkmblmaaGreatQbd
namespace Go.Proofs.YtinghmelkmblmaaGreat
open Go.RowKit
set_option linter.unusedVariables false
set_option linter.unusedSimpArgs false
set_option maxRecDepth 100000
set_option maxHeartbeats 4000000
section
theorem tK (up:Bool) (empty pull drag motor:Int) (br:List Brake) (BA:Option Addr) (bcp:Nat) (sp slo shi sfail:Int) (w:World) (hb:InS w noF 2 BA br.length (bcell br)) (hbn:br.length≤9223372036854775807) :
    Calls Tryz.prog 75 [.agg [.bool up,.int .i64 empty,.int .i64 pull,.int .i64 drag,.int .i64 motor,.slice BA br.length bcp].toArray,.agg [.int .i64 sp,.int .i64 slo,.int .i64 shi,.int .i64 sfail].toArray].toArray w (Ret (fun v w'=>v = .int .i64 (stopE (⟨up,empty,pull,drag,motor,br⟩:Esc) (⟨sp,slo,shi,sfail⟩:Stp))∧St w noF [] w')):=by
 refine enter Tryz.func75 rfl Tryz.ntmps75 rfl (fun a H=>?_)
 have S:=St.start w
 refine seq_list fun K1 k1=>?_
 refine aN H rfl S G G ?_;clear H a S;intro b2 _ a hb2 hbw2 S H
 refine aN H rfl S G G ?_;clear H a S;intro b3 _ a hb3 hbw3 S H
 refine ls 1 H<|sr 1 rfl<|sE ?_;clear H a;intro a H
 refine k1 _ _ ?_;clear k1 K1
 refine wp_seq_k fun K2 k2=>?_
 cases hesc:escOk (⟨up,empty,pull,drag,motor,br⟩:Esc)
 ·skip
  refine seq_list fun K3 k3=>?_
  refine ls 1 H<|sd ((aB fG gV rfl S (i:=1) G G))<|sE ?_;clear H a;intro a H
  refine aA H G G Tryz.func116 G G (uO up empty pull drag motor br BA bcp _ (hb.now S) hbn) ?_;clear H a
  rintro _ _ a ⟨rfl,S2⟩ H
  replace S:=S.call S2;clear S2
  rw [hesc] at H;simp only [if_true,Bool.false_eq_true,if_false] at H
  refine ls 1 H<|sr 1 rfl<|sE ?_;clear H a;intro a H
  refine k3 _ _ ?_;clear k3 K3
  refine sS H fun K4 k4=>sr 2 rfl<|sE ?_;clear H a;intro a H
  refine k4 _ ?_;clear k4 K4
  refine cond_ H rfl (fun hc1=>?_) (fun hc1=>?_)
  ·skip
   skip
   replace H:=H.keep [5] rfl
   refine sS H fun K5 k5=>sr 2 rfl<|sE ?_;clear H a;intro a H
   refine k5 _ ?_;clear k5 K5
   refine wp_ret ?_
   refine ret1 (fn:=Tryz.f75) rfl H rfl ?_
   refine ⟨?_,(S.sel [] G G)⟩;unfold stopE;rw [if_neg (by rw [hesc];simp)]
  skip
  exact absurd hc1 (by decide)
 refine seq_list fun K6 k6=>?_
 refine ls 1 H<|sd ((aB fG gV rfl S (i:=1) G G))<|sE ?_;clear H a;intro a H
 refine aA H G G Tryz.func116 G G (uO up empty pull drag motor br BA bcp _ (hb.now S) hbn) ?_;clear H a
 rintro _ _ a ⟨rfl,S2⟩ H
 replace S:=S.call S2;clear S2
 rw [hesc] at H;simp only [if_true,Bool.false_eq_true,if_false] at H
 refine ls 1 H<|sr 1 rfl<|sE ?_;clear H a;intro a H
 refine k6 _ _ ?_;clear k6 K6
 refine sS H fun K7 k7=>sr 2 rfl<|sE ?_;clear H a;intro a H
 refine k7 _ ?_;clear k7 K7
 refine cond_ H rfl (fun hc2=>?_) (fun hc2=>?_)
 ·skip
  skip
  exact absurd hc2 (by decide)
 skip
 refine wp_skip ?_
 refine k2 _ _ ?_
 refine wp_seq_k fun K8 k8=>?_
 rcases (show ((sp<0∨1000<sp)∨((0≤sp∧sp≤1000)∧slo<0)∨((0≤sp∧sp≤1000∧0≤slo)∧shi<slo))∨((0≤sp∧sp≤1000∧0≤slo∧slo≤shi)∧(100000<shi∨(shi≤100000∧sfail<0)∨((shi≤100000∧0≤sfail)∧(2:Int)^br.length≤sfail)∨((shi≤100000∧0≤sfail)∧sfail<(2:Int)^br.length))) by omega) with (hs|hs|hs)|⟨hs0,hs|hs|hs|hs⟩
 ·skip
  skip
  have hE:=cZ hesc
  dsimp only at hE
  obtain ⟨hE1,hE2,hE3,hE4,hE5⟩:=hE
  replace H:=H.keep [2,3] rfl
  replace S:=S.drew
  refine seq_wq [(0,true),(1,true),(2,false),(3,false),(4,true),(5,true),(6,true),(7,true),(8,true),(9,true),(10,true),(11,true),(12,true),(13,true),(14,true),(15,true),(16,true),(17,true),(18,true),(19,true),(20,true),(21,true),(22,true),(23,true),(24,true),(25,true),(26,true),(27,true),(28,true),(29,true),(30,true),(31,true),(32,true),(33,true),(34,true),(35,true),(36,true),(37,true),(38,true),(39,true)] (by kernel_rfl) (by kernel_rfl) (S.sel [0,1] G G) fun K9 k9=>?_
  refine qF H<|qd rfl (fun _ S=>(aC gC rfl))<|qd rfl (fun _ S=>aH aE rfl (boxM.rd S (i:=0) G G))<|qK ?_;clear H a;intro a H
  refine aT rfl ?_
  refine aA H G G Tryz.func118 G G (dM _ _) ?_;clear H a
  rintro _ _ a ⟨rfl,S2⟩ H
  replace S:=S.call S2;clear S2
  refine wpList_nil (And.intro (S.sel [0,1] G G) ?_)
  refine aT rfl ?_
  refine aA H G G Tryz.func117 G G (kD (by omega)) ?_;clear H a
  rintro _ _ a ⟨rfl,S2⟩ H
  replace S:=S.call S2;clear S2
  refine wpList_nil (And.intro (S.sel [0,1] G G) ?_)
  refine qF H<|qr 2 rfl<|qK ?_;clear H a;intro a H
  refine aJ H G G G G G ?_;clear H a;intro a H
  refine aJ H G G G G G ?_;clear H a;intro a H
  refine aJ H G G G G G ?_;clear H a;intro a H
  refine aJ H G G G G G ?_;clear H a;intro a H
  refine qF H<|qd rfl (fun _ S=>(aU G G G))<|qr 1 rfl<|qK ?_;clear H a;intro a H
  refine aJ H G G G G G ?_;clear H a;intro a H
  refine aJ H G G G G G ?_;clear H a;intro a H
  refine aJ H G G G G G ?_;clear H a;intro a H
  refine aJ H G G G G G ?_;clear H a;intro a H
  refine aJ H G G G G G ?_;clear H a;intro a H
  refine aJ H G G G G G ?_;clear H a;intro a H
  refine aJ H G G G G G ?_;clear H a;intro a H
  refine qF H<|qd rfl (fun _ S=>(aU G G G))<|qr 1 rfl<|qK ?_;clear H a;intro a H
  refine aJ H G G G G G ?_;clear H a;intro a H
  refine aJ H G G G G G ?_;clear H a;intro a H
  refine aJ H G G G G G ?_;clear H a;intro a H
  refine aJ H G G G G G ?_;clear H a;intro a H
  refine qF H<|qd rfl (fun _ S=>(aU G G G))<|qr 1 rfl<|qK ?_;clear H a;intro a H
  refine aJ H G G G G G ?_;clear H a;intro a H
  refine aJ H G G G G G ?_;clear H a;intro a H
  refine aJ H G G G G G ?_;clear H a;intro a H
  refine qF H<|qd rfl (fun _ S=>(aU G G G))<|qr 1 rfl<|qK ?_;clear H a;intro a H
  refine aJ H G G G G G ?_;clear H a;intro a H
  refine aJ H G G G G G ?_;clear H a;intro a H
  refine aJ H G G G G G ?_;clear H a;intro a H
  refine aJ H G G G G G ?_;clear H a;intro a H
  refine aJ H G G G G G ?_;clear H a;intro a H
  refine aJ H G G G G G ?_;clear H a;intro a H
  refine aJ H G G G G G ?_;clear H a;intro a H
  refine qF H<|qd rfl (fun _ S=>(aU G G G))<|qK ?_;clear H a;intro a H
  refine bN ?_
  refine k9 _ _ ?_
  clear k9 K9
  refine cond_ H rfl (fun hc3=>?_) (fun hc3=>?_)
  ·skip
   skip
   replace H:=H.keep [] rfl
   refine sS H fun K10 k10=>sr 1 rfl<|sE ?_;clear H a;intro a H
   refine k10 _ ?_;clear k10 K10
   refine wp_ret ?_
   refine ret1 (fn:=Tryz.f75) rfl H rfl ?_
   refine ⟨?_,(S.sel [] G G)⟩;unfold stopE;rw [if_pos hesc,if_neg (by unfold stpOk;simp only [decide_eq_true_eq];omega)]
  skip
  exact absurd hc3 (by decide)
 ·skip
  skip
  have hE:=cZ hesc
  dsimp only at hE
  obtain ⟨hE1,hE2,hE3,hE4,hE5⟩:=hE
  replace H:=H.keep [2,3] rfl
  replace S:=S.drew
  refine seq_wq [(0,true),(1,true),(2,false),(3,false),(4,true),(5,true),(6,true),(7,true),(8,true),(9,true),(10,true),(11,true),(12,true),(13,true),(14,true),(15,true),(16,true),(17,true),(18,true),(19,true),(20,true),(21,true),(22,true),(23,true),(24,true),(25,true),(26,true),(27,true),(28,true),(29,true),(30,true),(31,true),(32,true),(33,true),(34,true),(35,true),(36,true),(37,true),(38,true),(39,true)] (by kernel_rfl) (by kernel_rfl) (S.sel [0,1] G G) fun K11 k11=>?_
  refine qF H<|qd rfl (fun _ S=>(aC gC rfl))<|qd rfl (fun _ S=>aH aE rfl (boxM.rd S (i:=0) G G))<|qK ?_;clear H a;intro a H
  refine aT rfl ?_
  refine aA H G G Tryz.func118 G G (dM _ _) ?_;clear H a
  rintro _ _ a ⟨rfl,S2⟩ H
  replace S:=S.call S2;clear S2
  refine wpList_nil (And.intro (S.sel [0,1] G G) ?_)
  refine aT rfl ?_
  refine aA H G G Tryz.func117 G G (cA (by omega)) ?_;clear H a
  rintro _ _ a ⟨rfl,S2⟩ H
  replace S:=S.call S2;clear S2
  refine wpList_nil (And.intro (S.sel [0,1] G G) ?_)
  refine qF H<|qr 2 rfl<|qK ?_;clear H a;intro a H
  refine aF H G G G G (fun _ S=>(aC bP rfl)) ?_;clear H a;intro a H
  refine aF H G G G G (fun _ S=>(aC bE rfl)) ?_;clear H a;intro a H
  refine aF H G G G G (fun _ S=>aH aE rfl (boxM.rd S (i:=0) G G)) ?_;clear H a;intro a H
  refine aF H G G G G (fun _ S=>Does.to (cU G G) (congrArg Value.bool (decide_eq_true (by omega)))) ?_;clear H a;intro a H
  refine qF H<|qd rfl (fun _ S=>(aW G G G))<|qr 1 rfl<|qK ?_;clear H a;intro a H
  refine aJ H G G G G G ?_;clear H a;intro a H
  refine aJ H G G G G G ?_;clear H a;intro a H
  refine aJ H G G G G G ?_;clear H a;intro a H
  refine aJ H G G G G G ?_;clear H a;intro a H
  refine aJ H G G G G G ?_;clear H a;intro a H
  refine aJ H G G G G G ?_;clear H a;intro a H
  refine aJ H G G G G G ?_;clear H a;intro a H
  refine qF H<|qd rfl (fun _ S=>(aU G G G))<|qr 1 rfl<|qK ?_;clear H a;intro a H
  refine aJ H G G G G G ?_;clear H a;intro a H
  refine aJ H G G G G G ?_;clear H a;intro a H
  refine aJ H G G G G G ?_;clear H a;intro a H
  refine aJ H G G G G G ?_;clear H a;intro a H
  refine qF H<|qd rfl (fun _ S=>(aU G G G))<|qr 1 rfl<|qK ?_;clear H a;intro a H
  refine aJ H G G G G G ?_;clear H a;intro a H
  refine aJ H G G G G G ?_;clear H a;intro a H
  refine aJ H G G G G G ?_;clear H a;intro a H
  refine qF H<|qd rfl (fun _ S=>(aU G G G))<|qr 1 rfl<|qK ?_;clear H a;intro a H
  refine aJ H G G G G G ?_;clear H a;intro a H
  refine aJ H G G G G G ?_;clear H a;intro a H
  refine aJ H G G G G G ?_;clear H a;intro a H
  refine aJ H G G G G G ?_;clear H a;intro a H
  refine aJ H G G G G G ?_;clear H a;intro a H
  refine aJ H G G G G G ?_;clear H a;intro a H
  refine aJ H G G G G G ?_;clear H a;intro a H
  refine qF H<|qd rfl (fun _ S=>(aU G G G))<|qK ?_;clear H a;intro a H
  refine bN ?_
  refine k11 _ _ ?_
  clear k11 K11
  refine cond_ H rfl (fun hc4=>?_) (fun hc4=>?_)
  ·skip
   skip
   replace H:=H.keep [] rfl
   refine sS H fun K12 k12=>sr 1 rfl<|sE ?_;clear H a;intro a H
   refine k12 _ ?_;clear k12 K12
   refine wp_ret ?_
   refine ret1 (fn:=Tryz.f75) rfl H rfl ?_
   refine ⟨?_,(S.sel [] G G)⟩;unfold stopE;rw [if_pos hesc,if_neg (by unfold stpOk;simp only [decide_eq_true_eq];omega)]
  skip
  exact absurd hc4 (by decide)
 ·skip
  skip
  have hE:=cZ hesc
  dsimp only at hE
  obtain ⟨hE1,hE2,hE3,hE4,hE5⟩:=hE
  replace H:=H.keep [2,3] rfl
  replace S:=S.drew
  refine seq_wq [(0,true),(1,true),(2,false),(3,false),(4,true),(5,true),(6,true),(7,true),(8,true),(9,true),(10,true),(11,true),(12,true),(13,true),(14,true),(15,true),(16,true),(17,true),(18,true),(19,true),(20,true),(21,true),(22,true),(23,true),(24,true),(25,true),(26,true),(27,true),(28,true),(29,true),(30,true),(31,true),(32,true),(33,true),(34,true),(35,true),(36,true),(37,true),(38,true),(39,true)] (by kernel_rfl) (by kernel_rfl) (S.sel [0,1] G G) fun K13 k13=>?_
  refine qF H<|qd rfl (fun _ S=>(aC gC rfl))<|qd rfl (fun _ S=>aH aE rfl (boxM.rd S (i:=0) G G))<|qK ?_;clear H a;intro a H
  refine aT rfl ?_
  refine aA H G G Tryz.func118 G G (dM _ _) ?_;clear H a
  rintro _ _ a ⟨rfl,S2⟩ H
  replace S:=S.call S2;clear S2
  refine wpList_nil (And.intro (S.sel [0,1] G G) ?_)
  refine aT rfl ?_
  refine aA H G G Tryz.func117 G G (cA (by omega)) ?_;clear H a
  rintro _ _ a ⟨rfl,S2⟩ H
  replace S:=S.call S2;clear S2
  refine wpList_nil (And.intro (S.sel [0,1] G G) ?_)
  refine qF H<|qr 2 rfl<|qK ?_;clear H a;intro a H
  refine aF H G G G G (fun _ S=>(aC bP rfl)) ?_;clear H a;intro a H
  refine aF H G G G G (fun _ S=>(aC bE rfl)) ?_;clear H a;intro a H
  refine aF H G G G G (fun _ S=>aH aE rfl (boxM.rd S (i:=0) G G)) ?_;clear H a;intro a H
  refine aF H G G G G (fun _ S=>Does.to (cU G G) (congrArg Value.bool (decide_eq_false (by omega)))) ?_;clear H a;intro a H
  refine qF H<|qd rfl (fun _ S=>(aW G G G))<|qr 1 rfl<|qK ?_;clear H a;intro a H
  refine aF H G G G G (fun _ S=>(aC bP rfl)) ?_;clear H a;intro a H
  refine aF H G G G G (fun _ S=>(aC bE rfl)) ?_;clear H a;intro a H
  refine aF H G G G G (fun _ S=>aH aE rfl (boxM.rd S (i:=0) G G)) ?_;clear H a;intro a H
  refine aF H G G G G (fun _ S=>(aC bP rfl)) ?_;clear H a;intro a H
  refine aF H G G G G (fun _ S=>(aC bB rfl)) ?_;clear H a;intro a H
  refine aF H G G G G (fun _ S=>aH aE rfl (boxM.rd S (i:=0) G G)) ?_;clear H a;intro a H
  refine aF H G G G G (fun _ S=>Does.to (bU G G) (congrArg Value.bool (decide_eq_true (by omega)))) ?_;clear H a;intro a H
  refine qF H<|qd rfl (fun _ S=>(aW G G G))<|qr 1 rfl<|qK ?_;clear H a;intro a H
  refine aJ H G G G G G ?_;clear H a;intro a H
  refine aJ H G G G G G ?_;clear H a;intro a H
  refine aJ H G G G G G ?_;clear H a;intro a H
  refine aJ H G G G G G ?_;clear H a;intro a H
  refine qF H<|qd rfl (fun _ S=>(aU G G G))<|qr 1 rfl<|qK ?_;clear H a;intro a H
  refine aJ H G G G G G ?_;clear H a;intro a H
  refine aJ H G G G G G ?_;clear H a;intro a H
  refine aJ H G G G G G ?_;clear H a;intro a H
  refine qF H<|qd rfl (fun _ S=>(aU G G G))<|qr 1 rfl<|qK ?_;clear H a;intro a H
  refine aJ H G G G G G ?_;clear H a;intro a H
  refine aJ H G G G G G ?_;clear H a;intro a H
  refine aJ H G G G G G ?_;clear H a;intro a H
  refine aJ H G G G G G ?_;clear H a;intro a H
  refine aJ H G G G G G ?_;clear H a;intro a H
  refine aJ H G G G G G ?_;clear H a;intro a H
  refine aJ H G G G G G ?_;clear H a;intro a H
  refine qF H<|qd rfl (fun _ S=>(aU G G G))<|qK ?_;clear H a;intro a H
  refine bN ?_
  refine k13 _ _ ?_
  clear k13 K13
  refine cond_ H rfl (fun hc5=>?_) (fun hc5=>?_)
  ·skip
   skip
   replace H:=H.keep [] rfl
   refine sS H fun K14 k14=>sr 1 rfl<|sE ?_;clear H a;intro a H
   refine k14 _ ?_;clear k14 K14
   refine wp_ret ?_
   refine ret1 (fn:=Tryz.f75) rfl H rfl ?_
   refine ⟨?_,(S.sel [] G G)⟩;unfold stopE;rw [if_pos hesc,if_neg (by unfold stpOk;simp only [decide_eq_true_eq];omega)]
  skip
  exact absurd hc5 (by decide)
 ·skip
  skip
  have hE:=cZ hesc
  dsimp only at hE
  obtain ⟨hE1,hE2,hE3,hE4,hE5⟩:=hE
  replace H:=H.keep [2,3] rfl
  replace S:=S.drew
  refine seq_wq [(0,true),(1,true),(2,false),(3,false),(4,true),(5,true),(6,true),(7,true),(8,true),(9,true),(10,true),(11,true),(12,true),(13,true),(14,true),(15,true),(16,true),(17,true),(18,true),(19,true),(20,true),(21,true),(22,true),(23,true),(24,true),(25,true),(26,true),(27,true),(28,true),(29,true),(30,true),(31,true),(32,true),(33,true),(34,true),(35,true),(36,true),(37,true),(38,true),(39,true)] (by kernel_rfl) (by kernel_rfl) (S.sel [0,1] G G) fun K15 k15=>?_
  refine qF H<|qd rfl (fun _ S=>(aC gC rfl))<|qd rfl (fun _ S=>aH aE rfl (boxM.rd S (i:=0) G G))<|qK ?_;clear H a;intro a H
  refine aT rfl ?_
  refine aA H G G Tryz.func118 G G (dM _ _) ?_;clear H a
  rintro _ _ a ⟨rfl,S2⟩ H
  replace S:=S.call S2;clear S2
  refine wpList_nil (And.intro (S.sel [0,1] G G) ?_)
  refine aT rfl ?_
  refine aA H G G Tryz.func117 G G (cA (by omega)) ?_;clear H a
  rintro _ _ a ⟨rfl,S2⟩ H
  replace S:=S.call S2;clear S2
  refine wpList_nil (And.intro (S.sel [0,1] G G) ?_)
  refine qF H<|qr 2 rfl<|qK ?_;clear H a;intro a H
  refine aF H G G G G (fun _ S=>(aC bP rfl)) ?_;clear H a;intro a H
  refine aF H G G G G (fun _ S=>(aC bE rfl)) ?_;clear H a;intro a H
  refine aF H G G G G (fun _ S=>aH aE rfl (boxM.rd S (i:=0) G G)) ?_;clear H a;intro a H
  refine aF H G G G G (fun _ S=>Does.to (cU G G) (congrArg Value.bool (decide_eq_false (by omega)))) ?_;clear H a;intro a H
  refine qF H<|qd rfl (fun _ S=>(aW G G G))<|qr 1 rfl<|qK ?_;clear H a;intro a H
  refine aF H G G G G (fun _ S=>(aC bP rfl)) ?_;clear H a;intro a H
  refine aF H G G G G (fun _ S=>(aC bE rfl)) ?_;clear H a;intro a H
  refine aF H G G G G (fun _ S=>aH aE rfl (boxM.rd S (i:=0) G G)) ?_;clear H a;intro a H
  refine aF H G G G G (fun _ S=>(aC bP rfl)) ?_;clear H a;intro a H
  refine aF H G G G G (fun _ S=>(aC bB rfl)) ?_;clear H a;intro a H
  refine aF H G G G G (fun _ S=>aH aE rfl (boxM.rd S (i:=0) G G)) ?_;clear H a;intro a H
  refine aF H G G G G (fun _ S=>Does.to (bU G G) (congrArg Value.bool (decide_eq_false (by omega)))) ?_;clear H a;intro a H
  refine qF H<|qd rfl (fun _ S=>(aW G G G))<|qr 1 rfl<|qK ?_;clear H a;intro a H
  refine aF H G G G G (fun _ S=>(aC bP rfl)) ?_;clear H a;intro a H
  refine aF H G G G G (fun _ S=>(aC bB rfl)) ?_;clear H a;intro a H
  refine aF H G G G G (fun _ S=>aH aE rfl (boxM.rd S (i:=0) G G)) ?_;clear H a;intro a H
  refine aF H G G G G (fun _ S=>Does.to (bU G G) (congrArg Value.bool (decide_eq_true (by omega)))) ?_;clear H a;intro a H
  refine qF H<|qd rfl (fun _ S=>(aW G G G))<|qr 1 rfl<|qK ?_;clear H a;intro a H
  refine aJ H G G G G G ?_;clear H a;intro a H
  refine aJ H G G G G G ?_;clear H a;intro a H
  refine aJ H G G G G G ?_;clear H a;intro a H
  refine qF H<|qd rfl (fun _ S=>(aU G G G))<|qr 1 rfl<|qK ?_;clear H a;intro a H
  refine aJ H G G G G G ?_;clear H a;intro a H
  refine aJ H G G G G G ?_;clear H a;intro a H
  refine aJ H G G G G G ?_;clear H a;intro a H
  refine aJ H G G G G G ?_;clear H a;intro a H
  refine aJ H G G G G G ?_;clear H a;intro a H
  refine aJ H G G G G G ?_;clear H a;intro a H
  refine aJ H G G G G G ?_;clear H a;intro a H
  refine qF H<|qd rfl (fun _ S=>(aU G G G))<|qK ?_;clear H a;intro a H
  refine bN ?_
  refine k15 _ _ ?_
  clear k15 K15
  refine cond_ H rfl (fun hc6=>?_) (fun hc6=>?_)
  ·skip
   skip
   replace H:=H.keep [] rfl
   refine sS H fun K16 k16=>sr 1 rfl<|sE ?_;clear H a;intro a H
   refine k16 _ ?_;clear k16 K16
   refine wp_ret ?_
   refine ret1 (fn:=Tryz.f75) rfl H rfl ?_
   refine ⟨?_,(S.sel [] G G)⟩;unfold stopE;rw [if_pos hesc,if_neg (by unfold stpOk;simp only [decide_eq_true_eq];omega)]
  skip
  exact absurd hc6 (by decide)
 ·skip
  skip
  have hE:=cZ hesc
  dsimp only at hE
  obtain ⟨hE1,hE2,hE3,hE4,hE5⟩:=hE
  replace H:=H.keep [2,3] rfl
  replace S:=S.drew
  refine seq_wq [(0,true),(1,true),(2,false),(3,false),(4,true),(5,true),(6,true),(7,true),(8,true),(9,true),(10,true),(11,true),(12,true),(13,true),(14,true),(15,true),(16,true),(17,true),(18,true),(19,true),(20,true),(21,true),(22,true),(23,true),(24,true),(25,true),(26,true),(27,true),(28,true),(29,true),(30,true),(31,true),(32,true),(33,true),(34,true),(35,true),(36,true),(37,true),(38,true),(39,true)] (by kernel_rfl) (by kernel_rfl) (S.sel [0,1] G G) fun K17 k17=>?_
  refine qF H<|qd rfl (fun _ S=>(aC gC rfl))<|qd rfl (fun _ S=>aH aE rfl (boxM.rd S (i:=0) G G))<|qK ?_;clear H a;intro a H
  refine aT rfl ?_
  refine aA H G G Tryz.func118 G G (dM _ _) ?_;clear H a
  rintro _ _ a ⟨rfl,S2⟩ H
  replace S:=S.call S2;clear S2
  refine wpList_nil (And.intro (S.sel [0,1] G G) ?_)
  refine aT rfl ?_
  refine aA H G G Tryz.func117 G G (cA (by omega)) ?_;clear H a
  rintro _ _ a ⟨rfl,S2⟩ H
  replace S:=S.call S2;clear S2
  refine wpList_nil (And.intro (S.sel [0,1] G G) ?_)
  refine qF H<|qr 2 rfl<|qK ?_;clear H a;intro a H
  refine aF H G G G G (fun _ S=>(aC bP rfl)) ?_;clear H a;intro a H
  refine aF H G G G G (fun _ S=>(aC bE rfl)) ?_;clear H a;intro a H
  refine aF H G G G G (fun _ S=>aH aE rfl (boxM.rd S (i:=0) G G)) ?_;clear H a;intro a H
  refine aF H G G G G (fun _ S=>Does.to (cU G G) (congrArg Value.bool (decide_eq_false (by omega)))) ?_;clear H a;intro a H
  refine qF H<|qd rfl (fun _ S=>(aW G G G))<|qr 1 rfl<|qK ?_;clear H a;intro a H
  refine aF H G G G G (fun _ S=>(aC bP rfl)) ?_;clear H a;intro a H
  refine aF H G G G G (fun _ S=>(aC bE rfl)) ?_;clear H a;intro a H
  refine aF H G G G G (fun _ S=>aH aE rfl (boxM.rd S (i:=0) G G)) ?_;clear H a;intro a H
  refine aF H G G G G (fun _ S=>(aC bP rfl)) ?_;clear H a;intro a H
  refine aF H G G G G (fun _ S=>(aC bB rfl)) ?_;clear H a;intro a H
  refine aF H G G G G (fun _ S=>aH aE rfl (boxM.rd S (i:=0) G G)) ?_;clear H a;intro a H
  refine aF H G G G G (fun _ S=>Does.to (bU G G) (congrArg Value.bool (decide_eq_false (by omega)))) ?_;clear H a;intro a H
  refine qF H<|qd rfl (fun _ S=>(aW G G G))<|qr 1 rfl<|qK ?_;clear H a;intro a H
  refine aF H G G G G (fun _ S=>(aC bP rfl)) ?_;clear H a;intro a H
  refine aF H G G G G (fun _ S=>(aC bB rfl)) ?_;clear H a;intro a H
  refine aF H G G G G (fun _ S=>aH aE rfl (boxM.rd S (i:=0) G G)) ?_;clear H a;intro a H
  refine aF H G G G G (fun _ S=>Does.to (bU G G) (congrArg Value.bool (decide_eq_false (by omega)))) ?_;clear H a;intro a H
  refine qF H<|qd rfl (fun _ S=>(aW G G G))<|qr 1 rfl<|qK ?_;clear H a;intro a H
  refine aF H G G G G (fun _ S=>(aC jU rfl)) ?_;clear H a;intro a H
  refine aF H G G G G (fun _ S=>aH aE rfl (boxM.rd S (i:=0) G G)) ?_;clear H a;intro a H
  refine aF H G G G G (fun _ S=>Does.to (cU G G) (congrArg Value.bool (decide_eq_true (by omega)))) ?_;clear H a;intro a H
  refine qF H<|qd rfl (fun _ S=>(aW G G G))<|qr 1 rfl<|qK ?_;clear H a;intro a H
  refine aJ H G G G G G ?_;clear H a;intro a H
  refine aJ H G G G G G ?_;clear H a;intro a H
  refine aJ H G G G G G ?_;clear H a;intro a H
  refine aJ H G G G G G ?_;clear H a;intro a H
  refine aJ H G G G G G ?_;clear H a;intro a H
  refine aJ H G G G G G ?_;clear H a;intro a H
  refine aJ H G G G G G ?_;clear H a;intro a H
  refine qF H<|qd rfl (fun _ S=>(aU G G G))<|qK ?_;clear H a;intro a H
  refine bN ?_
  refine k17 _ _ ?_
  clear k17 K17
  refine cond_ H rfl (fun hc7=>?_) (fun hc7=>?_)
  ·skip
   skip
   replace H:=H.keep [] rfl
   refine sS H fun K18 k18=>sr 1 rfl<|sE ?_;clear H a;intro a H
   refine k18 _ ?_;clear k18 K18
   refine wp_ret ?_
   refine ret1 (fn:=Tryz.f75) rfl H rfl ?_
   refine ⟨?_,(S.sel [] G G)⟩;unfold stopE;rw [if_pos hesc,if_neg (by unfold stpOk;simp only [decide_eq_true_eq];omega)]
  skip
  exact absurd hc7 (by decide)
 ·skip
  skip
  have hE:=cZ hesc
  dsimp only at hE
  obtain ⟨hE1,hE2,hE3,hE4,hE5⟩:=hE
  replace H:=H.keep [2,3] rfl
  replace S:=S.drew
  refine seq_wq [(0,true),(1,true),(2,false),(3,false),(4,true),(5,true),(6,true),(7,true),(8,true),(9,true),(10,true),(11,true),(12,true),(13,true),(14,true),(15,true),(16,true),(17,true),(18,true),(19,true),(20,true),(21,true),(22,true),(23,true),(24,true),(25,true),(26,true),(27,true),(28,true),(29,true),(30,true),(31,true),(32,true),(33,true),(34,true),(35,true),(36,true),(37,true),(38,true),(39,true)] (by kernel_rfl) (by kernel_rfl) (S.sel [0,1] G G) fun K19 k19=>?_
  refine qF H<|qd rfl (fun _ S=>(aC gC rfl))<|qd rfl (fun _ S=>aH aE rfl (boxM.rd S (i:=0) G G))<|qK ?_;clear H a;intro a H
  refine aT rfl ?_
  refine aA H G G Tryz.func118 G G (dM _ _) ?_;clear H a
  rintro _ _ a ⟨rfl,S2⟩ H
  replace S:=S.call S2;clear S2
  refine wpList_nil (And.intro (S.sel [0,1] G G) ?_)
  refine aT rfl ?_
  refine aA H G G Tryz.func117 G G (cA (by omega)) ?_;clear H a
  rintro _ _ a ⟨rfl,S2⟩ H
  replace S:=S.call S2;clear S2
  refine wpList_nil (And.intro (S.sel [0,1] G G) ?_)
  refine qF H<|qr 2 rfl<|qK ?_;clear H a;intro a H
  refine aF H G G G G (fun _ S=>(aC bP rfl)) ?_;clear H a;intro a H
  refine aF H G G G G (fun _ S=>(aC bE rfl)) ?_;clear H a;intro a H
  refine aF H G G G G (fun _ S=>aH aE rfl (boxM.rd S (i:=0) G G)) ?_;clear H a;intro a H
  refine aF H G G G G (fun _ S=>Does.to (cU G G) (congrArg Value.bool (decide_eq_false (by omega)))) ?_;clear H a;intro a H
  refine qF H<|qd rfl (fun _ S=>(aW G G G))<|qr 1 rfl<|qK ?_;clear H a;intro a H
  refine aF H G G G G (fun _ S=>(aC bP rfl)) ?_;clear H a;intro a H
  refine aF H G G G G (fun _ S=>(aC bE rfl)) ?_;clear H a;intro a H
  refine aF H G G G G (fun _ S=>aH aE rfl (boxM.rd S (i:=0) G G)) ?_;clear H a;intro a H
  refine aF H G G G G (fun _ S=>(aC bP rfl)) ?_;clear H a;intro a H
  refine aF H G G G G (fun _ S=>(aC bB rfl)) ?_;clear H a;intro a H
  refine aF H G G G G (fun _ S=>aH aE rfl (boxM.rd S (i:=0) G G)) ?_;clear H a;intro a H
  refine aF H G G G G (fun _ S=>Does.to (bU G G) (congrArg Value.bool (decide_eq_false (by omega)))) ?_;clear H a;intro a H
  refine qF H<|qd rfl (fun _ S=>(aW G G G))<|qr 1 rfl<|qK ?_;clear H a;intro a H
  refine aF H G G G G (fun _ S=>(aC bP rfl)) ?_;clear H a;intro a H
  refine aF H G G G G (fun _ S=>(aC bB rfl)) ?_;clear H a;intro a H
  refine aF H G G G G (fun _ S=>aH aE rfl (boxM.rd S (i:=0) G G)) ?_;clear H a;intro a H
  refine aF H G G G G (fun _ S=>Does.to (bU G G) (congrArg Value.bool (decide_eq_false (by omega)))) ?_;clear H a;intro a H
  refine qF H<|qd rfl (fun _ S=>(aW G G G))<|qr 1 rfl<|qK ?_;clear H a;intro a H
  refine aF H G G G G (fun _ S=>(aC jU rfl)) ?_;clear H a;intro a H
  refine aF H G G G G (fun _ S=>aH aE rfl (boxM.rd S (i:=0) G G)) ?_;clear H a;intro a H
  refine aF H G G G G (fun _ S=>Does.to (cU G G) (congrArg Value.bool (decide_eq_false (by omega)))) ?_;clear H a;intro a H
  refine qF H<|qd rfl (fun _ S=>(aW G G G))<|qr 1 rfl<|qK ?_;clear H a;intro a H
  refine aF H G G G G (fun _ S=>(aC jU rfl)) ?_;clear H a;intro a H
  refine aF H G G G G (fun _ S=>aH aE rfl (boxM.rd S (i:=0) G G)) ?_;clear H a;intro a H
  refine aF H G G G G (fun _ S=>(aC jW rfl)) ?_;clear H a;intro a H
  refine aF H G G G G (fun _ S=>aH lU rfl (boxM.rd S (i:=1) G G)) ?_;clear H a;intro a H
  refine aF H G G G G (fun _ S=>cD kM rfl) ?_;clear H a;intro a H
  refine aF H G G G G (fun _ S=>dG G G (by omega) (by omega) (by unfold i64ok;omega)) ?_;clear H a;intro a H
  refine aF H G G G G (fun _ S=>Does.to (qJ G G) (congrArg Value.bool (decide_eq_true (by omega)))) ?_;clear H a;intro a H
  refine qF H<|qd rfl (fun _ S=>(aW G G G))<|qK ?_;clear H a;intro a H
  refine bN ?_
  refine k19 _ _ ?_
  clear k19 K19
  refine cond_ H rfl (fun hc8=>?_) (fun hc8=>?_)
  ·skip
   skip
   replace H:=H.keep [] rfl
   refine sS H fun K20 k20=>sr 1 rfl<|sE ?_;clear H a;intro a H
   refine k20 _ ?_;clear k20 K20
   refine wp_ret ?_
   refine ret1 (fn:=Tryz.f75) rfl H rfl ?_
   refine ⟨?_,(S.sel [] G G)⟩;unfold stopE;rw [if_pos hesc,if_neg (by unfold stpOk;simp only [decide_eq_true_eq];omega)]
  skip
  exact absurd hc8 (by decide)
 skip
 have hE:=cZ hesc
 dsimp only at hE
 obtain ⟨hE1,hE2,hE3,hE4,hE5⟩:=hE
 replace H:=H.keep [2,3] rfl
 replace S:=S.drew
 refine seq_wq [(0,true),(1,true),(2,false),(3,false),(4,true),(5,true),(6,true),(7,true),(8,true),(9,true),(10,true),(11,true),(12,true),(13,true),(14,true),(15,true),(16,true),(17,true),(18,true),(19,true),(20,true),(21,true),(22,true),(23,true),(24,true),(25,true),(26,true),(27,true),(28,true),(29,true),(30,true),(31,true),(32,true),(33,true),(34,true),(35,true),(36,true),(37,true),(38,true),(39,true)] (by kernel_rfl) (by kernel_rfl) (S.sel [0,1] G G) fun K21 k21=>?_
 refine qF H<|qd rfl (fun _ S=>(aC gC rfl))<|qd rfl (fun _ S=>aH aE rfl (boxM.rd S (i:=0) G G))<|qK ?_;clear H a;intro a H
 refine aT rfl ?_
 refine aA H G G Tryz.func118 G G (dM _ _) ?_;clear H a
 rintro _ _ a ⟨rfl,S2⟩ H
 replace S:=S.call S2;clear S2
 refine wpList_nil (And.intro (S.sel [0,1] G G) ?_)
 refine aT rfl ?_
 refine aA H G G Tryz.func117 G G (cA (by omega)) ?_;clear H a
 rintro _ _ a ⟨rfl,S2⟩ H
 replace S:=S.call S2;clear S2
 refine wpList_nil (And.intro (S.sel [0,1] G G) ?_)
 refine qF H<|qr 2 rfl<|qK ?_;clear H a;intro a H
 refine aF H G G G G (fun _ S=>(aC bP rfl)) ?_;clear H a;intro a H
 refine aF H G G G G (fun _ S=>(aC bE rfl)) ?_;clear H a;intro a H
 refine aF H G G G G (fun _ S=>aH aE rfl (boxM.rd S (i:=0) G G)) ?_;clear H a;intro a H
 refine aF H G G G G (fun _ S=>Does.to (cU G G) (congrArg Value.bool (decide_eq_false (by omega)))) ?_;clear H a;intro a H
 refine qF H<|qd rfl (fun _ S=>(aW G G G))<|qr 1 rfl<|qK ?_;clear H a;intro a H
 refine aF H G G G G (fun _ S=>(aC bP rfl)) ?_;clear H a;intro a H
 refine aF H G G G G (fun _ S=>(aC bE rfl)) ?_;clear H a;intro a H
 refine aF H G G G G (fun _ S=>aH aE rfl (boxM.rd S (i:=0) G G)) ?_;clear H a;intro a H
 refine aF H G G G G (fun _ S=>(aC bP rfl)) ?_;clear H a;intro a H
 refine aF H G G G G (fun _ S=>(aC bB rfl)) ?_;clear H a;intro a H
 refine aF H G G G G (fun _ S=>aH aE rfl (boxM.rd S (i:=0) G G)) ?_;clear H a;intro a H
 refine aF H G G G G (fun _ S=>Does.to (bU G G) (congrArg Value.bool (decide_eq_false (by omega)))) ?_;clear H a;intro a H
 refine qF H<|qd rfl (fun _ S=>(aW G G G))<|qr 1 rfl<|qK ?_;clear H a;intro a H
 refine aF H G G G G (fun _ S=>(aC bP rfl)) ?_;clear H a;intro a H
 refine aF H G G G G (fun _ S=>(aC bB rfl)) ?_;clear H a;intro a H
 refine aF H G G G G (fun _ S=>aH aE rfl (boxM.rd S (i:=0) G G)) ?_;clear H a;intro a H
 refine aF H G G G G (fun _ S=>Does.to (bU G G) (congrArg Value.bool (decide_eq_false (by omega)))) ?_;clear H a;intro a H
 refine qF H<|qd rfl (fun _ S=>(aW G G G))<|qr 1 rfl<|qK ?_;clear H a;intro a H
 refine aF H G G G G (fun _ S=>(aC jU rfl)) ?_;clear H a;intro a H
 refine aF H G G G G (fun _ S=>aH aE rfl (boxM.rd S (i:=0) G G)) ?_;clear H a;intro a H
 refine aF H G G G G (fun _ S=>Does.to (cU G G) (congrArg Value.bool (decide_eq_false (by omega)))) ?_;clear H a;intro a H
 refine qF H<|qd rfl (fun _ S=>(aW G G G))<|qr 1 rfl<|qK ?_;clear H a;intro a H
 refine aF H G G G G (fun _ S=>(aC jU rfl)) ?_;clear H a;intro a H
 refine aF H G G G G (fun _ S=>aH aE rfl (boxM.rd S (i:=0) G G)) ?_;clear H a;intro a H
 refine aF H G G G G (fun _ S=>(aC jW rfl)) ?_;clear H a;intro a H
 refine aF H G G G G (fun _ S=>aH lU rfl (boxM.rd S (i:=1) G G)) ?_;clear H a;intro a H
 refine aF H G G G G (fun _ S=>cD kM rfl) ?_;clear H a;intro a H
 refine aF H G G G G (fun _ S=>dG G G (by omega) (by omega) (by unfold i64ok;omega)) ?_;clear H a;intro a H
 refine aF H G G G G (fun _ S=>Does.to (qJ G G) (congrArg Value.bool (decide_eq_false (by omega)))) ?_;clear H a;intro a H
 refine qF H<|qd rfl (fun _ S=>(aW G G G))<|qK ?_;clear H a;intro a H
 refine bN ?_
 refine k21 _ _ ?_
 clear k21 K21
 refine cond_ H rfl (fun hc9=>?_) (fun hc9=>?_)
 ·skip
  skip
  exact absurd hc9 (by decide)
 skip
 refine wp_skip ?_
 refine k8 _ _ ?_
 replace H:=H.keep [] rfl
 refine sS H fun K22 k22=>sr 1 rfl<|sE ?_;clear H a;intro a H
 refine k22 _ ?_;clear k22 K22
 refine wp_ret ?_
 refine ret1 (fn:=Tryz.f75) rfl H rfl ?_
 refine ⟨?_,(S.sel [] G G)⟩;unfold stopE;rw [if_pos hesc,if_pos (by unfold stpOk;simp only [decide_eq_true_eq];omega)]
theorem oK (up:Bool) (empty pull drag motor:Int) (br:List Brake) (BA:Option Addr) (bcp:Nat) (sp slo shi sfail:Int) (mb:Nat) (v:Int) (t:Nat) (x:Int) (w:World) (F:Nat→Prop) (S:St w F [boxM mb 231 [.bool up,.int .i64 empty,.int .i64 pull,.int .i64 drag,.int .i64 motor,.slice BA br.length bcp,.int .i64 sp,.int .i64 slo,.int .i64 shi,.int .i64 sfail,.int .i64 (v),.int .i64 (t:Int)]] w) (hb:InS w F 2 BA br.length (bcell br)) (hesc:escOk (⟨up,empty,pull,drag,motor,br⟩:Esc)=true) (hstp:stpOk (⟨up,empty,pull,drag,motor,br⟩:Esc) (⟨sp,slo,shi,sfail⟩:Stp)=true) (hx:slo≤x∧x≤shi) (ht:t≤1000) (hv : -900000000000≤v∧v≤900000000000) :
    Calls Tryz.prog 148 [.pointer (some ⟨mb,0,none⟩),.int .i64 x].toArray w (Ret (fun u w'=>u = .int .i64 (tickI (⟨up,empty,pull,drag,motor,br⟩:Esc) v x (gripI (⟨up,empty,pull,drag,motor,br⟩:Esc) (⟨sp,slo,shi,sfail⟩:Stp) (t:Int)))∧St w F [boxM mb 231 [.bool up,.int .i64 empty,.int .i64 pull,.int .i64 drag,.int .i64 motor,.slice BA br.length bcp,.int .i64 sp,.int .i64 slo,.int .i64 shi,.int .i64 sfail,.int .i64 (tickI (⟨up,empty,pull,drag,motor,br⟩:Esc) v x (gripI (⟨up,empty,pull,drag,motor,br⟩:Esc) (⟨sp,slo,shi,sfail⟩:Stp) (t:Int))),.int .i64 ((t:Int)+1)]] w')):=by
 have hE:=cZ hesc
 dsimp only at hE
 obtain ⟨hE1,hE2,hE3,hE4,hE5⟩:=hE
 have hS1:=hstp;unfold stpOk at hS1;simp only [decide_eq_true_eq] at hS1
 have hgb:=wP (fail:=sfail) (t:=t) (l:=br) (by unfold escOk at hesc;simp only [Bool.and_eq_true] at hesc;exact hesc.2) br.length (Nat.le_refl _)
 have hgr:0≤gripI (⟨up,empty,pull,drag,motor,br⟩:Esc) (⟨sp,slo,shi,sfail⟩:Stp) (t:Int)∧gripI (⟨up,empty,pull,drag,motor,br⟩:Esc) (⟨sp,slo,shi,sfail⟩:Stp) (t:Int)≤30000000:=by unfold gripI;dsimp only;omega
 refine enter Tryz.func148 rfl Tryz.ntmps148 rfl (fun a H=>?_)
 skip
 refine sS H fun K1 k1=>sr 1 rfl<|sE ?_;clear H a;intro a H
 refine k1 _ ?_;clear k1 K1
 replace H:=H.keep [0,1] rfl
 replace S:=S.drew
 refine seq_wt 15 (.p 0 (.p 1 (.p 2 (.p 3 (.p 5 (.p 6 (.p 7 (.p 9 (.p 10 (.b3 4 (.b2 8 (.e 11 (.e 12 (.p 13 (.p 14 (.e 15 .nil))))) 11 (.e 8 (.e 12 (.p 13 (.p 14 (.e 15 .nil)))))) 8 (.b2 4 (.e 11 (.e 12 (.p 13 (.p 14 (.e 15 .nil))))) 11 (.e 4 (.e 12 (.p 13 (.p 14 (.e 15 .nil)))))) 11 (.b2 4 (.e 8 (.e 12 (.p 13 (.p 14 (.e 15 .nil))))) 8 (.e 4 (.e 12 (.p 13 (.p 14 (.e 15 .nil)))))))))))))))) (by kernel_rfl) (by kernel_rfl) (S.sel [0] G G) fun K2 k2=>?_
 refine bG H G G (fun _=>aL rfl) ?_;clear H a;intro a H
 refine bG H G G (fun _=>aL rfl) ?_;clear H a;intro a H
 refine bG H G G (fun _=>cE rfl) ?_;clear H a;intro a H
 refine bG H G G (fun _=>(aC xR rfl)) ?_;clear H a;intro a H
 refine bG H G G (fun _=>aL rfl) ?_;clear H a;intro a H
 refine bG H G G (fun _=>cE rfl) ?_;clear H a;intro a H
 refine bG H G G (fun _=>(aC cN rfl)) ?_;clear H a;intro a H
 refine bG H G G (fun _=>aL rfl) ?_;clear H a;intro a H
 refine bG H G G (fun _=>aL rfl) ?_;clear H a;intro a H
 refine tO G G G ?_ ?_ ?_
 ·skip
  refine ls 1 H<|sd ((aB fG gV rfl S (i:=0) G G))<|sE ?_;clear H a;intro a H
  refine wpList_nil (And.intro (Or.inr (S.sel [0] G G)) ?_)
  refine dZ G G ?_ ?_
  ·skip
   refine ls 1 H<|sl S 0 aE G G G<|sE ?_;clear H a;intro a H
   refine wpList_nil (And.intro (Or.inr (S.sel [0] G G)) ?_)
   refine aM rfl ?_
   have S1:=(S.sel [0] G G)
   refine aA H G G Tryz.func179 G G (lR up empty pull drag motor br BA bcp sp slo shi sfail mb v t _ _ S1.startR (hb.nowR S1) hesc hstp) ?_;clear H a
   rintro _ _ a ⟨rfl,S2⟩ H
   replace S:=(S.sel [0] G G).callR (M:=[_]) S2;clear S1 S2
   refine wpList_nil (And.intro (Or.inr (S.sel [0] G G)) ?_)
   refine aM rfl ?_
   refine aA H G G Tryz.func178 G G (kE up empty pull drag motor br BA bcp v x _ _ hesc (by omega) (by omega) (by omega)) ?_;clear H a
   rintro _ _ a ⟨rfl,S2⟩ H
   replace S:=S.call S2;clear S2
   refine wpList_nil (And.intro (Or.inr (S.sel [0] G G)) ?_)
   refine bG H G G (fun _=>cE rfl) ?_;clear H a;intro a H
   refine bG H G G (fun _=>(aC cN rfl)) ?_;clear H a;intro a H
   refine aM rfl ?_
   refine aD H S (i:=0) G G G G bA G G ?_
   clear H a S;intro _ a S H
   refine wpList_nil (And.intro (Or.inl rfl) ?_)
   refine bC ?_
   refine k2 _ _ ?_
   clear k2 K2
   replace H:=H.keep [0] rfl
   refine seq_list fun K3 k3=>?_
   refine ls 7 H<|sr 2 rfl<|sf dR rfl<|sl S 0 aE G G G<|sd (aK G G (by unfold i64ok;omega))<|sr 1 rfl<|sf dR rfl<|sE ?_;clear H a;intro a H
   refine aD H S (i:=0) G G G G bA G G ?_
   clear H a S;intro _ a S H
   refine k3 _ _ ?_;clear k3 K3
   replace H:=H.keep [0] rfl
   refine sS H fun K4 k4=>sr 2 rfl<|sf cN rfl<|sl S 0 aE G G G<|sr 1 rfl<|sE ?_;clear H a;intro a H
   refine k4 _ ?_;clear k4 K4
   refine wp_ret ?_
   refine ret1 (fn:=Tryz.f148) rfl H rfl ?_
   exact ⟨rfl,(S.sel [0] G G)⟩
  ·skip
   have S1:=(S.sel [0] G G)
   refine aA H G G Tryz.func179 G G (lR up empty pull drag motor br BA bcp sp slo shi sfail mb v t _ _ S1.startR (hb.nowR S1) hesc hstp) ?_;clear H a
   rintro _ _ a ⟨rfl,S2⟩ H
   replace S:=(S.sel [0] G G).callR (M:=[_]) S2;clear S1 S2
   refine wpList_nil (And.intro (Or.inr (S.sel [0] G G)) ?_)
   refine aM rfl ?_
   refine ls 1 H<|sl S 0 aE G G G<|sE ?_;clear H a;intro a H
   refine wpList_nil (And.intro (Or.inr (S.sel [0] G G)) ?_)
   refine aM rfl ?_
   refine aA H G G Tryz.func178 G G (kE up empty pull drag motor br BA bcp v x _ _ hesc (by omega) (by omega) (by omega)) ?_;clear H a
   rintro _ _ a ⟨rfl,S2⟩ H
   replace S:=S.call S2;clear S2
   refine wpList_nil (And.intro (Or.inr (S.sel [0] G G)) ?_)
   refine bG H G G (fun _=>cE rfl) ?_;clear H a;intro a H
   refine bG H G G (fun _=>(aC cN rfl)) ?_;clear H a;intro a H
   refine aM rfl ?_
   refine aD H S (i:=0) G G G G bA G G ?_
   clear H a S;intro _ a S H
   refine wpList_nil (And.intro (Or.inl rfl) ?_)
   refine bC ?_
   refine k2 _ _ ?_
   clear k2 K2
   replace H:=H.keep [0] rfl
   refine seq_list fun K5 k5=>?_
   refine ls 7 H<|sr 2 rfl<|sf dR rfl<|sl S 0 aE G G G<|sd (aK G G (by unfold i64ok;omega))<|sr 1 rfl<|sf dR rfl<|sE ?_;clear H a;intro a H
   refine aD H S (i:=0) G G G G bA G G ?_
   clear H a S;intro _ a S H
   refine k5 _ _ ?_;clear k5 K5
   replace H:=H.keep [0] rfl
   refine sS H fun K6 k6=>sr 2 rfl<|sf cN rfl<|sl S 0 aE G G G<|sr 1 rfl<|sE ?_;clear H a;intro a H
   refine k6 _ ?_;clear k6 K6
   refine wp_ret ?_
   refine ret1 (fn:=Tryz.f148) rfl H rfl ?_
   exact ⟨rfl,(S.sel [0] G G)⟩
 ·skip
  refine ls 1 H<|sl S 0 aE G G G<|sE ?_;clear H a;intro a H
  refine wpList_nil (And.intro (Or.inr (S.sel [0] G G)) ?_)
  refine dZ G G ?_ ?_
  ·skip
   refine ls 1 H<|sd ((aB fG gV rfl S (i:=0) G G))<|sE ?_;clear H a;intro a H
   refine wpList_nil (And.intro (Or.inr (S.sel [0] G G)) ?_)
   refine aM rfl ?_
   have S1:=(S.sel [0] G G)
   refine aA H G G Tryz.func179 G G (lR up empty pull drag motor br BA bcp sp slo shi sfail mb v t _ _ S1.startR (hb.nowR S1) hesc hstp) ?_;clear H a
   rintro _ _ a ⟨rfl,S2⟩ H
   replace S:=(S.sel [0] G G).callR (M:=[_]) S2;clear S1 S2
   refine wpList_nil (And.intro (Or.inr (S.sel [0] G G)) ?_)
   refine aM rfl ?_
   refine aA H G G Tryz.func178 G G (kE up empty pull drag motor br BA bcp v x _ _ hesc (by omega) (by omega) (by omega)) ?_;clear H a
   rintro _ _ a ⟨rfl,S2⟩ H
   replace S:=S.call S2;clear S2
   refine wpList_nil (And.intro (Or.inr (S.sel [0] G G)) ?_)
   refine bG H G G (fun _=>cE rfl) ?_;clear H a;intro a H
   refine bG H G G (fun _=>(aC cN rfl)) ?_;clear H a;intro a H
   refine aM rfl ?_
   refine aD H S (i:=0) G G G G bA G G ?_
   clear H a S;intro _ a S H
   refine wpList_nil (And.intro (Or.inl rfl) ?_)
   refine bC ?_
   refine k2 _ _ ?_
   clear k2 K2
   replace H:=H.keep [0] rfl
   refine seq_list fun K7 k7=>?_
   refine ls 7 H<|sr 2 rfl<|sf dR rfl<|sl S 0 aE G G G<|sd (aK G G (by unfold i64ok;omega))<|sr 1 rfl<|sf dR rfl<|sE ?_;clear H a;intro a H
   refine aD H S (i:=0) G G G G bA G G ?_
   clear H a S;intro _ a S H
   refine k7 _ _ ?_;clear k7 K7
   replace H:=H.keep [0] rfl
   refine sS H fun K8 k8=>sr 2 rfl<|sf cN rfl<|sl S 0 aE G G G<|sr 1 rfl<|sE ?_;clear H a;intro a H
   refine k8 _ ?_;clear k8 K8
   refine wp_ret ?_
   refine ret1 (fn:=Tryz.f148) rfl H rfl ?_
   exact ⟨rfl,(S.sel [0] G G)⟩
  ·skip
   have S1:=(S.sel [0] G G)
   refine aA H G G Tryz.func179 G G (lR up empty pull drag motor br BA bcp sp slo shi sfail mb v t _ _ S1.startR (hb.nowR S1) hesc hstp) ?_;clear H a
   rintro _ _ a ⟨rfl,S2⟩ H
   replace S:=(S.sel [0] G G).callR (M:=[_]) S2;clear S1 S2
   refine wpList_nil (And.intro (Or.inr (S.sel [0] G G)) ?_)
   refine aM rfl ?_
   refine ls 1 H<|sd ((aB fG gV rfl S (i:=0) G G))<|sE ?_;clear H a;intro a H
   refine wpList_nil (And.intro (Or.inr (S.sel [0] G G)) ?_)
   refine aM rfl ?_
   refine aA H G G Tryz.func178 G G (kE up empty pull drag motor br BA bcp v x _ _ hesc (by omega) (by omega) (by omega)) ?_;clear H a
   rintro _ _ a ⟨rfl,S2⟩ H
   replace S:=S.call S2;clear S2
   refine wpList_nil (And.intro (Or.inr (S.sel [0] G G)) ?_)
   refine bG H G G (fun _=>cE rfl) ?_;clear H a;intro a H
   refine bG H G G (fun _=>(aC cN rfl)) ?_;clear H a;intro a H
   refine aM rfl ?_
   refine aD H S (i:=0) G G G G bA G G ?_
   clear H a S;intro _ a S H
   refine wpList_nil (And.intro (Or.inl rfl) ?_)
   refine bC ?_
   refine k2 _ _ ?_
   clear k2 K2
   replace H:=H.keep [0] rfl
   refine seq_list fun K9 k9=>?_
   refine ls 7 H<|sr 2 rfl<|sf dR rfl<|sl S 0 aE G G G<|sd (aK G G (by unfold i64ok;omega))<|sr 1 rfl<|sf dR rfl<|sE ?_;clear H a;intro a H
   refine aD H S (i:=0) G G G G bA G G ?_
   clear H a S;intro _ a S H
   refine k9 _ _ ?_;clear k9 K9
   replace H:=H.keep [0] rfl
   refine sS H fun K10 k10=>sr 2 rfl<|sf cN rfl<|sl S 0 aE G G G<|sr 1 rfl<|sE ?_;clear H a;intro a H
   refine k10 _ ?_;clear k10 K10
   refine wp_ret ?_
   refine ret1 (fn:=Tryz.f148) rfl H rfl ?_
   exact ⟨rfl,(S.sel [0] G G)⟩
 ·skip
  have S1:=(S.sel [0] G G)
  refine aA H G G Tryz.func179 G G (lR up empty pull drag motor br BA bcp sp slo shi sfail mb v t _ _ S1.startR (hb.nowR S1) hesc hstp) ?_;clear H a
  rintro _ _ a ⟨rfl,S2⟩ H
  replace S:=(S.sel [0] G G).callR (M:=[_]) S2;clear S1 S2
  refine wpList_nil (And.intro (Or.inr (S.sel [0] G G)) ?_)
  refine dZ G G ?_ ?_
  ·skip
   refine ls 1 H<|sd ((aB fG gV rfl S (i:=0) G G))<|sE ?_;clear H a;intro a H
   refine wpList_nil (And.intro (Or.inr (S.sel [0] G G)) ?_)
   refine aM rfl ?_
   refine ls 1 H<|sl S 0 aE G G G<|sE ?_;clear H a;intro a H
   refine wpList_nil (And.intro (Or.inr (S.sel [0] G G)) ?_)
   refine aM rfl ?_
   refine aA H G G Tryz.func178 G G (kE up empty pull drag motor br BA bcp v x _ _ hesc (by omega) (by omega) (by omega)) ?_;clear H a
   rintro _ _ a ⟨rfl,S2⟩ H
   replace S:=S.call S2;clear S2
   refine wpList_nil (And.intro (Or.inr (S.sel [0] G G)) ?_)
   refine bG H G G (fun _=>cE rfl) ?_;clear H a;intro a H
   refine bG H G G (fun _=>(aC cN rfl)) ?_;clear H a;intro a H
   refine aM rfl ?_
   refine aD H S (i:=0) G G G G bA G G ?_
   clear H a S;intro _ a S H
   refine wpList_nil (And.intro (Or.inl rfl) ?_)
   refine bC ?_
   refine k2 _ _ ?_
   clear k2 K2
   replace H:=H.keep [0] rfl
   refine seq_list fun K11 k11=>?_
   refine ls 7 H<|sr 2 rfl<|sf dR rfl<|sl S 0 aE G G G<|sd (aK G G (by unfold i64ok;omega))<|sr 1 rfl<|sf dR rfl<|sE ?_;clear H a;intro a H
   refine aD H S (i:=0) G G G G bA G G ?_
   clear H a S;intro _ a S H
   refine k11 _ _ ?_;clear k11 K11
   replace H:=H.keep [0] rfl
   refine sS H fun K12 k12=>sr 2 rfl<|sf cN rfl<|sl S 0 aE G G G<|sr 1 rfl<|sE ?_;clear H a;intro a H
   refine k12 _ ?_;clear k12 K12
   refine wp_ret ?_
   refine ret1 (fn:=Tryz.f148) rfl H rfl ?_
   exact ⟨rfl,(S.sel [0] G G)⟩
  ·skip
   refine ls 1 H<|sl S 0 aE G G G<|sE ?_;clear H a;intro a H
   refine wpList_nil (And.intro (Or.inr (S.sel [0] G G)) ?_)
   refine aM rfl ?_
   refine ls 1 H<|sd ((aB fG gV rfl S (i:=0) G G))<|sE ?_;clear H a;intro a H
   refine wpList_nil (And.intro (Or.inr (S.sel [0] G G)) ?_)
   refine aM rfl ?_
   refine aA H G G Tryz.func178 G G (kE up empty pull drag motor br BA bcp v x _ _ hesc (by omega) (by omega) (by omega)) ?_;clear H a
   rintro _ _ a ⟨rfl,S2⟩ H
   replace S:=S.call S2;clear S2
   refine wpList_nil (And.intro (Or.inr (S.sel [0] G G)) ?_)
   refine bG H G G (fun _=>cE rfl) ?_;clear H a;intro a H
   refine bG H G G (fun _=>(aC cN rfl)) ?_;clear H a;intro a H
   refine aM rfl ?_
   refine aD H S (i:=0) G G G G bA G G ?_
   clear H a S;intro _ a S H
   refine wpList_nil (And.intro (Or.inl rfl) ?_)
   refine bC ?_
   refine k2 _ _ ?_
   clear k2 K2
   replace H:=H.keep [0] rfl
   refine seq_list fun K13 k13=>?_
   refine ls 7 H<|sr 2 rfl<|sf dR rfl<|sl S 0 aE G G G<|sd (aK G G (by unfold i64ok;omega))<|sr 1 rfl<|sf dR rfl<|sE ?_;clear H a;intro a H
   refine aD H S (i:=0) G G G G bA G G ?_
   clear H a S;intro _ a S H
   refine k13 _ _ ?_;clear k13 K13
   replace H:=H.keep [0] rfl
   refine sS H fun K14 k14=>sr 2 rfl<|sf cN rfl<|sl S 0 aE G G G<|sr 1 rfl<|sE ?_;clear H a;intro a H
   refine k14 _ ?_;clear k14 K14
   refine wp_ret ?_
   refine ret1 (fn:=Tryz.f148) rfl H rfl ?_
   exact ⟨rfl,(S.sel [0] G G)⟩
end
section
theorem pN (up:Bool) (empty pull drag motor:Int) (br:List Brake) (BA:Option Addr) (bcp:Nat) (sp slo shi sfail:Int) (mb:Nat) (v:Int) (t:Nat) (most:Bool) (w:World) (F:Nat→Prop) (S:St w F [boxM mb 231 [.bool up,.int .i64 empty,.int .i64 pull,.int .i64 drag,.int .i64 motor,.slice BA br.length bcp,.int .i64 sp,.int .i64 slo,.int .i64 shi,.int .i64 sfail,.int .i64 (v),.int .i64 (t:Int)]] w) (hb:InS w F 2 BA br.length (bcell br)) (hesc:escOk (⟨up,empty,pull,drag,motor,br⟩:Esc)=true) (hstp:stpOk (⟨up,empty,pull,drag,motor,br⟩:Esc) (⟨sp,slo,shi,sfail⟩:Stp)=true) (ht:t≤1000) (hv : -900000000000≤v∧v≤900000000000) :
    Calls Tryz.prog 119 [.pointer (some ⟨mb,0,none⟩),.bool most].toArray w (Ret (fun u w'=>∃ n:Int,u = .int .i64 n∧St w F [boxM mb 231 [.bool up,.int .i64 empty,.int .i64 pull,.int .i64 drag,.int .i64 motor,.slice BA br.length bcp,.int .i64 sp,.int .i64 slo,.int .i64 shi,.int .i64 sfail,.int .i64 (extI (⟨up,empty,pull,drag,motor,br⟩:Esc) (⟨sp,slo,shi,sfail⟩:Stp) most v (t:Int)),.int .i64 ((t:Int)+1)]] w')):=by
 have hE:=cZ hesc
 dsimp only at hE
 obtain ⟨hE1,hE2,hE3,hE4,hE5⟩:=hE
 have hS1:=hstp;unfold stpOk at hS1;simp only [decide_eq_true_eq] at hS1
 refine enter Tryz.func119 rfl Tryz.ntmps119 rfl (fun a H=>?_)
 skip
 refine sS H fun K1 k1=>sr 1 rfl<|sE ?_;clear H a;intro a H
 refine k1 _ ?_;clear k1 K1
 replace H:=H.keep [0,1] rfl
 replace S:=S.drew
 refine seq_wt 999999 (.q 0 (.q 1 (.q 2 (.q 3 (.q 4 (.q 5 (.b2 6 (.e 7 (.e 8 (.e 9 .nil))) 7 (.e 6 (.e 8 (.e 9 .nil)))))))))) (by kernel_rfl) (by kernel_rfl) (S.sel [0] G G) fun K2 k2=>?_
 refine aG H G G (fun _ S=>aL rfl) ?_;clear H a;intro a H
 refine aG H G G (fun _ S=>cE rfl) ?_;clear H a;intro a H
 refine aG H G G (fun _ S=>(aB lV fM rfl S (i:=0) G G)) ?_;clear H a;intro a H
 refine aG H G G (fun _ S=>aL rfl) ?_;clear H a;intro a H
 refine aG H G G (fun _ S=>cE rfl) ?_;clear H a;intro a H
 refine aG H G G (fun _ S=>(aB lV fM rfl S (i:=0) G G)) ?_;clear H a;intro a H
 refine dZ G G ?_ ?_
 ·skip
  refine aI H rfl S oT ?_;clear H a S;intro b5 _ a hb5 hbw5 S H
  refine wpList_nil (And.intro (Or.inr (S.sel [1] G G)) ?_)
  refine aM rfl ?_
  refine aI H rfl S oT ?_;clear H a S;intro b6 _ a hb6 hbw6 S H
  refine wpList_nil (And.intro (Or.inr (S.sel [2] G G)) ?_)
  refine aM rfl ?_
  refine aD H S (i:=1) G G G G fM G G ?_
  clear H a S;intro _ a S H
  refine wpList_nil (And.intro (Or.inr (S.sel [2] G G)) ?_)
  refine aM rfl ?_
  refine aD H S (i:=0) G G G G fM G G ?_
  clear H a S;intro _ a S H
  refine wpList_nil (And.intro (Or.inr (S.sel [2] G G)) ?_)
  refine bC ?_
  refine k2 _ _ ?_
  clear k2 K2
  replace H:=H.keep [0,1,5,6] rfl
  replace S:=S.drew
  refine seq_wq [(0,true),(1,true),(2,true),(3,true),(4,true),(5,true),(7,true),(8,true),(9,true),(10,true),(11,true),(12,true),(6,false),(13,false),(14,true),(15,true)] (by kernel_rfl) (by kernel_rfl) (S.sel [2] G G) fun K3 k3=>?_
  refine qF H<|qr 2 rfl<|qd rfl (fun _ S=>(aC gD rfl))<|qd rfl (fun _ S=>(aC bP rfl))<|qd rfl (fun _ S=>(aC bE rfl))<|qd rfl (fun _ S=>aH aE rfl (boxM.rd S (i:=0) G G))<|qr 2 rfl<|qd rfl (fun _ S=>(aC gD rfl))<|qd rfl (fun _ S=>(aC bP rfl))<|qd rfl (fun _ S=>(aC bB rfl))<|qd rfl (fun _ S=>aH aE rfl (boxM.rd S (i:=0) G G))<|qK ?_;clear H a;intro a H
  refine aT rfl ?_
  have S1:=(S.sel [1] G G)
  refine aA H G G Tryz.func148 G G (oK up empty pull drag motor br BA bcp sp slo shi sfail b5 v t slo _ _ S1.startR (hb.nowR S1) hesc hstp (by omega) (by omega) (by omega)) ?_;clear H a
  rintro _ _ a ⟨rfl,S2⟩ H
  replace S:=(S.sel [1,0,2] G G).callR (M:=[_]) S2;clear S1 S2
  refine wpList_nil (And.intro (S.sel [2] G G) ?_)
  refine aT rfl ?_
  have S1:=(S.sel [1] G G)
  refine aA H G G Tryz.func148 G G (oK up empty pull drag motor br BA bcp sp slo shi sfail b6 v t shi _ _ S1.startR (hb.nowR S1) hesc hstp (by omega) (by omega) (by omega)) ?_;clear H a
  rintro _ _ a ⟨rfl,S2⟩ H
  replace S:=(S.sel [1,0,2] G G).callR (M:=[_]) S2;clear S1 S2
  refine wpList_nil (And.intro (S.sel [2] G G) ?_)
  refine qF H<|qr 2 rfl<|qK ?_;clear H a;intro a H
  refine bN ?_
  refine k3 _ _ ?_
  clear k3 K3
  refine wp_seq_k fun K4 k4=>?_
  replace H:=H.keep [0,1,5,6,7,8] rfl
  refine sS H fun K5 k5=>sr 2 rfl<|sg 3 1 30 33 true G G (fun hg2=>sy hg2<|sr 1 rfl<|sy hg2<|sr 1 rfl<|sy hg2<|sr 1 rfl<|sz 3 G G G)<|sa G G G<|sr 1 rfl<|sg 7 6 35 42 false G G (fun hg7=>sy hg7<|sr 1 rfl<|sy hg7<|sr 1 rfl<|sy hg7<|sr 1 rfl<|sg 3 9 38 41 true G G (fun hg10=>sy hg10<|sr 1 rfl<|sy hg10<|sr 1 rfl<|sy hg10<|sr 1 rfl<|sz 3 G G G)<|sy hg7<|sa G G G<|sz 5 G G G)<|so G G G<|sE ?_;clear H a;intro a H
  refine k5 _ ?_;clear k5 K5
  refine cond_ H rfl (fun hc1=>?_) (fun hc1=>?_)
  ·skip
   try simp only [o1,o2,o3,o4,o5,o6,o7,o8,o9,oa] at hc1
   have hcx:=hc1
   replace H:=H.keep [0,6] rfl
   refine seq_list fun K6 k6=>?_
   refine ls 3 H<|sr 1 rfl<|sd ((aB lV fM rfl S (i:=0) G G))<|sr 1 rfl<|sE ?_;clear H a;intro a H
   refine aD H S (i:=2) G G G G fM G G ?_
   clear H a S;intro _ a S H
   refine k6 _ _ ?_;clear k6 K6
   replace H:=H.keep [0] rfl
   refine sS H fun K7 k7=>sr 2 rfl<|sf gD rfl<|sf bP rfl<|sf bB rfl<|sl S 2 aE G G G<|sr 1 rfl<|sE ?_;clear H a;intro a H
   refine k7 _ ?_;clear k7 K7
   refine wp_ret ?_
   refine ret1 (fn:=Tryz.f119) rfl H rfl ?_
   first|(rw [wQ (by cases most <;> simp at hcx ⊢ <;> omega)];exact ⟨_,rfl,(S.sel [2] G G)⟩)|(rw [wR (by cases most <;> simp at hcx ⊢ <;> omega)];exact ⟨_,rfl,(S.sel [2] G G)⟩)
  try simp only [o1,o2,o3,o4,o5,o6,o7,o8,o9,oa] at hc1
  have hcx:=hc1
  refine wp_skip ?_
  refine k4 _ _ ?_
  replace H:=H.keep [0,5] rfl
  refine seq_list fun K8 k8=>?_
  refine ls 3 H<|sr 1 rfl<|sd ((aB lV fM rfl S (i:=1) G G))<|sr 1 rfl<|sE ?_;clear H a;intro a H
  refine aD H S (i:=2) G G G G fM G G ?_
  clear H a S;intro _ a S H
  refine k8 _ _ ?_;clear k8 K8
  replace H:=H.keep [0] rfl
  refine sS H fun K9 k9=>sr 2 rfl<|sf gD rfl<|sf bP rfl<|sf bE rfl<|sl S 2 aE G G G<|sr 1 rfl<|sE ?_;clear H a;intro a H
  refine k9 _ ?_;clear k9 K9
  refine wp_ret ?_
  refine ret1 (fn:=Tryz.f119) rfl H rfl ?_
  first|(rw [wQ (by cases most <;> simp at hcx ⊢ <;> omega)];exact ⟨_,rfl,(S.sel [2] G G)⟩)|(rw [wR (by cases most <;> simp at hcx ⊢ <;> omega)];exact ⟨_,rfl,(S.sel [2] G G)⟩)
 ·skip
  refine aI H rfl S oT ?_;clear H a S;intro b6 _ a hb6 hbw6 S H
  refine wpList_nil (And.intro (Or.inr (S.sel [1] G G)) ?_)
  refine aM rfl ?_
  refine aI H rfl S oT ?_;clear H a S;intro b5 _ a hb5 hbw5 S H
  refine wpList_nil (And.intro (Or.inr (S.sel [2] G G)) ?_)
  refine aM rfl ?_
  refine aD H S (i:=0) G G G G fM G G ?_
  clear H a S;intro _ a S H
  refine wpList_nil (And.intro (Or.inr (S.sel [2] G G)) ?_)
  refine aM rfl ?_
  refine aD H S (i:=1) G G G G fM G G ?_
  clear H a S;intro _ a S H
  refine wpList_nil (And.intro (Or.inr (S.sel [2] G G)) ?_)
  refine bC ?_
  refine k2 _ _ ?_
  clear k2 K2
  replace H:=H.keep [0,1,5,6] rfl
  replace S:=S.drew
  refine seq_wq [(0,true),(1,true),(2,true),(3,true),(4,true),(5,true),(7,true),(8,true),(9,true),(10,true),(11,true),(12,true),(6,false),(13,false),(14,true),(15,true)] (by kernel_rfl) (by kernel_rfl) (S.sel [2] G G) fun K10 k10=>?_
  refine qF H<|qr 2 rfl<|qd rfl (fun _ S=>(aC gD rfl))<|qd rfl (fun _ S=>(aC bP rfl))<|qd rfl (fun _ S=>(aC bE rfl))<|qd rfl (fun _ S=>aH aE rfl (boxM.rd S (i:=0) G G))<|qr 2 rfl<|qd rfl (fun _ S=>(aC gD rfl))<|qd rfl (fun _ S=>(aC bP rfl))<|qd rfl (fun _ S=>(aC bB rfl))<|qd rfl (fun _ S=>aH aE rfl (boxM.rd S (i:=0) G G))<|qK ?_;clear H a;intro a H
  refine aT rfl ?_
  have S1:=(S.sel [0] G G)
  refine aA H G G Tryz.func148 G G (oK up empty pull drag motor br BA bcp sp slo shi sfail b5 v t slo _ _ S1.startR (hb.nowR S1) hesc hstp (by omega) (by omega) (by omega)) ?_;clear H a
  rintro _ _ a ⟨rfl,S2⟩ H
  replace S:=(S.sel [0,1,2] G G).callR (M:=[_]) S2;clear S1 S2
  refine wpList_nil (And.intro (S.sel [2] G G) ?_)
  refine aT rfl ?_
  have S1:=(S.sel [1] G G)
  refine aA H G G Tryz.func148 G G (oK up empty pull drag motor br BA bcp sp slo shi sfail b6 v t shi _ _ S1.startR (hb.nowR S1) hesc hstp (by omega) (by omega) (by omega)) ?_;clear H a
  rintro _ _ a ⟨rfl,S2⟩ H
  replace S:=(S.sel [1,0,2] G G).callR (M:=[_]) S2;clear S1 S2
  refine wpList_nil (And.intro (S.sel [2] G G) ?_)
  refine qF H<|qr 2 rfl<|qK ?_;clear H a;intro a H
  refine bN ?_
  refine k10 _ _ ?_
  clear k10 K10
  refine wp_seq_k fun K11 k11=>?_
  replace H:=H.keep [0,1,5,6,7,8] rfl
  refine sS H fun K12 k12=>sr 2 rfl<|sg 3 1 30 33 true G G (fun hg2=>sy hg2<|sr 1 rfl<|sy hg2<|sr 1 rfl<|sy hg2<|sr 1 rfl<|sz 3 G G G)<|sa G G G<|sr 1 rfl<|sg 7 6 35 42 false G G (fun hg7=>sy hg7<|sr 1 rfl<|sy hg7<|sr 1 rfl<|sy hg7<|sr 1 rfl<|sg 3 9 38 41 true G G (fun hg10=>sy hg10<|sr 1 rfl<|sy hg10<|sr 1 rfl<|sy hg10<|sr 1 rfl<|sz 3 G G G)<|sy hg7<|sa G G G<|sz 5 G G G)<|so G G G<|sE ?_;clear H a;intro a H
  refine k12 _ ?_;clear k12 K12
  refine cond_ H rfl (fun hc2=>?_) (fun hc2=>?_)
  ·skip
   try simp only [o1,o2,o3,o4,o5,o6,o7,o8,o9,oa] at hc2
   have hcx:=hc2
   replace H:=H.keep [0,6] rfl
   refine seq_list fun K13 k13=>?_
   refine ls 3 H<|sr 1 rfl<|sd ((aB lV fM rfl S (i:=0) G G))<|sr 1 rfl<|sE ?_;clear H a;intro a H
   refine aD H S (i:=2) G G G G fM G G ?_
   clear H a S;intro _ a S H
   refine k13 _ _ ?_;clear k13 K13
   replace H:=H.keep [0] rfl
   refine sS H fun K14 k14=>sr 2 rfl<|sf gD rfl<|sf bP rfl<|sf bB rfl<|sl S 2 aE G G G<|sr 1 rfl<|sE ?_;clear H a;intro a H
   refine k14 _ ?_;clear k14 K14
   refine wp_ret ?_
   refine ret1 (fn:=Tryz.f119) rfl H rfl ?_
   first|(rw [wQ (by cases most <;> simp at hcx ⊢ <;> omega)];exact ⟨_,rfl,(S.sel [2] G G)⟩)|(rw [wR (by cases most <;> simp at hcx ⊢ <;> omega)];exact ⟨_,rfl,(S.sel [2] G G)⟩)
  try simp only [o1,o2,o3,o4,o5,o6,o7,o8,o9,oa] at hc2
  have hcx:=hc2
  refine wp_skip ?_
  refine k11 _ _ ?_
  replace H:=H.keep [0,5] rfl
  refine seq_list fun K15 k15=>?_
  refine ls 3 H<|sr 1 rfl<|sd ((aB lV fM rfl S (i:=1) G G))<|sr 1 rfl<|sE ?_;clear H a;intro a H
  refine aD H S (i:=2) G G G G fM G G ?_
  clear H a S;intro _ a S H
  refine k15 _ _ ?_;clear k15 K15
  replace H:=H.keep [0] rfl
  refine sS H fun K16 k16=>sr 2 rfl<|sf gD rfl<|sf bP rfl<|sf bE rfl<|sl S 2 aE G G G<|sr 1 rfl<|sE ?_;clear H a;intro a H
  refine k16 _ ?_;clear k16 K16
  refine wp_ret ?_
  refine ret1 (fn:=Tryz.f119) rfl H rfl ?_
  first|(rw [wQ (by cases most <;> simp at hcx ⊢ <;> omega)];exact ⟨_,rfl,(S.sel [2] G G)⟩)|(rw [wR (by cases most <;> simp at hcx ⊢ <;> omega)];exact ⟨_,rfl,(S.sel [2] G G)⟩)
theorem wS {e:Esc} {s:Stp} {m:Bool} {g:Nat} {v t:Int} (hg:0<g) (hv:v≠0):goI e s m g v t=(extI e s m v t+(goI e s m (g-1) (extI e s m v t) (t+1)).1,(goI e s m (g-1) (extI e s m v t) (t+1)).2):=by
  obtain ⟨n,rfl⟩:∃ n,g=n+1:=⟨g-1,by omega⟩
  rw [goI,if_neg hv,Nat.add_sub_cancel]
theorem Pf {e:Esc} {s:Stp} {m:Bool} {g:Nat} {v t:Int} (h:v=0∨g=0):goI e s m g v t=(0,decide (v=0)):=by
  cases g with
  | zero=>rfl
  | succ n=>
    rcases h with h|h
    · rw [goI,if_pos h,decide_eq_true h]
    · cases h
theorem Ss {e:Esc} {s:Stp} {m:Bool} {v t B:Int} (he:escOk e=true) (hs:stpOk e s=true) (hv : -B≤v∧v≤B) : -(B+50000000)≤extI e s m v t∧extI e s m v t≤B+50000000:=by
  have hS:=hs;unfold stpOk at hS;simp only [decide_eq_true_eq] at hS
  have hq:e.br.all gL=true:=by unfold escOk at he;simp only [Bool.and_eq_true] at he;exact he.2
  have hgb:=wP (fail:=s.fail) (t:=t) hq e.br.length (Nat.le_refl _)
  have hE:=(cZ he).1
  have hgr:0≤gripI e s t∧gripI e s t≤30000000:=by unfold gripI;omega
  rcases Sr (e:=e) (s:=s) (m:=m) (v:=v) (t:=t) with h|h
  · rw [h];exact Cz he (by omega) hgr hv
  · rw [h];exact Cz he (by omega) hgr hv
theorem dY (up:Bool) (empty pull drag motor:Int) (br:List Brake) (BA:Option Addr) (bcp:Nat) (sp slo shi sfail:Int) (most:Bool) (w:World) (hb:InS w noF 2 BA br.length (bcell br)) (hbn:br.length≤9223372036854775807) (hesc:escOk (⟨up,empty,pull,drag,motor,br⟩:Esc)=true) (hstp:stpOk (⟨up,empty,pull,drag,motor,br⟩:Esc) (⟨sp,slo,shi,sfail⟩:Stp)=true) :
    Calls Tryz.prog 76 [.agg [.bool up,.int .i64 empty,.int .i64 pull,.int .i64 drag,.int .i64 motor,.slice BA br.length bcp].toArray,.agg [.int .i64 sp,.int .i64 slo,.int .i64 shi,.int .i64 sfail].toArray,.bool most].toArray w (Ret (fun u w'=>∃ A' n c' f,u = .agg [.int .i64 (goI (⟨up,empty,pull,drag,motor,br⟩:Esc) (⟨sp,slo,shi,sfail⟩:Stp) most 100 sp 0).1,.slice A' n c',.bool (goI (⟨up,empty,pull,drag,motor,br⟩:Esc) (⟨sp,slo,shi,sfail⟩:Stp) most 100 sp 0).2].toArray∧St w noF [ownM 3 1 A' n c' f] w')):=by
 have hE:=cZ hesc
 dsimp only at hE
 obtain ⟨hE1,hE2,hE3,hE4,hE5⟩:=hE
 have hS1:=hstp;unfold stpOk at hS1;simp only [decide_eq_true_eq] at hS1
 have hmx:maxLen=9223372036854775807:=rfl
 refine enter Tryz.func76 rfl Tryz.ntmps76 rfl (fun a H=>?_)
 have S:=St.start w
 refine seq_list fun K1 k1=>?_
 refine aN H rfl S G G ?_;clear H a S;intro b3 _ a hb3 hbw3 S H
 refine aN H rfl S G G ?_;clear H a S;intro b4 _ a hb4 hbw4 S H
 refine aI H rfl S dW ?_;clear H a S;intro b6 _ a hb6 hbw6 S H
 refine k1 _ _ ?_;clear k1 K1
 replace H:=H.keep [2,3,4,6] rfl
 refine seq_list fun K2 k2=>?_
 refine ls 5 H<|sd ((aB fG gV rfl S (i:=2) G G))<|sd ((aB nJ oR rfl S (i:=1) G G))<|sf gC rfl<|sl S 1 aE G G G<|sd (aP Qw G G)<|sE ?_;clear H a;intro a H
 refine aI H rfl S oT ?_;clear H a S;intro b7 _ a hb7 hbw7 S H
 refine aD H S (i:=0) G G G G fM G G ?_
 clear H a S;intro _ a S H
 refine k2 _ _ ?_;clear k2 K2
 replace H:=H.keep [2,4,6,7] rfl
 refine seq_list fun K3 k3=>?_
 refine ls 4 H<|sf gC rfl<|sl S 2 aE G G G<|sr 1 rfl<|sd (aP Qt G G)<|sE ?_;clear H a;intro a H
 refine aI H rfl S dW ?_;clear H a S;intro b8 _ a hb8 hbw8 S H
 refine aD H S (i:=0) G G G G cR G G ?_
 clear H a S;intro _ a S H
 refine k3 _ _ ?_;clear k3 K3
 refine wp_seq_k fun K4 k4=>?_
 refine wp_block ?_
 replace S:=S.newNil 3 1 (fun _ _=>undef)
 refine loop_st (X:=Int×Nat×Int×Option Addr×Nat×(Nat→Nat→Value)) (R0:=_) [2,6,7,8] H rfl (fun ⟨v,t,way,A',c',f'⟩=>[]) (fun ⟨v,t,way,A',c',f'⟩=>[boxM b7 231 [.bool up,.int .i64 empty,.int .i64 pull,.int .i64 drag,.int .i64 motor,.slice BA br.length bcp,.int .i64 sp,.int .i64 slo,.int .i64 shi,.int .i64 sfail,.int .i64 (v),.int .i64 (t:Int)],boxM b8 190 [.int .i64 way,.slice A' t c',.bool (decide (v=0))],ownM 3 1 A' t c' f']) (fun g ⟨v,t,way,A',c',f'⟩=>t≤100∧g+t=100∧(-(1000+50000000*(t:Int))≤v∧v≤1000+50000000*(t:Int))∧(-(6000000000*(t:Int))≤way∧way≤6000000000*(t:Int))∧way+(goI (⟨up,empty,pull,drag,motor,br⟩:Esc) (⟨sp,slo,shi,sfail⟩:Stp) most g v t).1=(goI (⟨up,empty,pull,drag,motor,br⟩:Esc) (⟨sp,slo,shi,sfail⟩:Stp) most 100 sp 0).1∧(goI (⟨up,empty,pull,drag,motor,br⟩:Esc) (⟨sp,slo,shi,sfail⟩:Stp) most g v t).2=(goI (⟨up,empty,pull,drag,motor,br⟩:Esc) (⟨sp,slo,shi,sfail⟩:Stp) most 100 sp 0).2) (100) (sp,0,0,none,0,fun _ _=>undef) ?_ (S.sel [2,1,0,3,4,5] G G) (H.keep [2,6,7,8] rfl) ?_
 · exact ⟨by omega,by omega,by omega,by omega,Int.zero_add _,rfl⟩
 clear H S a
 intro g1 x1 a w1 hp S H K5 k5
 obtain ⟨v,t,way,A',c',f'⟩:=x1
 dsimp only at hp S H
 refine wp_seq_k fun K6 k6=>?_
 refine sS H fun K7 k7=>sf lG rfl<|sl S 1 jE G G G<|sr 2 rfl<|sg 3 3 21 24 true G G (fun hg4=>sy hg4<|sf dR rfl<|sy hg4<|sl S 0 aE G G G<|sy hg4<|sr 1 rfl<|sz 3 G G G)<|sa G G G<|sE ?_;clear H a;intro a H
 refine k7 _ ?_;clear k7 K7
 refine cond_ H rfl (fun hc1=>?_) (fun hc1=>?_)
 ·skip
  try simp only [o1,o2,o3,o4,o5,o6,o7,o8,o9,oa] at hc1
  refine wp_skip ?_
  refine k6 _ _ ?_
  refine wp_block ?_
  have hxb:=Ss (m:=most) (v:=v) (t:=(t:Int)) (B:=1000+50000000*t) hesc hstp (by omega)
  replace H:=H.keep [2,6,7,8] rfl
  replace S:=S.drew
  refine seq_wt 7 (.p 0 (.p 2 (.b2 1 (.e 3 (.e 4 (.e 5 (.p 6 (.e 7 .nil))))) 3 (.b2 1 (.e 4 (.e 5 (.p 6 (.e 7 .nil)))) 4 (.e 1 (.e 5 (.p 6 (.e 7 .nil)))))))) (by kernel_rfl) (by kernel_rfl) (S.sel [3,4,5] G G) fun K8 k8=>?_
  refine bG H G G (fun _=>(aC jX rfl)) ?_;clear H a;intro a H
  refine bG H G G (fun _=>aL rfl) ?_;clear H a;intro a H
  refine dZ G G ?_ ?_
  ·skip
   refine ls 1 H<|sl S 1 bD G G G<|sE ?_;clear H a;intro a H
   refine wpList_nil (And.intro (Or.inr (S.sel [3,4,5] G G)) ?_)
   refine aM rfl ?_
   have S1:=(S.sel [0] G G)
   refine aA H G G Tryz.func119 G G (pN up empty pull drag motor br BA bcp sp slo shi sfail b7 v t most _ _ S1.startR (hb.nowR S1) hesc hstp (by omega) (by omega)) ?_;clear H a
   rintro _ _ a ⟨nl,rfl,S2⟩ H
   replace S:=(S.sel [0,1,2,3,4,5] G G).callR (M:=[_]) S2;clear S1 S2
   refine wpList_nil (And.intro (Or.inr (S.sel [3,4,5] G G)) ?_)
   refine aM rfl ?_
   refine aY H rfl S aS bA iC G G G G G G G G G ?_;clear H a S;intro A1 _ a hA1 S H
   refine wpList_nil (And.intro (Or.inr (S.sel [4,5,6] G G)) ?_)
   refine aM rfl ?_
   refine cB H rfl S aS bA iC rG G G (i:=3) G G G (ownM.inS S (i:=0) rfl) (iD (one rfl)) (by omega) (by omega) ?_;clear H a S;intro A2 c2 _ a S H
   refine wpList_nil (And.intro (Or.inr (S.sel [4,5,6] G G)) ?_)
   refine bG H G G (fun _=>(aC jX rfl)) ?_;clear H a;intro a H
   refine aM rfl ?_
   refine aD H S (i:=2) G G G G Hb G G ?_
   clear H a S;intro _ a S H
   refine wpList_nil (And.intro (Or.inl rfl) ?_)
   refine bC ?_
   refine k8 _ _ ?_
   clear k8 K8
   replace H:=H.keep [2,6,7,8] rfl
   refine seq_list fun K9 k9=>?_
   refine ls 6 H<|sf iA rfl<|sl S 2 aE G G G<|sf cN rfl<|sl S 1 aE G G G<|sd (aK G G (by unfold i64ok;omega))<|sf iA rfl<|sE ?_;clear H a;intro a H
   refine aD H S (i:=2) G G G G bA G G ?_
   clear H a S;intro _ a S H
   refine k9 _ _ ?_;clear k9 K9
   replace H:=H.keep [2,6,7,8] rfl
   refine one_list ?_
   refine ls 4 H<|sf cN rfl<|sl S 1 aE G G G<|sr 1 rfl<|sf lG rfl<|sE ?_;clear H a;intro a H
   refine aD H S (i:=2) G G G G Ha G G ?_
   clear H a S;intro _ a S H
   have hgs:=wS (e:=(⟨up,empty,pull,drag,motor,br⟩:Esc)) (s:=(⟨sp,slo,shi,sfail⟩:Stp)) (m:=most) (g:=g1) (v:=v) (t:=(t:Int)) (by omega) (by omega)
   exact k5 (g1-1) (extI (⟨up,empty,pull,drag,motor,br⟩:Esc) (⟨sp,slo,shi,sfail⟩:Stp) most v (t:Int),t+1,way+extI (⟨up,empty,pull,drag,motor,br⟩:Esc) (⟨sp,slo,shi,sfail⟩:Stp) most v (t:Int),_,_,_) a _ (by omega) (⟨by omega,by omega,by omega,by omega,by have h9:=hp.2.2.2.2.1;rw [hgs] at h9;(try dsimp only at h9 ⊢);push_cast;omega,by have h9:=hp.2.2.2.2.2;rw [hgs] at h9;exact h9⟩) (S.sel [1,2,3,4,5,6] G G) (H.keep [2,6,7,8] rfl)
  ·skip
   have S1:=(S.sel [0] G G)
   refine aA H G G Tryz.func119 G G (pN up empty pull drag motor br BA bcp sp slo shi sfail b7 v t most _ _ S1.startR (hb.nowR S1) hesc hstp (by omega) (by omega)) ?_;clear H a
   rintro _ _ a ⟨nl,rfl,S2⟩ H
   replace S:=(S.sel [0,1,2,3,4,5] G G).callR (M:=[_]) S2;clear S1 S2
   refine wpList_nil (And.intro (Or.inr (S.sel [3,4,5] G G)) ?_)
   refine dZ G G ?_ ?_
   ·skip
    refine ls 1 H<|sl S 1 bD G G G<|sE ?_;clear H a;intro a H
    refine wpList_nil (And.intro (Or.inr (S.sel [3,4,5] G G)) ?_)
    refine aM rfl ?_
    refine aY H rfl S aS bA iC G G G G G G G G G ?_;clear H a S;intro A3 _ a hA3 S H
    refine wpList_nil (And.intro (Or.inr (S.sel [4,5,6] G G)) ?_)
    refine aM rfl ?_
    refine cB H rfl S aS bA iC rG G G (i:=3) G G G (ownM.inS S (i:=0) rfl) (iD (one rfl)) (by omega) (by omega) ?_;clear H a S;intro A4 c4 _ a S H
    refine wpList_nil (And.intro (Or.inr (S.sel [4,5,6] G G)) ?_)
    refine bG H G G (fun _=>(aC jX rfl)) ?_;clear H a;intro a H
    refine aM rfl ?_
    refine aD H S (i:=2) G G G G Hb G G ?_
    clear H a S;intro _ a S H
    refine wpList_nil (And.intro (Or.inl rfl) ?_)
    refine bC ?_
    refine k8 _ _ ?_
    clear k8 K8
    replace H:=H.keep [2,6,7,8] rfl
    refine seq_list fun K11 k11=>?_
    refine ls 6 H<|sf iA rfl<|sl S 2 aE G G G<|sf cN rfl<|sl S 1 aE G G G<|sd (aK G G (by unfold i64ok;omega))<|sf iA rfl<|sE ?_;clear H a;intro a H
    refine aD H S (i:=2) G G G G bA G G ?_
    clear H a S;intro _ a S H
    refine k11 _ _ ?_;clear k11 K11
    replace H:=H.keep [2,6,7,8] rfl
    refine one_list ?_
    refine ls 4 H<|sf cN rfl<|sl S 1 aE G G G<|sr 1 rfl<|sf lG rfl<|sE ?_;clear H a;intro a H
    refine aD H S (i:=2) G G G G Ha G G ?_
    clear H a S;intro _ a S H
    have hgs:=wS (e:=(⟨up,empty,pull,drag,motor,br⟩:Esc)) (s:=(⟨sp,slo,shi,sfail⟩:Stp)) (m:=most) (g:=g1) (v:=v) (t:=(t:Int)) (by omega) (by omega)
    exact k5 (g1-1) (extI (⟨up,empty,pull,drag,motor,br⟩:Esc) (⟨sp,slo,shi,sfail⟩:Stp) most v (t:Int),t+1,way+extI (⟨up,empty,pull,drag,motor,br⟩:Esc) (⟨sp,slo,shi,sfail⟩:Stp) most v (t:Int),_,_,_) a _ (by omega) (⟨by omega,by omega,by omega,by omega,by have h9:=hp.2.2.2.2.1;rw [hgs] at h9;(try dsimp only at h9 ⊢);push_cast;omega,by have h9:=hp.2.2.2.2.2;rw [hgs] at h9;exact h9⟩) (S.sel [1,2,3,4,5,6] G G) (H.keep [2,6,7,8] rfl)
   ·skip
    refine aY H rfl S aS bA iC G G G G G G G G G ?_;clear H a S;intro A5 _ a hA5 S H
    refine wpList_nil (And.intro (Or.inr (S.sel [4,5,6] G G)) ?_)
    refine aM rfl ?_
    refine ls 1 H<|sl S 2 bD G G G<|sE ?_;clear H a;intro a H
    refine wpList_nil (And.intro (Or.inr (S.sel [4,5,6] G G)) ?_)
    refine aM rfl ?_
    refine cB H rfl S aS bA iC rG G G (i:=3) G G G (ownM.inS S (i:=0) rfl) (iD (one rfl)) (by omega) (by omega) ?_;clear H a S;intro A6 c6 _ a S H
    refine wpList_nil (And.intro (Or.inr (S.sel [4,5,6] G G)) ?_)
    refine bG H G G (fun _=>(aC jX rfl)) ?_;clear H a;intro a H
    refine aM rfl ?_
    refine aD H S (i:=2) G G G G Hb G G ?_
    clear H a S;intro _ a S H
    refine wpList_nil (And.intro (Or.inl rfl) ?_)
    refine bC ?_
    refine k8 _ _ ?_
    clear k8 K8
    replace H:=H.keep [2,6,7,8] rfl
    refine seq_list fun K13 k13=>?_
    refine ls 6 H<|sf iA rfl<|sl S 2 aE G G G<|sf cN rfl<|sl S 1 aE G G G<|sd (aK G G (by unfold i64ok;omega))<|sf iA rfl<|sE ?_;clear H a;intro a H
    refine aD H S (i:=2) G G G G bA G G ?_
    clear H a S;intro _ a S H
    refine k13 _ _ ?_;clear k13 K13
    replace H:=H.keep [2,6,7,8] rfl
    refine one_list ?_
    refine ls 4 H<|sf cN rfl<|sl S 1 aE G G G<|sr 1 rfl<|sf lG rfl<|sE ?_;clear H a;intro a H
    refine aD H S (i:=2) G G G G Ha G G ?_
    clear H a S;intro _ a S H
    have hgs:=wS (e:=(⟨up,empty,pull,drag,motor,br⟩:Esc)) (s:=(⟨sp,slo,shi,sfail⟩:Stp)) (m:=most) (g:=g1) (v:=v) (t:=(t:Int)) (by omega) (by omega)
    exact k5 (g1-1) (extI (⟨up,empty,pull,drag,motor,br⟩:Esc) (⟨sp,slo,shi,sfail⟩:Stp) most v (t:Int),t+1,way+extI (⟨up,empty,pull,drag,motor,br⟩:Esc) (⟨sp,slo,shi,sfail⟩:Stp) most v (t:Int),_,_,_) a _ (by omega) (⟨by omega,by omega,by omega,by omega,by have h9:=hp.2.2.2.2.1;rw [hgs] at h9;(try dsimp only at h9 ⊢);push_cast;omega,by have h9:=hp.2.2.2.2.2;rw [hgs] at h9;exact h9⟩) (S.sel [1,2,3,4,5,6] G G) (H.keep [2,6,7,8] rfl)
 try simp only [o1,o2,o3,o4,o5,o6,o7,o8,o9,oa] at hc1
 refine wp_exit ?_
 refine k4 _ _ ?_
 refine seq_list fun K15 k15=>?_
 refine ls 1 H<|sd ((aB Bi cR rfl S (i:=1) G G))<|sE ?_;clear H a;intro a H
 refine aD H S (i:=3) G G G G cR G G ?_
 clear H a S;intro _ a S H
 refine k15 _ _ ?_;clear k15 K15
 refine wp_ret ?_
 refine retA (fn:=Tryz.f76) rfl H rfl Bi (by exact cR) (cQ S (i:=3) rfl) ?_
 have hgs:=Pf (e:=(⟨up,empty,pull,drag,motor,br⟩:Esc)) (s:=(⟨sp,slo,shi,sfail⟩:Stp)) (m:=most) (g:=g1) (v:=v) (t:=(t:Int)) (by omega)
 rw [hgs] at hp
 have h8:=hp.2.2.2.2.1;have h9:=hp.2.2.2.2.2
 dsimp only at h8 h9
 rw [Int.add_zero] at h8
 rw [←h8,←h9]
 exact ⟨_,_,_,_,rfl,(S.sel [2] G G)⟩
end
section
theorem jB {e:Esc} {s:Stp} (h:¬ stopE e s=0):distI e s=(0,0,stopE e s):=by unfold distI;exact if_pos h
theorem gZ {e:Esc} {s:Stp} (h:stopE e s=0) (h2:(goI e s true 100 s.speed 0).2=false):distI e s=(0,0,12):=by
  unfold distI
  rw [if_neg (by omega),if_neg (by rw [h2];simp)]
theorem kU {e:Esc} {s:Stp} (h:stopE e s=0) (h2:(goI e s true 100 s.speed 0).2=true):distI e s=((goI e s false 100 s.speed 0).1,(goI e s true 100 s.speed 0).1,0):=by
  unfold distI
  rw [if_neg (by omega),if_pos h2]
theorem cP (up:Bool) (empty pull drag motor:Int) (br:List Brake) (BA:Option Addr) (bcp:Nat) (sp slo shi sfail:Int) (w:World) (hb:InS w noF 2 BA br.length (bcell br)) (hbn:br.length≤9223372036854775807) :
    Calls Tryz.prog 34 [.agg [.bool up,.int .i64 empty,.int .i64 pull,.int .i64 drag,.int .i64 motor,.slice BA br.length bcp].toArray,.agg [.int .i64 sp,.int .i64 slo,.int .i64 shi,.int .i64 sfail].toArray].toArray w (Ret (fun u w'=>∃ tl th:Int,u = .tuple #[.agg [.int .i64 (distI (⟨up,empty,pull,drag,motor,br⟩:Esc) (⟨sp,slo,shi,sfail⟩:Stp)).1,.int .i64 (distI (⟨up,empty,pull,drag,motor,br⟩:Esc) (⟨sp,slo,shi,sfail⟩:Stp)).2.1].toArray,.agg [.int .i64 tl,.int .i64 th].toArray,.int .i64 (distI (⟨up,empty,pull,drag,motor,br⟩:Esc) (⟨sp,slo,shi,sfail⟩:Stp)).2.2]∧St w noF [] w')):=by
 refine enter Tryz.func34 rfl Tryz.ntmps34 rfl (fun a H=>?_)
 have S:=St.start w
 refine seq_list fun K1 k1=>?_
 refine aN H rfl S G G ?_;clear H a S;intro b2 _ a hb2 hbw2 S H
 refine aN H rfl S G G ?_;clear H a S;intro b3 _ a hb3 hbw3 S H
 refine aI H rfl S bS ?_;clear H a S;intro b4 _ a hb4 hbw4 S H
 refine aI H rfl S bS ?_;clear H a S;intro b5 _ a hb5 hbw5 S H
 refine ls 1 H<|sr 1 rfl<|sE ?_;clear H a;intro a H
 refine k1 _ _ ?_;clear k1 K1
 refine wp_seq_k fun K2 k2=>?_
 refine seq_list fun K3 k3=>?_
 refine ls 2 H<|sd ((aB fG gV rfl S (i:=3) G G))<|sd ((aB nJ oR rfl S (i:=2) G G))<|sE ?_;clear H a;intro a H
 refine aA H G G Tryz.func75 G G (tK up empty pull drag motor br BA bcp sp slo shi sfail _ (hb.now S) hbn) ?_;clear H a
 rintro _ _ a ⟨rfl,S2⟩ H
 replace S:=S.call S2;clear S2
 refine ls 1 H<|sr 1 rfl<|sE ?_;clear H a;intro a H
 refine k3 _ _ ?_;clear k3 K3
 replace H:=H.keep [2,3,4,5,6] rfl
 refine sS H fun K4 k4=>sr 2 rfl<|sE ?_;clear H a;intro a H
 refine k4 _ ?_;clear k4 K4
 refine condN H rfl (fun hc1=>?_) (fun hc1=>?_)
 ·skip
  have hce:=hc1
  replace S:=S.drew
  refine seq_wt 999999 (.p 2 (.b2 0 (.b2 1 (.e 3 (.e 4 (.p 5 .nil))) 3 (.e 1 (.e 4 (.p 5 .nil)))) 1 (.e 0 (.e 3 (.e 4 (.p 5 .nil)))))) (by kernel_rfl) (by kernel_rfl) (S.sel [2,3] G G) fun K5 k5=>?_
  refine bG H G G (fun _=>aL rfl) ?_;clear H a;intro a H
  refine dZ G G ?_ ?_
  ·skip
   refine ls 1 H<|sd ((aB aZ aQ rfl S (i:=1) G G))<|sE ?_;clear H a;intro a H
   refine wpList_nil (And.intro (Or.inr (S.sel [2,3] G G)) ?_)
   refine dZ G G ?_ ?_
   ·skip
    refine ls 1 H<|sd ((aB aZ aQ rfl S (i:=0) G G))<|sE ?_;clear H a;intro a H
    refine wpList_nil (And.intro (Or.inr (S.sel [2,3] G G)) ?_)
    refine aM rfl ?_
    refine aD H S (i:=1) G G G G aQ G G ?_
    clear H a S;intro _ a S H
    refine wpList_nil (And.intro (Or.inr (S.sel [2,3] G G)) ?_)
    refine aM rfl ?_
    refine aD H S (i:=0) G G G G aQ G G ?_
    clear H a S;intro _ a S H
    refine wpList_nil (And.intro (Or.inr (S.sel [2,3] G G)) ?_)
    refine bG H G G (fun _=>bF rfl) ?_;clear H a;intro a H
    refine bC ?_
    refine k5 _ _ ?_
    clear k5 K5
    refine wp_ret ?_
    refine mO (fn:=Tryz.f34) rfl H G G aZ (by exact aQ) (cQ S (i:=1) rfl) aZ (by exact aQ) (cQ S (i:=0) rfl) rfl ?_
    first|(rw [jB hce];exact ⟨_,_,rfl,(S.sel [] G G)⟩)|(rw [gZ hce (by simpa using hcf)];exact ⟨_,_,rfl,(S.sel [] G G)⟩)|(rw [kU hce (by simpa using hcf)];exact ⟨_,_,rfl,(S.sel [] G G)⟩)
   ·skip
    refine aD H S (i:=1) G G G G aQ G G ?_
    clear H a S;intro _ a S H
    refine wpList_nil (And.intro (Or.inr (S.sel [2,3] G G)) ?_)
    refine aM rfl ?_
    refine ls 1 H<|sd ((aB aZ aQ rfl S (i:=0) G G))<|sE ?_;clear H a;intro a H
    refine wpList_nil (And.intro (Or.inr (S.sel [2,3] G G)) ?_)
    refine aM rfl ?_
    refine aD H S (i:=0) G G G G aQ G G ?_
    clear H a S;intro _ a S H
    refine wpList_nil (And.intro (Or.inr (S.sel [2,3] G G)) ?_)
    refine bG H G G (fun _=>bF rfl) ?_;clear H a;intro a H
    refine bC ?_
    refine k5 _ _ ?_
    clear k5 K5
    refine wp_ret ?_
    refine mO (fn:=Tryz.f34) rfl H G G aZ (by exact aQ) (cQ S (i:=1) rfl) aZ (by exact aQ) (cQ S (i:=0) rfl) rfl ?_
    first|(rw [jB hce];exact ⟨_,_,rfl,(S.sel [] G G)⟩)|(rw [gZ hce (by simpa using hcf)];exact ⟨_,_,rfl,(S.sel [] G G)⟩)|(rw [kU hce (by simpa using hcf)];exact ⟨_,_,rfl,(S.sel [] G G)⟩)
  ·skip
   refine ls 1 H<|sd ((aB aZ aQ rfl S (i:=0) G G))<|sE ?_;clear H a;intro a H
   refine wpList_nil (And.intro (Or.inr (S.sel [2,3] G G)) ?_)
   refine aM rfl ?_
   refine ls 1 H<|sd ((aB aZ aQ rfl S (i:=1) G G))<|sE ?_;clear H a;intro a H
   refine wpList_nil (And.intro (Or.inr (S.sel [2,3] G G)) ?_)
   refine aM rfl ?_
   refine aD H S (i:=1) G G G G aQ G G ?_
   clear H a S;intro _ a S H
   refine wpList_nil (And.intro (Or.inr (S.sel [2,3] G G)) ?_)
   refine aM rfl ?_
   refine aD H S (i:=0) G G G G aQ G G ?_
   clear H a S;intro _ a S H
   refine wpList_nil (And.intro (Or.inr (S.sel [2,3] G G)) ?_)
   refine bG H G G (fun _=>bF rfl) ?_;clear H a;intro a H
   refine bC ?_
   refine k5 _ _ ?_
   clear k5 K5
   refine wp_ret ?_
   refine mO (fn:=Tryz.f34) rfl H G G aZ (by exact aQ) (cQ S (i:=1) rfl) aZ (by exact aQ) (cQ S (i:=0) rfl) rfl ?_
   first|(rw [jB hce];exact ⟨_,_,rfl,(S.sel [] G G)⟩)|(rw [gZ hce (by simpa using hcf)];exact ⟨_,_,rfl,(S.sel [] G G)⟩)|(rw [kU hce (by simpa using hcf)];exact ⟨_,_,rfl,(S.sel [] G G)⟩)
 have hce:=hc1
 refine wp_skip ?_
 refine k2 _ _ ?_
 have SR:=(S.sel [0,1,2,3] G G)
 refine meet_sr (X:=(Nat×Nat)×(Option Addr×Nat×Nat)×(Option Addr×Nat×Nat)) [4,5] H rfl (fun ⟨⟨b7,b8⟩,⟨A7,n7,c7⟩,A8,n8,c8⟩=>[(7,.pointer (some ⟨b7,0,none⟩)),(8,.pointer (some ⟨b8,0,none⟩))]) (fun ⟨⟨b7,b8⟩,⟨A7,n7,c7⟩,A8,n8,c8⟩=>[boxM b7 190 [.int .i64 (goI (⟨up,empty,pull,drag,motor,br⟩:Esc) (⟨sp,slo,shi,sfail⟩:Stp) true 100 sp 0).1,.slice A7 n7 c7,.bool (goI (⟨up,empty,pull,drag,motor,br⟩:Esc) (⟨sp,slo,shi,sfail⟩:Stp) true 100 sp 0).2],boxM b8 190 [.int .i64 (goI (⟨up,empty,pull,drag,motor,br⟩:Esc) (⟨sp,slo,shi,sfail⟩:Stp) false 100 sp 0).1,.slice A8 n8 c8,.bool (goI (⟨up,empty,pull,drag,motor,br⟩:Esc) (⟨sp,slo,shi,sfail⟩:Stp) false 100 sp 0).2]]) (fun ⟨⟨b7,b8⟩,⟨A7,n7,c7⟩,A8,n8,c8⟩=>True) SR (fun K6 k6=>?_) ?_
 ·skip
  obtain ⟨hesc,hstp⟩:=Pe hce
  replace H:=H.keep [2,3,4,5] rfl
  replace S:=S.drew
  refine one_wt 999999 (.q 0 (.q 1 (.q 3 (.q 4 (.b3 2 (.b3 5 (.b2 6 (.e 7 (.e 8 (.e 9 .nil))) 7 (.e 6 (.e 8 (.e 9 .nil)))) 6 (.b2 5 (.e 7 (.e 8 (.e 9 .nil))) 7 (.e 5 (.e 8 (.e 9 .nil)))) 7 (.b2 5 (.e 6 (.e 8 (.e 9 .nil))) 6 (.e 5 (.e 8 (.e 9 .nil))))) 6 (.b2 2 (.b2 5 (.e 7 (.e 8 (.e 9 .nil))) 7 (.e 5 (.e 8 (.e 9 .nil)))) 7 (.e 2 (.e 5 (.e 8 (.e 9 .nil))))) 7 (.b2 2 (.b2 5 (.e 6 (.e 8 (.e 9 .nil))) 6 (.e 5 (.e 8 (.e 9 .nil)))) 6 (.e 2 (.e 5 (.e 8 (.e 9 .nil)))))))))) (by kernel_rfl) (by kernel_rfl) (S.sel [0,1,2,3] G G) ?_
  refine aG H G G (fun _ S=>(aB fG gV rfl S (i:=3) G G)) ?_;clear H a;intro a H
  refine aG H G G (fun _ S=>(aB nJ oR rfl S (i:=2) G G)) ?_;clear H a;intro a H
  refine aG H G G (fun _ S=>(aB fG gV rfl S (i:=3) G G)) ?_;clear H a;intro a H
  refine aG H G G (fun _ S=>(aB nJ oR rfl S (i:=2) G G)) ?_;clear H a;intro a H
  refine tO G G G ?_ ?_ ?_
  ·skip
   refine aA H G G Tryz.func76 G G (dY up empty pull drag motor br BA bcp sp slo shi sfail true _ (hb.now S) hbn hesc hstp) ?_;clear H a
   rintro _ _ a ⟨A7,n7,c7,f7,rfl,S2⟩ H
   replace S:=S.call S2;clear S2
   refine wpList_nil (And.intro (Or.inr (S.sel [1,2,3,4] G G)) ?_)
   refine tO G G G ?_ ?_ ?_
   ·skip
    refine aA H G G Tryz.func76 G G (dY up empty pull drag motor br BA bcp sp slo shi sfail false _ (hb.now S) hbn hesc hstp) ?_;clear H a
    rintro _ _ a ⟨A8,n8,c8,f8,rfl,S2⟩ H
    replace S:=S.call S2;clear S2
    refine wpList_nil (And.intro (Or.inr (S.sel [2,3,4,5] G G)) ?_)
    refine dZ G G ?_ ?_
    ·skip
     refine aI H rfl S dW ?_;clear H a S;intro b7 _ a hb7 hbw7 S H
     refine wpList_nil (And.intro (Or.inr (S.sel [3,4,5,6] G G)) ?_)
     refine aM rfl ?_
     refine aI H rfl S dW ?_;clear H a S;intro b8 _ a hb8 hbw8 S H
     refine wpList_nil (And.intro (Or.inr (S.sel [4,5,6,7] G G)) ?_)
     refine aM rfl ?_
     refine aD H S (i:=1) G G G G cR G G ?_
     clear H a S;intro _ a S H
     refine wpList_nil (And.intro (Or.inr (S.sel [4,5,6,7] G G)) ?_)
     refine aM rfl ?_
     refine aD H S (i:=0) G G G G cR G G ?_
     clear H a S;intro _ a S H
     refine wpList_nil (And.intro (Or.inr (S.sel [4,5,6,7] G G)) ?_)
     refine bC ?_
     exact k6 ((b7,b8),(_,_,_),_,_,_) a _ (trivial) (S.sel [1,0,4,5,6,7] G G) (H.keep [7,8,4,5] rfl)
    ·skip
     refine aI H rfl S dW ?_;clear H a S;intro b8 _ a hb8 hbw8 S H
     refine wpList_nil (And.intro (Or.inr (S.sel [3,4,5,6] G G)) ?_)
     refine aM rfl ?_
     refine aI H rfl S dW ?_;clear H a S;intro b7 _ a hb7 hbw7 S H
     refine wpList_nil (And.intro (Or.inr (S.sel [4,5,6,7] G G)) ?_)
     refine aM rfl ?_
     refine aD H S (i:=0) G G G G cR G G ?_
     clear H a S;intro _ a S H
     refine wpList_nil (And.intro (Or.inr (S.sel [4,5,6,7] G G)) ?_)
     refine aM rfl ?_
     refine aD H S (i:=1) G G G G cR G G ?_
     clear H a S;intro _ a S H
     refine wpList_nil (And.intro (Or.inr (S.sel [4,5,6,7] G G)) ?_)
     refine bC ?_
     exact k6 ((b7,b8),(_,_,_),_,_,_) a _ (trivial) (S.sel [0,1,4,5,6,7] G G) (H.keep [7,8,4,5] rfl)
   ·skip
    refine aI H rfl S dW ?_;clear H a S;intro b7 _ a hb7 hbw7 S H
    refine wpList_nil (And.intro (Or.inr (S.sel [2,3,4,5] G G)) ?_)
    refine dZ G G ?_ ?_
    ·skip
     refine aA H G G Tryz.func76 G G (dY up empty pull drag motor br BA bcp sp slo shi sfail false _ (hb.now S) hbn hesc hstp) ?_;clear H a
     rintro _ _ a ⟨A8,n8,c8,f8,rfl,S2⟩ H
     replace S:=S.call S2;clear S2
     refine wpList_nil (And.intro (Or.inr (S.sel [3,4,5,6] G G)) ?_)
     refine aM rfl ?_
     refine aI H rfl S dW ?_;clear H a S;intro b8 _ a hb8 hbw8 S H
     refine wpList_nil (And.intro (Or.inr (S.sel [4,5,6,7] G G)) ?_)
     refine aM rfl ?_
     refine aD H S (i:=2) G G G G cR G G ?_
     clear H a S;intro _ a S H
     refine wpList_nil (And.intro (Or.inr (S.sel [4,5,6,7] G G)) ?_)
     refine aM rfl ?_
     refine aD H S (i:=0) G G G G cR G G ?_
     clear H a S;intro _ a S H
     refine wpList_nil (And.intro (Or.inr (S.sel [4,5,6,7] G G)) ?_)
     refine bC ?_
     exact k6 ((b7,b8),(_,_,_),_,_,_) a _ (trivial) (S.sel [2,0,4,5,6,7] G G) (H.keep [7,8,4,5] rfl)
    ·skip
     refine aI H rfl S dW ?_;clear H a S;intro b8 _ a hb8 hbw8 S H
     refine wpList_nil (And.intro (Or.inr (S.sel [3,4,5,6] G G)) ?_)
     refine aM rfl ?_
     refine aA H G G Tryz.func76 G G (dY up empty pull drag motor br BA bcp sp slo shi sfail false _ (hb.now S) hbn hesc hstp) ?_;clear H a
     rintro _ _ a ⟨A8,n8,c8,f8,rfl,S2⟩ H
     replace S:=S.call S2;clear S2
     refine wpList_nil (And.intro (Or.inr (S.sel [4,5,6,7] G G)) ?_)
     refine aM rfl ?_
     refine aD H S (i:=2) G G G G cR G G ?_
     clear H a S;intro _ a S H
     refine wpList_nil (And.intro (Or.inr (S.sel [4,5,6,7] G G)) ?_)
     refine aM rfl ?_
     refine aD H S (i:=1) G G G G cR G G ?_
     clear H a S;intro _ a S H
     refine wpList_nil (And.intro (Or.inr (S.sel [4,5,6,7] G G)) ?_)
     refine bC ?_
     exact k6 ((b7,b8),(_,_,_),_,_,_) a _ (trivial) (S.sel [2,1,4,5,6,7] G G) (H.keep [7,8,4,5] rfl)
   ·skip
    refine aI H rfl S dW ?_;clear H a S;intro b8 _ a hb8 hbw8 S H
    refine wpList_nil (And.intro (Or.inr (S.sel [2,3,4,5] G G)) ?_)
    refine dZ G G ?_ ?_
    ·skip
     refine aA H G G Tryz.func76 G G (dY up empty pull drag motor br BA bcp sp slo shi sfail false _ (hb.now S) hbn hesc hstp) ?_;clear H a
     rintro _ _ a ⟨A8,n8,c8,f8,rfl,S2⟩ H
     replace S:=S.call S2;clear S2
     refine wpList_nil (And.intro (Or.inr (S.sel [3,4,5,6] G G)) ?_)
     refine aM rfl ?_
     refine aI H rfl S dW ?_;clear H a S;intro b7 _ a hb7 hbw7 S H
     refine wpList_nil (And.intro (Or.inr (S.sel [4,5,6,7] G G)) ?_)
     refine aM rfl ?_
     refine aD H S (i:=0) G G G G cR G G ?_
     clear H a S;intro _ a S H
     refine wpList_nil (And.intro (Or.inr (S.sel [4,5,6,7] G G)) ?_)
     refine aM rfl ?_
     refine aD H S (i:=2) G G G G cR G G ?_
     clear H a S;intro _ a S H
     refine wpList_nil (And.intro (Or.inr (S.sel [4,5,6,7] G G)) ?_)
     refine bC ?_
     exact k6 ((b7,b8),(_,_,_),_,_,_) a _ (trivial) (S.sel [0,2,4,5,6,7] G G) (H.keep [7,8,4,5] rfl)
    ·skip
     refine aI H rfl S dW ?_;clear H a S;intro b7 _ a hb7 hbw7 S H
     refine wpList_nil (And.intro (Or.inr (S.sel [3,4,5,6] G G)) ?_)
     refine aM rfl ?_
     refine aA H G G Tryz.func76 G G (dY up empty pull drag motor br BA bcp sp slo shi sfail false _ (hb.now S) hbn hesc hstp) ?_;clear H a
     rintro _ _ a ⟨A8,n8,c8,f8,rfl,S2⟩ H
     replace S:=S.call S2;clear S2
     refine wpList_nil (And.intro (Or.inr (S.sel [4,5,6,7] G G)) ?_)
     refine aM rfl ?_
     refine aD H S (i:=1) G G G G cR G G ?_
     clear H a S;intro _ a S H
     refine wpList_nil (And.intro (Or.inr (S.sel [4,5,6,7] G G)) ?_)
     refine aM rfl ?_
     refine aD H S (i:=2) G G G G cR G G ?_
     clear H a S;intro _ a S H
     refine wpList_nil (And.intro (Or.inr (S.sel [4,5,6,7] G G)) ?_)
     refine bC ?_
     exact k6 ((b7,b8),(_,_,_),_,_,_) a _ (trivial) (S.sel [1,2,4,5,6,7] G G) (H.keep [7,8,4,5] rfl)
  ·skip
   refine aI H rfl S dW ?_;clear H a S;intro b7 _ a hb7 hbw7 S H
   refine wpList_nil (And.intro (Or.inr (S.sel [1,2,3,4] G G)) ?_)
   refine dZ G G ?_ ?_
   ·skip
    refine aA H G G Tryz.func76 G G (dY up empty pull drag motor br BA bcp sp slo shi sfail true _ (hb.now S) hbn hesc hstp) ?_;clear H a
    rintro _ _ a ⟨A7,n7,c7,f7,rfl,S2⟩ H
    replace S:=S.call S2;clear S2
    refine wpList_nil (And.intro (Or.inr (S.sel [2,3,4,5] G G)) ?_)
    refine dZ G G ?_ ?_
    ·skip
     refine aA H G G Tryz.func76 G G (dY up empty pull drag motor br BA bcp sp slo shi sfail false _ (hb.now S) hbn hesc hstp) ?_;clear H a
     rintro _ _ a ⟨A8,n8,c8,f8,rfl,S2⟩ H
     replace S:=S.call S2;clear S2
     refine wpList_nil (And.intro (Or.inr (S.sel [3,4,5,6] G G)) ?_)
     refine aM rfl ?_
     refine aI H rfl S dW ?_;clear H a S;intro b8 _ a hb8 hbw8 S H
     refine wpList_nil (And.intro (Or.inr (S.sel [4,5,6,7] G G)) ?_)
     refine aM rfl ?_
     refine aD H S (i:=3) G G G G cR G G ?_
     clear H a S;intro _ a S H
     refine wpList_nil (And.intro (Or.inr (S.sel [4,5,6,7] G G)) ?_)
     refine aM rfl ?_
     refine aD H S (i:=0) G G G G cR G G ?_
     clear H a S;intro _ a S H
     refine wpList_nil (And.intro (Or.inr (S.sel [4,5,6,7] G G)) ?_)
     refine bC ?_
     exact k6 ((b7,b8),(_,_,_),_,_,_) a _ (trivial) (S.sel [3,0,4,5,6,7] G G) (H.keep [7,8,4,5] rfl)
    ·skip
     refine aI H rfl S dW ?_;clear H a S;intro b8 _ a hb8 hbw8 S H
     refine wpList_nil (And.intro (Or.inr (S.sel [3,4,5,6] G G)) ?_)
     refine aM rfl ?_
     refine aA H G G Tryz.func76 G G (dY up empty pull drag motor br BA bcp sp slo shi sfail false _ (hb.now S) hbn hesc hstp) ?_;clear H a
     rintro _ _ a ⟨A8,n8,c8,f8,rfl,S2⟩ H
     replace S:=S.call S2;clear S2
     refine wpList_nil (And.intro (Or.inr (S.sel [4,5,6,7] G G)) ?_)
     refine aM rfl ?_
     refine aD H S (i:=3) G G G G cR G G ?_
     clear H a S;intro _ a S H
     refine wpList_nil (And.intro (Or.inr (S.sel [4,5,6,7] G G)) ?_)
     refine aM rfl ?_
     refine aD H S (i:=1) G G G G cR G G ?_
     clear H a S;intro _ a S H
     refine wpList_nil (And.intro (Or.inr (S.sel [4,5,6,7] G G)) ?_)
     refine bC ?_
     exact k6 ((b7,b8),(_,_,_),_,_,_) a _ (trivial) (S.sel [3,1,4,5,6,7] G G) (H.keep [7,8,4,5] rfl)
   ·skip
    refine aI H rfl S dW ?_;clear H a S;intro b8 _ a hb8 hbw8 S H
    refine wpList_nil (And.intro (Or.inr (S.sel [2,3,4,5] G G)) ?_)
    refine aM rfl ?_
    refine aA H G G Tryz.func76 G G (dY up empty pull drag motor br BA bcp sp slo shi sfail true _ (hb.now S) hbn hesc hstp) ?_;clear H a
    rintro _ _ a ⟨A7,n7,c7,f7,rfl,S2⟩ H
    replace S:=S.call S2;clear S2
    refine wpList_nil (And.intro (Or.inr (S.sel [3,4,5,6] G G)) ?_)
    refine aM rfl ?_
    refine aA H G G Tryz.func76 G G (dY up empty pull drag motor br BA bcp sp slo shi sfail false _ (hb.now S) hbn hesc hstp) ?_;clear H a
    rintro _ _ a ⟨A8,n8,c8,f8,rfl,S2⟩ H
    replace S:=S.call S2;clear S2
    refine wpList_nil (And.intro (Or.inr (S.sel [4,5,6,7] G G)) ?_)
    refine aM rfl ?_
    refine aD H S (i:=3) G G G G cR G G ?_
    clear H a S;intro _ a S H
    refine wpList_nil (And.intro (Or.inr (S.sel [4,5,6,7] G G)) ?_)
    refine aM rfl ?_
    refine aD H S (i:=2) G G G G cR G G ?_
    clear H a S;intro _ a S H
    refine wpList_nil (And.intro (Or.inr (S.sel [4,5,6,7] G G)) ?_)
    refine bC ?_
    exact k6 ((b7,b8),(_,_,_),_,_,_) a _ (trivial) (S.sel [3,2,4,5,6,7] G G) (H.keep [7,8,4,5] rfl)
  ·skip
   refine aI H rfl S dW ?_;clear H a S;intro b8 _ a hb8 hbw8 S H
   refine wpList_nil (And.intro (Or.inr (S.sel [1,2,3,4] G G)) ?_)
   refine dZ G G ?_ ?_
   ·skip
    refine aA H G G Tryz.func76 G G (dY up empty pull drag motor br BA bcp sp slo shi sfail true _ (hb.now S) hbn hesc hstp) ?_;clear H a
    rintro _ _ a ⟨A7,n7,c7,f7,rfl,S2⟩ H
    replace S:=S.call S2;clear S2
    refine wpList_nil (And.intro (Or.inr (S.sel [2,3,4,5] G G)) ?_)
    refine dZ G G ?_ ?_
    ·skip
     refine aA H G G Tryz.func76 G G (dY up empty pull drag motor br BA bcp sp slo shi sfail false _ (hb.now S) hbn hesc hstp) ?_;clear H a
     rintro _ _ a ⟨A8,n8,c8,f8,rfl,S2⟩ H
     replace S:=S.call S2;clear S2
     refine wpList_nil (And.intro (Or.inr (S.sel [3,4,5,6] G G)) ?_)
     refine aM rfl ?_
     refine aI H rfl S dW ?_;clear H a S;intro b7 _ a hb7 hbw7 S H
     refine wpList_nil (And.intro (Or.inr (S.sel [4,5,6,7] G G)) ?_)
     refine aM rfl ?_
     refine aD H S (i:=0) G G G G cR G G ?_
     clear H a S;intro _ a S H
     refine wpList_nil (And.intro (Or.inr (S.sel [4,5,6,7] G G)) ?_)
     refine aM rfl ?_
     refine aD H S (i:=3) G G G G cR G G ?_
     clear H a S;intro _ a S H
     refine wpList_nil (And.intro (Or.inr (S.sel [4,5,6,7] G G)) ?_)
     refine bC ?_
     exact k6 ((b7,b8),(_,_,_),_,_,_) a _ (trivial) (S.sel [0,3,4,5,6,7] G G) (H.keep [7,8,4,5] rfl)
    ·skip
     refine aI H rfl S dW ?_;clear H a S;intro b7 _ a hb7 hbw7 S H
     refine wpList_nil (And.intro (Or.inr (S.sel [3,4,5,6] G G)) ?_)
     refine aM rfl ?_
     refine aA H G G Tryz.func76 G G (dY up empty pull drag motor br BA bcp sp slo shi sfail false _ (hb.now S) hbn hesc hstp) ?_;clear H a
     rintro _ _ a ⟨A8,n8,c8,f8,rfl,S2⟩ H
     replace S:=S.call S2;clear S2
     refine wpList_nil (And.intro (Or.inr (S.sel [4,5,6,7] G G)) ?_)
     refine aM rfl ?_
     refine aD H S (i:=1) G G G G cR G G ?_
     clear H a S;intro _ a S H
     refine wpList_nil (And.intro (Or.inr (S.sel [4,5,6,7] G G)) ?_)
     refine aM rfl ?_
     refine aD H S (i:=3) G G G G cR G G ?_
     clear H a S;intro _ a S H
     refine wpList_nil (And.intro (Or.inr (S.sel [4,5,6,7] G G)) ?_)
     refine bC ?_
     exact k6 ((b7,b8),(_,_,_),_,_,_) a _ (trivial) (S.sel [1,3,4,5,6,7] G G) (H.keep [7,8,4,5] rfl)
   ·skip
    refine aI H rfl S dW ?_;clear H a S;intro b7 _ a hb7 hbw7 S H
    refine wpList_nil (And.intro (Or.inr (S.sel [2,3,4,5] G G)) ?_)
    refine aM rfl ?_
    refine aA H G G Tryz.func76 G G (dY up empty pull drag motor br BA bcp sp slo shi sfail true _ (hb.now S) hbn hesc hstp) ?_;clear H a
    rintro _ _ a ⟨A7,n7,c7,f7,rfl,S2⟩ H
    replace S:=S.call S2;clear S2
    refine wpList_nil (And.intro (Or.inr (S.sel [3,4,5,6] G G)) ?_)
    refine aM rfl ?_
    refine aA H G G Tryz.func76 G G (dY up empty pull drag motor br BA bcp sp slo shi sfail false _ (hb.now S) hbn hesc hstp) ?_;clear H a
    rintro _ _ a ⟨A8,n8,c8,f8,rfl,S2⟩ H
    replace S:=S.call S2;clear S2
    refine wpList_nil (And.intro (Or.inr (S.sel [4,5,6,7] G G)) ?_)
    refine aM rfl ?_
    refine aD H S (i:=2) G G G G cR G G ?_
    clear H a S;intro _ a S H
    refine wpList_nil (And.intro (Or.inr (S.sel [4,5,6,7] G G)) ?_)
    refine aM rfl ?_
    refine aD H S (i:=3) G G G G cR G G ?_
    clear H a S;intro _ a S H
    refine wpList_nil (And.intro (Or.inr (S.sel [4,5,6,7] G G)) ?_)
    refine bC ?_
    exact k6 ((b7,b8),(_,_,_),_,_,_) a _ (trivial) (S.sel [2,3,4,5,6,7] G G) (H.keep [7,8,4,5] rfl)
 clear SR H S a
 intro xm a wm hp S H
 obtain ⟨⟨b7,b8⟩,⟨A7,n7,c7⟩,A8,n8,c8⟩:=xm
 refine wp_seq_k fun K8 k8=>?_
 replace H:=H.keep [4,5,7,8] rfl
 refine sS H fun K9 k9=>sf lG rfl<|sl S 0 jE G G G<|sr 1 rfl<|sE ?_;clear H a;intro a H
 refine k9 _ ?_;clear k9 K9
 refine cond_ H rfl (fun hc2=>?_) (fun hc2=>?_)
 ·skip
  try simp only [o1,o2,o3,o4,o5,o6,o7,o8,o9,oa] at hc2
  have hcf:=hc2
  replace S:=S.drew
  refine seq_wt 999999 (.b2 0 (.b2 1 (.e 2 (.e 3 (.p 4 .nil))) 2 (.e 1 (.e 3 (.p 4 .nil)))) 1 (.e 0 (.e 2 (.e 3 (.p 4 .nil))))) (by kernel_rfl) (by kernel_rfl) (S.sel [0,1,4,5] G G) fun K10 k10=>?_
  refine dZ G G ?_ ?_
  ·skip
   refine ls 1 H<|sd ((aB aZ aQ rfl S (i:=3) G G))<|sE ?_;clear H a;intro a H
   refine wpList_nil (And.intro (Or.inr (S.sel [0,1,4,5] G G)) ?_)
   refine dZ G G ?_ ?_
   ·skip
    refine ls 1 H<|sd ((aB aZ aQ rfl S (i:=2) G G))<|sE ?_;clear H a;intro a H
    refine wpList_nil (And.intro (Or.inr (S.sel [0,1,4,5] G G)) ?_)
    refine aM rfl ?_
    refine aD H S (i:=3) G G G G aQ G G ?_
    clear H a S;intro _ a S H
    refine wpList_nil (And.intro (Or.inr (S.sel [0,1,4,5] G G)) ?_)
    refine aM rfl ?_
    refine aD H S (i:=2) G G G G aQ G G ?_
    clear H a S;intro _ a S H
    refine wpList_nil (And.intro (Or.inr (S.sel [0,1,4,5] G G)) ?_)
    refine bG H G G (fun _=>bF rfl) ?_;clear H a;intro a H
    refine bC ?_
    refine k10 _ _ ?_
    clear k10 K10
    refine wp_ret ?_
    refine mO (fn:=Tryz.f34) rfl H G G aZ (by exact aQ) (cQ S (i:=3) rfl) aZ (by exact aQ) (cQ S (i:=2) rfl) rfl ?_
    first|(rw [jB hce];exact ⟨_,_,rfl,(S.sel [] G G)⟩)|(rw [gZ hce (by simpa using hcf)];exact ⟨_,_,rfl,(S.sel [] G G)⟩)|(rw [kU hce (by simpa using hcf)];exact ⟨_,_,rfl,(S.sel [] G G)⟩)
   ·skip
    refine aD H S (i:=3) G G G G aQ G G ?_
    clear H a S;intro _ a S H
    refine wpList_nil (And.intro (Or.inr (S.sel [0,1,4,5] G G)) ?_)
    refine aM rfl ?_
    refine ls 1 H<|sd ((aB aZ aQ rfl S (i:=2) G G))<|sE ?_;clear H a;intro a H
    refine wpList_nil (And.intro (Or.inr (S.sel [0,1,4,5] G G)) ?_)
    refine aM rfl ?_
    refine aD H S (i:=2) G G G G aQ G G ?_
    clear H a S;intro _ a S H
    refine wpList_nil (And.intro (Or.inr (S.sel [0,1,4,5] G G)) ?_)
    refine bG H G G (fun _=>bF rfl) ?_;clear H a;intro a H
    refine bC ?_
    refine k10 _ _ ?_
    clear k10 K10
    refine wp_ret ?_
    refine mO (fn:=Tryz.f34) rfl H G G aZ (by exact aQ) (cQ S (i:=3) rfl) aZ (by exact aQ) (cQ S (i:=2) rfl) rfl ?_
    first|(rw [jB hce];exact ⟨_,_,rfl,(S.sel [] G G)⟩)|(rw [gZ hce (by simpa using hcf)];exact ⟨_,_,rfl,(S.sel [] G G)⟩)|(rw [kU hce (by simpa using hcf)];exact ⟨_,_,rfl,(S.sel [] G G)⟩)
  ·skip
   refine ls 1 H<|sd ((aB aZ aQ rfl S (i:=2) G G))<|sE ?_;clear H a;intro a H
   refine wpList_nil (And.intro (Or.inr (S.sel [0,1,4,5] G G)) ?_)
   refine aM rfl ?_
   refine ls 1 H<|sd ((aB aZ aQ rfl S (i:=3) G G))<|sE ?_;clear H a;intro a H
   refine wpList_nil (And.intro (Or.inr (S.sel [0,1,4,5] G G)) ?_)
   refine aM rfl ?_
   refine aD H S (i:=3) G G G G aQ G G ?_
   clear H a S;intro _ a S H
   refine wpList_nil (And.intro (Or.inr (S.sel [0,1,4,5] G G)) ?_)
   refine aM rfl ?_
   refine aD H S (i:=2) G G G G aQ G G ?_
   clear H a S;intro _ a S H
   refine wpList_nil (And.intro (Or.inr (S.sel [0,1,4,5] G G)) ?_)
   refine bG H G G (fun _=>bF rfl) ?_;clear H a;intro a H
   refine bC ?_
   refine k10 _ _ ?_
   clear k10 K10
   refine wp_ret ?_
   refine mO (fn:=Tryz.f34) rfl H G G aZ (by exact aQ) (cQ S (i:=3) rfl) aZ (by exact aQ) (cQ S (i:=2) rfl) rfl ?_
   first|(rw [jB hce];exact ⟨_,_,rfl,(S.sel [] G G)⟩)|(rw [gZ hce (by simpa using hcf)];exact ⟨_,_,rfl,(S.sel [] G G)⟩)|(rw [kU hce (by simpa using hcf)];exact ⟨_,_,rfl,(S.sel [] G G)⟩)
 try simp only [o1,o2,o3,o4,o5,o6,o7,o8,o9,oa] at hc2
 have hcf:=hc2
 refine wp_skip ?_
 refine k8 _ _ ?_
 replace H:=H.keep [4,5,7,8] rfl
 replace S:=S.drew
 refine seq_wt 999999 (.q 0 (.q 1 (.q 2 (.q 3 (.q 4 (.q 5 (.q 6 (.q 7 (.q 8 (.q 9 (.q 10 (.q 11 (.e 12 (.e 13 (.q 14 .nil))))))))))))))) (by kernel_rfl) (by kernel_rfl) (S.sel [0,1,4,5] G G) fun K11 k11=>?_
 refine aG H G G (fun _ S=>(aC iA rfl)) ?_;clear H a;intro a H
 refine aG H G G (fun _ S=>aH aE rfl (boxM.rd S (i:=1) G G)) ?_;clear H a;intro a H
 refine aG H G G (fun _ S=>(aC iA rfl)) ?_;clear H a;intro a H
 refine aG H G G (fun _ S=>aH aE rfl (boxM.rd S (i:=0) G G)) ?_;clear H a;intro a H
 refine aG H G G (fun _ S=>aP dI G G) ?_;clear H a;intro a H
 refine aG H G G (fun _ S=>(aC jX rfl)) ?_;clear H a;intro a H
 refine aG H G G (fun _ S=>aH bD rfl (boxM.rd S (i:=1) G G)) ?_;clear H a;intro a H
 refine aG H G G (fun _ S=>cD aS rfl) ?_;clear H a;intro a H
 refine aG H G G (fun _ S=>(aC jX rfl)) ?_;clear H a;intro a H
 refine aG H G G (fun _ S=>aH bD rfl (boxM.rd S (i:=0) G G)) ?_;clear H a;intro a H
 refine aG H G G (fun _ S=>cD aS rfl) ?_;clear H a;intro a H
 refine aG H G G (fun _ S=>aP dI G G) ?_;clear H a;intro a H
 refine aM rfl ?_
 refine aD H S (i:=3) G G G G aQ G G ?_
 clear H a S;intro _ a S H
 refine wpList_nil (And.intro (Or.inr (S.sel [0,1,4,5] G G)) ?_)
 refine aM rfl ?_
 refine aD H S (i:=2) G G G G aQ G G ?_
 clear H a S;intro _ a S H
 refine wpList_nil (And.intro (Or.inr (S.sel [0,1,4,5] G G)) ?_)
 refine aG H G G (fun _ S=>bF rfl) ?_;clear H a;intro a H
 refine bC ?_
 refine k11 _ _ ?_
 clear k11 K11
 refine wp_ret ?_
 refine mO (fn:=Tryz.f34) rfl H G G aZ (by exact aQ) (cQ S (i:=3) rfl) aZ (by exact aQ) (cQ S (i:=2) rfl) rfl ?_
 first|(rw [jB hce];exact ⟨_,_,rfl,(S.sel [] G G)⟩)|(rw [gZ hce (by simpa using hcf)];exact ⟨_,_,rfl,(S.sel [] G G)⟩)|(rw [kU hce (by simpa using hcf)];exact ⟨_,_,rfl,(S.sel [] G G)⟩)
end
section
def exBr:List Brake:=[⟨12000,1⟩,⟨16000,3⟩]
theorem gM:distI ⟨true,1000,20,2000,20000,exBr⟩ ⟨60,0,500,0⟩=(108,135,0):=by kernel_rfl
theorem gN (w:World) :
    Calls Tryz.prog 35 [].toArray w (Ret (fun v w'=>∃ A,v = .agg [.bool true,.int .i64 1000,.int .i64 20,.int .i64 2000,.int .i64 20000,.slice A 2 2].toArray∧St w noF [ownM 193 2 A 2 2 (bcell exBr)] w')):=by
 refine enter Tryz.func35 rfl Tryz.ntmps35 rfl (fun a H=>?_)
 have S:=St.start w
 refine seq_list fun K1 k1=>?_
 refine aI H rfl S Ho ?_;clear H a S;intro b0 _ a hb0 hbw0 S H
 refine k1 _ _ ?_;clear k1 K1
 refine seq_list fun K2 k2=>?_
 refine ls 2 H<|sd (aP Hx G G)<|sd (aP Hx G G)<|sE ?_;clear H a;intro a H
 refine aY H rfl S kM lE vJ G G G G G G G G G ?_;clear H a S;intro A1 _ a hA1 S H
 refine ls 1 H<|sd (aP Qq G G)<|sE ?_;clear H a;intro a H
 refine aD H S (i:=1) G G G G gV G G ?_
 clear H a S;intro _ a S H
 refine k2 _ _ ?_;clear k2 K2
 refine wp_ret ?_
 refine retA (fn:=Tryz.f35) rfl H rfl fG (by exact gV) (cQ S (i:=1) rfl) ?_
 replace S:=S.recell (i:=0) rfl (cell':=bcell exBr) (Sq (two G G) (two G G))
 exact ⟨_,rfl,(S.sel [0] G G)⟩
theorem iL (w:World) :
    Calls Tryz.prog 9 [].toArray w (Ret (fun v w'=>v = .bool true∧St w noF [] w')):=by
 refine enter Tryz.func9 rfl Tryz.ntmps9 rfl (fun a H=>?_)
 have S:=St.start w
 refine sS H fun K1 k1=>sr 1 rfl<|sE ?_;clear H a;intro a H
 refine k1 _ ?_;clear k1 K1
 refine seq_list fun K2 k2=>?_
 refine ls 2 H<|sd (aP dI G G)<|sd (aP Qp G G)<|sE ?_;clear H a;intro a H
 refine aI H rfl S Hn ?_;clear H a S;intro b1 _ a hb1 hbw1 S H
 refine aD H S (i:=0) G G G G oR G G ?_
 clear H a S;intro _ a S H
 refine k2 _ _ ?_;clear k2 K2
 replace H:=H.keep [1] rfl
 replace S:=S.drew
 refine seq_wt 999999 (.q 1 (.b3 0 (.b3 2 (.q 3 (.q 4 (.q 5 (.q 6 (.b2 7 (.e 8 (.e 9 (.e 10 (.q 11 .nil)))) 8 (.e 7 (.e 9 (.e 10 (.q 11 .nil))))))))) 7 (.b2 2 (.q 3 (.q 4 (.q 5 (.q 6 (.e 8 (.e 9 (.e 10 (.q 11 .nil)))))))) 8 (.e 2 (.q 3 (.q 4 (.q 5 (.q 6 (.e 9 (.e 10 (.q 11 .nil))))))))) 8 (.b2 2 (.q 3 (.q 4 (.q 5 (.q 6 (.e 7 (.e 9 (.e 10 (.q 11 .nil)))))))) 7 (.e 2 (.q 3 (.q 4 (.q 5 (.q 6 (.e 9 (.e 10 (.q 11 .nil)))))))))) 7 (.b2 0 (.b2 2 (.q 3 (.q 4 (.q 5 (.q 6 (.e 8 (.e 9 (.e 10 (.q 11 .nil)))))))) 8 (.e 2 (.q 3 (.q 4 (.q 5 (.q 6 (.e 9 (.e 10 (.q 11 .nil))))))))) 8 (.e 0 (.e 2 (.q 3 (.q 4 (.q 5 (.q 6 (.e 9 (.e 10 (.q 11 .nil)))))))))) 8 (.b2 0 (.b2 2 (.q 3 (.q 4 (.q 5 (.q 6 (.e 7 (.e 9 (.e 10 (.q 11 .nil)))))))) 7 (.e 2 (.q 3 (.q 4 (.q 5 (.q 6 (.e 9 (.e 10 (.q 11 .nil))))))))) 7 (.e 0 (.e 2 (.q 3 (.q 4 (.q 5 (.q 6 (.e 9 (.e 10 (.q 11 .nil)))))))))))) (by kernel_rfl) (by kernel_rfl) (S.sel [0] G G) fun K3 k3=>?_
 refine aG H G G (fun _ S=>(aB nJ oR rfl S (i:=0) G G)) ?_;clear H a;intro a H
 refine tO G G G ?_ ?_ ?_
 ·skip
  refine aA H G G Tryz.func35 G G (gN _) ?_;clear H a
  rintro _ _ a ⟨A4,rfl,S2⟩ H
  replace S:=S.call S2;clear S2
  refine wpList_nil (And.intro (Or.inr (S.sel [1] G G)) ?_)
  refine tO G G G ?_ ?_ ?_
  ·skip
   refine aA H G G Tryz.func34 G G (cP true 1000 20 2000 20000 exBr A4 2 60 0 500 0 _ (ownM.inS S (i:=0) rfl) (by decide)) ?_;clear H a
   rintro _ _ a ⟨tl,th,rfl,S2⟩ H
   replace S:=S.call S2;clear S2
   rw [gM] at H
   refine wpList_nil (And.intro (Or.inr (S.sel [1] G G)) ?_)
   refine aG H G G (fun _ S=>aL rfl) ?_;clear H a;intro a H
   refine aG H G G (fun _ S=>aO G G) ?_;clear H a;intro a H
   refine aG H G G (fun _ S=>aO G G) ?_;clear H a;intro a H
   refine aG H G G (fun _ S=>aO G G) ?_;clear H a;intro a H
   refine dZ G G ?_ ?_
   ·skip
    refine aI H rfl S bS ?_;clear H a S;intro b2 _ a hb2 hbw2 S H
    refine wpList_nil (And.intro (Or.inr (S.sel [2] G G)) ?_)
    refine aM rfl ?_
    refine aI H rfl S bS ?_;clear H a S;intro b3 _ a hb3 hbw3 S H
    refine wpList_nil (And.intro (Or.inr (S.sel [3] G G)) ?_)
    refine aM rfl ?_
    refine aD H S (i:=1) G G G G aQ G G ?_
    clear H a S;intro _ a S H
    refine wpList_nil (And.intro (Or.inr (S.sel [3] G G)) ?_)
    refine aM rfl ?_
    refine aD H S (i:=0) G G G G aQ G G ?_
    clear H a S;intro _ a S H
    refine wpList_nil (And.intro (Or.inr (S.sel [3] G G)) ?_)
    refine aG H G G (fun _ S=>bF rfl) ?_;clear H a;intro a H
    refine bC ?_
    refine k3 _ _ ?_
    clear k3 K3
    replace H:=H.keep [2,4] rfl
    refine seq_list fun K4 k4=>?_
    refine aA H G G Tryz.func36 G G (cH _) ?_;clear H a
    rintro _ _ a ⟨SA,B0,B1,B2,B3,B4,QA,TA,rfl,S2⟩ H
    replace S:=S.call S2;clear S2
    refine ls 3 H<|sr 3 rfl<|sE ?_;clear H a;intro a H
    refine aI H rfl S fN ?_;clear H a S;intro b5 _ a hb5 hbw5 S H
    refine aD H S (i:=0) G G G G bY G G ?_
    clear H a S;intro _ a S H
    refine ls 1 H<|sr 1 rfl<|sE ?_;clear H a;intro a H
    refine k4 _ _ ?_;clear k4 K4
    replace H:=H.keep [2,4,5] rfl
    refine seq_list fun K5 k5=>?_
    refine ls 1 H<|sd ((aB dC bY rfl S (i:=0) G G))<|sE ?_;clear H a;intro a H
    refine aA H G G Tryz.func37 G G (dO 2 exSw SA 4 exWs QA 5 (exOA B0 B1 B2 B3 B4) exOc _ (ownM.inS S (i:=1) rfl) (ownM.inS S (i:=7) rfl) (fun k hk=>by
      rcases k with _|_|_|_|_|k
      · exact ownM.inS S (i:=2) rfl
      · exact ownM.inS S (i:=3) rfl
      · exact ownM.inS S (i:=4) rfl
      · exact ownM.inS S (i:=5) rfl
      · exact ownM.inS S (i:=6) rfl
      · exact absurd hk (by simp [exWs])
    ) exCir) ?_;clear H a
    rintro _ _ a ⟨A6,c6,rfl,S2⟩ H
    replace S:=S.call S2;clear S2
    rw [fK] at H
    refine ls 5 H<|sr 5 rfl<|sE ?_;clear H a;intro a H
    refine k5 _ _ ?_;clear k5 K5
    replace H:=H.keep [2,4,7,8] rfl
    refine sS H fun K6 k6=>sr 3 rfl<|sg 2 2 29 31 true G G (fun hg3=>sy hg3<|sr 1 rfl<|sy hg3<|sr 1 rfl<|sz 2 G G G)<|sa G G G<|sr 1 rfl<|sg 3 6 33 36 true G G (fun hg7=>sy hg7<|sd ((aB aZ aQ rfl S (i:=9) G G))<|sy hg7<|sd (aP dI G G)<|sy hg7<|sd (bV G G)<|sz 3 G G G)<|sa G G G<|sr 1 rfl<|sg 3 11 38 41 true G G (fun hg12=>sy hg12<|sr 1 rfl<|sy hg12<|sL fY rfl<|sy hg12<|sr 1 rfl<|sz 3 G G G)<|sa G G G<|sr 1 rfl<|sE ?_;clear H a;intro a H
    refine k6 _ ?_;clear k6 K6
    refine wp_ret ?_
    refine ret1 (fn:=Tryz.f9) rfl H rfl ?_
    exact ⟨rfl,(S.sel [] G G)⟩
   ·skip
    refine aI H rfl S bS ?_;clear H a S;intro b3 _ a hb3 hbw3 S H
    refine wpList_nil (And.intro (Or.inr (S.sel [2] G G)) ?_)
    refine aM rfl ?_
    refine aI H rfl S bS ?_;clear H a S;intro b2 _ a hb2 hbw2 S H
    refine wpList_nil (And.intro (Or.inr (S.sel [3] G G)) ?_)
    refine aM rfl ?_
    refine aD H S (i:=0) G G G G aQ G G ?_
    clear H a S;intro _ a S H
    refine wpList_nil (And.intro (Or.inr (S.sel [3] G G)) ?_)
    refine aM rfl ?_
    refine aD H S (i:=1) G G G G aQ G G ?_
    clear H a S;intro _ a S H
    refine wpList_nil (And.intro (Or.inr (S.sel [3] G G)) ?_)
    refine aG H G G (fun _ S=>bF rfl) ?_;clear H a;intro a H
    refine bC ?_
    refine k3 _ _ ?_
    clear k3 K3
    replace H:=H.keep [2,4] rfl
    refine seq_list fun K7 k7=>?_
    refine aA H G G Tryz.func36 G G (cH _) ?_;clear H a
    rintro _ _ a ⟨SA,B0,B1,B2,B3,B4,QA,TA,rfl,S2⟩ H
    replace S:=S.call S2;clear S2
    refine ls 3 H<|sr 3 rfl<|sE ?_;clear H a;intro a H
    refine aI H rfl S fN ?_;clear H a S;intro b5 _ a hb5 hbw5 S H
    refine aD H S (i:=0) G G G G bY G G ?_
    clear H a S;intro _ a S H
    refine ls 1 H<|sr 1 rfl<|sE ?_;clear H a;intro a H
    refine k7 _ _ ?_;clear k7 K7
    replace H:=H.keep [2,4,5] rfl
    refine seq_list fun K8 k8=>?_
    refine ls 1 H<|sd ((aB dC bY rfl S (i:=0) G G))<|sE ?_;clear H a;intro a H
    refine aA H G G Tryz.func37 G G (dO 2 exSw SA 4 exWs QA 5 (exOA B0 B1 B2 B3 B4) exOc _ (ownM.inS S (i:=1) rfl) (ownM.inS S (i:=7) rfl) (fun k hk=>by
      rcases k with _|_|_|_|_|k
      · exact ownM.inS S (i:=2) rfl
      · exact ownM.inS S (i:=3) rfl
      · exact ownM.inS S (i:=4) rfl
      · exact ownM.inS S (i:=5) rfl
      · exact ownM.inS S (i:=6) rfl
      · exact absurd hk (by simp [exWs])
    ) exCir) ?_;clear H a
    rintro _ _ a ⟨A6,c6,rfl,S2⟩ H
    replace S:=S.call S2;clear S2
    rw [fK] at H
    refine ls 5 H<|sr 5 rfl<|sE ?_;clear H a;intro a H
    refine k8 _ _ ?_;clear k8 K8
    replace H:=H.keep [2,4,7,8] rfl
    refine sS H fun K9 k9=>sr 3 rfl<|sg 2 2 29 31 true G G (fun hg3=>sy hg3<|sr 1 rfl<|sy hg3<|sr 1 rfl<|sz 2 G G G)<|sa G G G<|sr 1 rfl<|sg 3 6 33 36 true G G (fun hg7=>sy hg7<|sd ((aB aZ aQ rfl S (i:=8) G G))<|sy hg7<|sd (aP dI G G)<|sy hg7<|sd (bV G G)<|sz 3 G G G)<|sa G G G<|sr 1 rfl<|sg 3 11 38 41 true G G (fun hg12=>sy hg12<|sr 1 rfl<|sy hg12<|sL fY rfl<|sy hg12<|sr 1 rfl<|sz 3 G G G)<|sa G G G<|sr 1 rfl<|sE ?_;clear H a;intro a H
    refine k9 _ ?_;clear k9 K9
    refine wp_ret ?_
    refine ret1 (fn:=Tryz.f9) rfl H rfl ?_
    exact ⟨rfl,(S.sel [] G G)⟩
  ·skip
   refine aI H rfl S bS ?_;clear H a S;intro b2 _ a hb2 hbw2 S H
   refine wpList_nil (And.intro (Or.inr (S.sel [2] G G)) ?_)
   refine dZ G G ?_ ?_
   ·skip
    refine aA H G G Tryz.func34 G G (cP true 1000 20 2000 20000 exBr A4 2 60 0 500 0 _ (ownM.inS S (i:=1) rfl) (by decide)) ?_;clear H a
    rintro _ _ a ⟨tl,th,rfl,S2⟩ H
    replace S:=S.call S2;clear S2
    rw [gM] at H
    refine wpList_nil (And.intro (Or.inr (S.sel [2] G G)) ?_)
    refine aG H G G (fun _ S=>aL rfl) ?_;clear H a;intro a H
    refine aG H G G (fun _ S=>aO G G) ?_;clear H a;intro a H
    refine aG H G G (fun _ S=>aO G G) ?_;clear H a;intro a H
    refine aG H G G (fun _ S=>aO G G) ?_;clear H a;intro a H
    refine aM rfl ?_
    refine aI H rfl S bS ?_;clear H a S;intro b3 _ a hb3 hbw3 S H
    refine wpList_nil (And.intro (Or.inr (S.sel [3] G G)) ?_)
    refine aM rfl ?_
    refine aD H S (i:=1) G G G G aQ G G ?_
    clear H a S;intro _ a S H
    refine wpList_nil (And.intro (Or.inr (S.sel [3] G G)) ?_)
    refine aM rfl ?_
    refine aD H S (i:=0) G G G G aQ G G ?_
    clear H a S;intro _ a S H
    refine wpList_nil (And.intro (Or.inr (S.sel [3] G G)) ?_)
    refine aG H G G (fun _ S=>bF rfl) ?_;clear H a;intro a H
    refine bC ?_
    refine k3 _ _ ?_
    clear k3 K3
    replace H:=H.keep [2,4] rfl
    refine seq_list fun K10 k10=>?_
    refine aA H G G Tryz.func36 G G (cH _) ?_;clear H a
    rintro _ _ a ⟨SA,B0,B1,B2,B3,B4,QA,TA,rfl,S2⟩ H
    replace S:=S.call S2;clear S2
    refine ls 3 H<|sr 3 rfl<|sE ?_;clear H a;intro a H
    refine aI H rfl S fN ?_;clear H a S;intro b5 _ a hb5 hbw5 S H
    refine aD H S (i:=0) G G G G bY G G ?_
    clear H a S;intro _ a S H
    refine ls 1 H<|sr 1 rfl<|sE ?_;clear H a;intro a H
    refine k10 _ _ ?_;clear k10 K10
    replace H:=H.keep [2,4,5] rfl
    refine seq_list fun K11 k11=>?_
    refine ls 1 H<|sd ((aB dC bY rfl S (i:=0) G G))<|sE ?_;clear H a;intro a H
    refine aA H G G Tryz.func37 G G (dO 2 exSw SA 4 exWs QA 5 (exOA B0 B1 B2 B3 B4) exOc _ (ownM.inS S (i:=1) rfl) (ownM.inS S (i:=7) rfl) (fun k hk=>by
      rcases k with _|_|_|_|_|k
      · exact ownM.inS S (i:=2) rfl
      · exact ownM.inS S (i:=3) rfl
      · exact ownM.inS S (i:=4) rfl
      · exact ownM.inS S (i:=5) rfl
      · exact ownM.inS S (i:=6) rfl
      · exact absurd hk (by simp [exWs])
    ) exCir) ?_;clear H a
    rintro _ _ a ⟨A6,c6,rfl,S2⟩ H
    replace S:=S.call S2;clear S2
    rw [fK] at H
    refine ls 5 H<|sr 5 rfl<|sE ?_;clear H a;intro a H
    refine k11 _ _ ?_;clear k11 K11
    replace H:=H.keep [2,4,7,8] rfl
    refine sS H fun K12 k12=>sr 3 rfl<|sg 2 2 29 31 true G G (fun hg3=>sy hg3<|sr 1 rfl<|sy hg3<|sr 1 rfl<|sz 2 G G G)<|sa G G G<|sr 1 rfl<|sg 3 6 33 36 true G G (fun hg7=>sy hg7<|sd ((aB aZ aQ rfl S (i:=9) G G))<|sy hg7<|sd (aP dI G G)<|sy hg7<|sd (bV G G)<|sz 3 G G G)<|sa G G G<|sr 1 rfl<|sg 3 11 38 41 true G G (fun hg12=>sy hg12<|sr 1 rfl<|sy hg12<|sL fY rfl<|sy hg12<|sr 1 rfl<|sz 3 G G G)<|sa G G G<|sr 1 rfl<|sE ?_;clear H a;intro a H
    refine k12 _ ?_;clear k12 K12
    refine wp_ret ?_
    refine ret1 (fn:=Tryz.f9) rfl H rfl ?_
    exact ⟨rfl,(S.sel [] G G)⟩
   ·skip
    refine aI H rfl S bS ?_;clear H a S;intro b3 _ a hb3 hbw3 S H
    refine wpList_nil (And.intro (Or.inr (S.sel [3] G G)) ?_)
    refine aM rfl ?_
    refine aA H G G Tryz.func34 G G (cP true 1000 20 2000 20000 exBr A4 2 60 0 500 0 _ (ownM.inS S (i:=2) rfl) (by decide)) ?_;clear H a
    rintro _ _ a ⟨tl,th,rfl,S2⟩ H
    replace S:=S.call S2;clear S2
    rw [gM] at H
    refine wpList_nil (And.intro (Or.inr (S.sel [3] G G)) ?_)
    refine aG H G G (fun _ S=>aL rfl) ?_;clear H a;intro a H
    refine aG H G G (fun _ S=>aO G G) ?_;clear H a;intro a H
    refine aG H G G (fun _ S=>aO G G) ?_;clear H a;intro a H
    refine aG H G G (fun _ S=>aO G G) ?_;clear H a;intro a H
    refine aM rfl ?_
    refine aD H S (i:=1) G G G G aQ G G ?_
    clear H a S;intro _ a S H
    refine wpList_nil (And.intro (Or.inr (S.sel [3] G G)) ?_)
    refine aM rfl ?_
    refine aD H S (i:=0) G G G G aQ G G ?_
    clear H a S;intro _ a S H
    refine wpList_nil (And.intro (Or.inr (S.sel [3] G G)) ?_)
    refine aG H G G (fun _ S=>bF rfl) ?_;clear H a;intro a H
    refine bC ?_
    refine k3 _ _ ?_
    clear k3 K3
    replace H:=H.keep [2,4] rfl
    refine seq_list fun K13 k13=>?_
    refine aA H G G Tryz.func36 G G (cH _) ?_;clear H a
    rintro _ _ a ⟨SA,B0,B1,B2,B3,B4,QA,TA,rfl,S2⟩ H
    replace S:=S.call S2;clear S2
    refine ls 3 H<|sr 3 rfl<|sE ?_;clear H a;intro a H
    refine aI H rfl S fN ?_;clear H a S;intro b5 _ a hb5 hbw5 S H
    refine aD H S (i:=0) G G G G bY G G ?_
    clear H a S;intro _ a S H
    refine ls 1 H<|sr 1 rfl<|sE ?_;clear H a;intro a H
    refine k13 _ _ ?_;clear k13 K13
    replace H:=H.keep [2,4,5] rfl
    refine seq_list fun K14 k14=>?_
    refine ls 1 H<|sd ((aB dC bY rfl S (i:=0) G G))<|sE ?_;clear H a;intro a H
    refine aA H G G Tryz.func37 G G (dO 2 exSw SA 4 exWs QA 5 (exOA B0 B1 B2 B3 B4) exOc _ (ownM.inS S (i:=1) rfl) (ownM.inS S (i:=7) rfl) (fun k hk=>by
      rcases k with _|_|_|_|_|k
      · exact ownM.inS S (i:=2) rfl
      · exact ownM.inS S (i:=3) rfl
      · exact ownM.inS S (i:=4) rfl
      · exact ownM.inS S (i:=5) rfl
      · exact ownM.inS S (i:=6) rfl
      · exact absurd hk (by simp [exWs])
    ) exCir) ?_;clear H a
    rintro _ _ a ⟨A6,c6,rfl,S2⟩ H
    replace S:=S.call S2;clear S2
    rw [fK] at H
    refine ls 5 H<|sr 5 rfl<|sE ?_;clear H a;intro a H
    refine k14 _ _ ?_;clear k14 K14
    replace H:=H.keep [2,4,7,8] rfl
    refine sS H fun K15 k15=>sr 3 rfl<|sg 2 2 29 31 true G G (fun hg3=>sy hg3<|sr 1 rfl<|sy hg3<|sr 1 rfl<|sz 2 G G G)<|sa G G G<|sr 1 rfl<|sg 3 6 33 36 true G G (fun hg7=>sy hg7<|sd ((aB aZ aQ rfl S (i:=9) G G))<|sy hg7<|sd (aP dI G G)<|sy hg7<|sd (bV G G)<|sz 3 G G G)<|sa G G G<|sr 1 rfl<|sg 3 11 38 41 true G G (fun hg12=>sy hg12<|sr 1 rfl<|sy hg12<|sL fY rfl<|sy hg12<|sr 1 rfl<|sz 3 G G G)<|sa G G G<|sr 1 rfl<|sE ?_;clear H a;intro a H
    refine k15 _ ?_;clear k15 K15
    refine wp_ret ?_
    refine ret1 (fn:=Tryz.f9) rfl H rfl ?_
    exact ⟨rfl,(S.sel [] G G)⟩
  ·skip
   refine aI H rfl S bS ?_;clear H a S;intro b3 _ a hb3 hbw3 S H
   refine wpList_nil (And.intro (Or.inr (S.sel [2] G G)) ?_)
   refine dZ G G ?_ ?_
   ·skip
    refine aA H G G Tryz.func34 G G (cP true 1000 20 2000 20000 exBr A4 2 60 0 500 0 _ (ownM.inS S (i:=1) rfl) (by decide)) ?_;clear H a
    rintro _ _ a ⟨tl,th,rfl,S2⟩ H
    replace S:=S.call S2;clear S2
    rw [gM] at H
    refine wpList_nil (And.intro (Or.inr (S.sel [2] G G)) ?_)
    refine aG H G G (fun _ S=>aL rfl) ?_;clear H a;intro a H
    refine aG H G G (fun _ S=>aO G G) ?_;clear H a;intro a H
    refine aG H G G (fun _ S=>aO G G) ?_;clear H a;intro a H
    refine aG H G G (fun _ S=>aO G G) ?_;clear H a;intro a H
    refine aM rfl ?_
    refine aI H rfl S bS ?_;clear H a S;intro b2 _ a hb2 hbw2 S H
    refine wpList_nil (And.intro (Or.inr (S.sel [3] G G)) ?_)
    refine aM rfl ?_
    refine aD H S (i:=0) G G G G aQ G G ?_
    clear H a S;intro _ a S H
    refine wpList_nil (And.intro (Or.inr (S.sel [3] G G)) ?_)
    refine aM rfl ?_
    refine aD H S (i:=1) G G G G aQ G G ?_
    clear H a S;intro _ a S H
    refine wpList_nil (And.intro (Or.inr (S.sel [3] G G)) ?_)
    refine aG H G G (fun _ S=>bF rfl) ?_;clear H a;intro a H
    refine bC ?_
    refine k3 _ _ ?_
    clear k3 K3
    replace H:=H.keep [2,4] rfl
    refine seq_list fun K16 k16=>?_
    refine aA H G G Tryz.func36 G G (cH _) ?_;clear H a
    rintro _ _ a ⟨SA,B0,B1,B2,B3,B4,QA,TA,rfl,S2⟩ H
    replace S:=S.call S2;clear S2
    refine ls 3 H<|sr 3 rfl<|sE ?_;clear H a;intro a H
    refine aI H rfl S fN ?_;clear H a S;intro b5 _ a hb5 hbw5 S H
    refine aD H S (i:=0) G G G G bY G G ?_
    clear H a S;intro _ a S H
    refine ls 1 H<|sr 1 rfl<|sE ?_;clear H a;intro a H
    refine k16 _ _ ?_;clear k16 K16
    replace H:=H.keep [2,4,5] rfl
    refine seq_list fun K17 k17=>?_
    refine ls 1 H<|sd ((aB dC bY rfl S (i:=0) G G))<|sE ?_;clear H a;intro a H
    refine aA H G G Tryz.func37 G G (dO 2 exSw SA 4 exWs QA 5 (exOA B0 B1 B2 B3 B4) exOc _ (ownM.inS S (i:=1) rfl) (ownM.inS S (i:=7) rfl) (fun k hk=>by
      rcases k with _|_|_|_|_|k
      · exact ownM.inS S (i:=2) rfl
      · exact ownM.inS S (i:=3) rfl
      · exact ownM.inS S (i:=4) rfl
      · exact ownM.inS S (i:=5) rfl
      · exact ownM.inS S (i:=6) rfl
      · exact absurd hk (by simp [exWs])
    ) exCir) ?_;clear H a
    rintro _ _ a ⟨A6,c6,rfl,S2⟩ H
    replace S:=S.call S2;clear S2
    rw [fK] at H
    refine ls 5 H<|sr 5 rfl<|sE ?_;clear H a;intro a H
    refine k17 _ _ ?_;clear k17 K17
    replace H:=H.keep [2,4,7,8] rfl
    refine sS H fun K18 k18=>sr 3 rfl<|sg 2 2 29 31 true G G (fun hg3=>sy hg3<|sr 1 rfl<|sy hg3<|sr 1 rfl<|sz 2 G G G)<|sa G G G<|sr 1 rfl<|sg 3 6 33 36 true G G (fun hg7=>sy hg7<|sd ((aB aZ aQ rfl S (i:=8) G G))<|sy hg7<|sd (aP dI G G)<|sy hg7<|sd (bV G G)<|sz 3 G G G)<|sa G G G<|sr 1 rfl<|sg 3 11 38 41 true G G (fun hg12=>sy hg12<|sr 1 rfl<|sy hg12<|sL fY rfl<|sy hg12<|sr 1 rfl<|sz 3 G G G)<|sa G G G<|sr 1 rfl<|sE ?_;clear H a;intro a H
    refine k18 _ ?_;clear k18 K18
    refine wp_ret ?_
    refine ret1 (fn:=Tryz.f9) rfl H rfl ?_
    exact ⟨rfl,(S.sel [] G G)⟩
   ·skip
    refine aI H rfl S bS ?_;clear H a S;intro b2 _ a hb2 hbw2 S H
    refine wpList_nil (And.intro (Or.inr (S.sel [3] G G)) ?_)
    refine aM rfl ?_
    refine aA H G G Tryz.func34 G G (cP true 1000 20 2000 20000 exBr A4 2 60 0 500 0 _ (ownM.inS S (i:=2) rfl) (by decide)) ?_;clear H a
    rintro _ _ a ⟨tl,th,rfl,S2⟩ H
    replace S:=S.call S2;clear S2
    rw [gM] at H
    refine wpList_nil (And.intro (Or.inr (S.sel [3] G G)) ?_)
    refine aG H G G (fun _ S=>aL rfl) ?_;clear H a;intro a H
    refine aG H G G (fun _ S=>aO G G) ?_;clear H a;intro a H
    refine aG H G G (fun _ S=>aO G G) ?_;clear H a;intro a H
    refine aG H G G (fun _ S=>aO G G) ?_;clear H a;intro a H
    refine aM rfl ?_
    refine aD H S (i:=0) G G G G aQ G G ?_
    clear H a S;intro _ a S H
    refine wpList_nil (And.intro (Or.inr (S.sel [3] G G)) ?_)
    refine aM rfl ?_
    refine aD H S (i:=1) G G G G aQ G G ?_
    clear H a S;intro _ a S H
    refine wpList_nil (And.intro (Or.inr (S.sel [3] G G)) ?_)
    refine aG H G G (fun _ S=>bF rfl) ?_;clear H a;intro a H
    refine bC ?_
    refine k3 _ _ ?_
    clear k3 K3
    replace H:=H.keep [2,4] rfl
    refine seq_list fun K19 k19=>?_
    refine aA H G G Tryz.func36 G G (cH _) ?_;clear H a
    rintro _ _ a ⟨SA,B0,B1,B2,B3,B4,QA,TA,rfl,S2⟩ H
    replace S:=S.call S2;clear S2
    refine ls 3 H<|sr 3 rfl<|sE ?_;clear H a;intro a H
    refine aI H rfl S fN ?_;clear H a S;intro b5 _ a hb5 hbw5 S H
    refine aD H S (i:=0) G G G G bY G G ?_
    clear H a S;intro _ a S H
    refine ls 1 H<|sr 1 rfl<|sE ?_;clear H a;intro a H
    refine k19 _ _ ?_;clear k19 K19
    replace H:=H.keep [2,4,5] rfl
    refine seq_list fun K20 k20=>?_
    refine ls 1 H<|sd ((aB dC bY rfl S (i:=0) G G))<|sE ?_;clear H a;intro a H
    refine aA H G G Tryz.func37 G G (dO 2 exSw SA 4 exWs QA 5 (exOA B0 B1 B2 B3 B4) exOc _ (ownM.inS S (i:=1) rfl) (ownM.inS S (i:=7) rfl) (fun k hk=>by
      rcases k with _|_|_|_|_|k
      · exact ownM.inS S (i:=2) rfl
      · exact ownM.inS S (i:=3) rfl
      · exact ownM.inS S (i:=4) rfl
      · exact ownM.inS S (i:=5) rfl
      · exact ownM.inS S (i:=6) rfl
      · exact absurd hk (by simp [exWs])
    ) exCir) ?_;clear H a
    rintro _ _ a ⟨A6,c6,rfl,S2⟩ H
    replace S:=S.call S2;clear S2
    rw [fK] at H
    refine ls 5 H<|sr 5 rfl<|sE ?_;clear H a;intro a H
    refine k20 _ _ ?_;clear k20 K20
    replace H:=H.keep [2,4,7,8] rfl
    refine sS H fun K21 k21=>sr 3 rfl<|sg 2 2 29 31 true G G (fun hg3=>sy hg3<|sr 1 rfl<|sy hg3<|sr 1 rfl<|sz 2 G G G)<|sa G G G<|sr 1 rfl<|sg 3 6 33 36 true G G (fun hg7=>sy hg7<|sd ((aB aZ aQ rfl S (i:=8) G G))<|sy hg7<|sd (aP dI G G)<|sy hg7<|sd (bV G G)<|sz 3 G G G)<|sa G G G<|sr 1 rfl<|sg 3 11 38 41 true G G (fun hg12=>sy hg12<|sr 1 rfl<|sy hg12<|sL fY rfl<|sy hg12<|sr 1 rfl<|sz 3 G G G)<|sa G G G<|sr 1 rfl<|sE ?_;clear H a;intro a H
    refine k21 _ ?_;clear k21 K21
    refine wp_ret ?_
    refine ret1 (fn:=Tryz.f9) rfl H rfl ?_
    exact ⟨rfl,(S.sel [] G G)⟩
 ·skip
  refine aI H rfl S bS ?_;clear H a S;intro b2 _ a hb2 hbw2 S H
  refine wpList_nil (And.intro (Or.inr (S.sel [1] G G)) ?_)
  refine dZ G G ?_ ?_
  ·skip
   refine aA H G G Tryz.func35 G G (gN _) ?_;clear H a
   rintro _ _ a ⟨A4,rfl,S2⟩ H
   replace S:=S.call S2;clear S2
   refine wpList_nil (And.intro (Or.inr (S.sel [2] G G)) ?_)
   refine dZ G G ?_ ?_
   ·skip
    refine aA H G G Tryz.func34 G G (cP true 1000 20 2000 20000 exBr A4 2 60 0 500 0 _ (ownM.inS S (i:=0) rfl) (by decide)) ?_;clear H a
    rintro _ _ a ⟨tl,th,rfl,S2⟩ H
    replace S:=S.call S2;clear S2
    rw [gM] at H
    refine wpList_nil (And.intro (Or.inr (S.sel [2] G G)) ?_)
    refine aG H G G (fun _ S=>aL rfl) ?_;clear H a;intro a H
    refine aG H G G (fun _ S=>aO G G) ?_;clear H a;intro a H
    refine aG H G G (fun _ S=>aO G G) ?_;clear H a;intro a H
    refine aG H G G (fun _ S=>aO G G) ?_;clear H a;intro a H
    refine aM rfl ?_
    refine aI H rfl S bS ?_;clear H a S;intro b3 _ a hb3 hbw3 S H
    refine wpList_nil (And.intro (Or.inr (S.sel [3] G G)) ?_)
    refine aM rfl ?_
    refine aD H S (i:=2) G G G G aQ G G ?_
    clear H a S;intro _ a S H
    refine wpList_nil (And.intro (Or.inr (S.sel [3] G G)) ?_)
    refine aM rfl ?_
    refine aD H S (i:=0) G G G G aQ G G ?_
    clear H a S;intro _ a S H
    refine wpList_nil (And.intro (Or.inr (S.sel [3] G G)) ?_)
    refine aG H G G (fun _ S=>bF rfl) ?_;clear H a;intro a H
    refine bC ?_
    refine k3 _ _ ?_
    clear k3 K3
    replace H:=H.keep [2,4] rfl
    refine seq_list fun K22 k22=>?_
    refine aA H G G Tryz.func36 G G (cH _) ?_;clear H a
    rintro _ _ a ⟨SA,B0,B1,B2,B3,B4,QA,TA,rfl,S2⟩ H
    replace S:=S.call S2;clear S2
    refine ls 3 H<|sr 3 rfl<|sE ?_;clear H a;intro a H
    refine aI H rfl S fN ?_;clear H a S;intro b5 _ a hb5 hbw5 S H
    refine aD H S (i:=0) G G G G bY G G ?_
    clear H a S;intro _ a S H
    refine ls 1 H<|sr 1 rfl<|sE ?_;clear H a;intro a H
    refine k22 _ _ ?_;clear k22 K22
    replace H:=H.keep [2,4,5] rfl
    refine seq_list fun K23 k23=>?_
    refine ls 1 H<|sd ((aB dC bY rfl S (i:=0) G G))<|sE ?_;clear H a;intro a H
    refine aA H G G Tryz.func37 G G (dO 2 exSw SA 4 exWs QA 5 (exOA B0 B1 B2 B3 B4) exOc _ (ownM.inS S (i:=1) rfl) (ownM.inS S (i:=7) rfl) (fun k hk=>by
      rcases k with _|_|_|_|_|k
      · exact ownM.inS S (i:=2) rfl
      · exact ownM.inS S (i:=3) rfl
      · exact ownM.inS S (i:=4) rfl
      · exact ownM.inS S (i:=5) rfl
      · exact ownM.inS S (i:=6) rfl
      · exact absurd hk (by simp [exWs])
    ) exCir) ?_;clear H a
    rintro _ _ a ⟨A6,c6,rfl,S2⟩ H
    replace S:=S.call S2;clear S2
    rw [fK] at H
    refine ls 5 H<|sr 5 rfl<|sE ?_;clear H a;intro a H
    refine k23 _ _ ?_;clear k23 K23
    replace H:=H.keep [2,4,7,8] rfl
    refine sS H fun K24 k24=>sr 3 rfl<|sg 2 2 29 31 true G G (fun hg3=>sy hg3<|sr 1 rfl<|sy hg3<|sr 1 rfl<|sz 2 G G G)<|sa G G G<|sr 1 rfl<|sg 3 6 33 36 true G G (fun hg7=>sy hg7<|sd ((aB aZ aQ rfl S (i:=10) G G))<|sy hg7<|sd (aP dI G G)<|sy hg7<|sd (bV G G)<|sz 3 G G G)<|sa G G G<|sr 1 rfl<|sg 3 11 38 41 true G G (fun hg12=>sy hg12<|sr 1 rfl<|sy hg12<|sL fY rfl<|sy hg12<|sr 1 rfl<|sz 3 G G G)<|sa G G G<|sr 1 rfl<|sE ?_;clear H a;intro a H
    refine k24 _ ?_;clear k24 K24
    refine wp_ret ?_
    refine ret1 (fn:=Tryz.f9) rfl H rfl ?_
    exact ⟨rfl,(S.sel [] G G)⟩
   ·skip
    refine aI H rfl S bS ?_;clear H a S;intro b3 _ a hb3 hbw3 S H
    refine wpList_nil (And.intro (Or.inr (S.sel [3] G G)) ?_)
    refine aM rfl ?_
    refine aA H G G Tryz.func34 G G (cP true 1000 20 2000 20000 exBr A4 2 60 0 500 0 _ (ownM.inS S (i:=1) rfl) (by decide)) ?_;clear H a
    rintro _ _ a ⟨tl,th,rfl,S2⟩ H
    replace S:=S.call S2;clear S2
    rw [gM] at H
    refine wpList_nil (And.intro (Or.inr (S.sel [3] G G)) ?_)
    refine aG H G G (fun _ S=>aL rfl) ?_;clear H a;intro a H
    refine aG H G G (fun _ S=>aO G G) ?_;clear H a;intro a H
    refine aG H G G (fun _ S=>aO G G) ?_;clear H a;intro a H
    refine aG H G G (fun _ S=>aO G G) ?_;clear H a;intro a H
    refine aM rfl ?_
    refine aD H S (i:=2) G G G G aQ G G ?_
    clear H a S;intro _ a S H
    refine wpList_nil (And.intro (Or.inr (S.sel [3] G G)) ?_)
    refine aM rfl ?_
    refine aD H S (i:=0) G G G G aQ G G ?_
    clear H a S;intro _ a S H
    refine wpList_nil (And.intro (Or.inr (S.sel [3] G G)) ?_)
    refine aG H G G (fun _ S=>bF rfl) ?_;clear H a;intro a H
    refine bC ?_
    refine k3 _ _ ?_
    clear k3 K3
    replace H:=H.keep [2,4] rfl
    refine seq_list fun K25 k25=>?_
    refine aA H G G Tryz.func36 G G (cH _) ?_;clear H a
    rintro _ _ a ⟨SA,B0,B1,B2,B3,B4,QA,TA,rfl,S2⟩ H
    replace S:=S.call S2;clear S2
    refine ls 3 H<|sr 3 rfl<|sE ?_;clear H a;intro a H
    refine aI H rfl S fN ?_;clear H a S;intro b5 _ a hb5 hbw5 S H
    refine aD H S (i:=0) G G G G bY G G ?_
    clear H a S;intro _ a S H
    refine ls 1 H<|sr 1 rfl<|sE ?_;clear H a;intro a H
    refine k25 _ _ ?_;clear k25 K25
    replace H:=H.keep [2,4,5] rfl
    refine seq_list fun K26 k26=>?_
    refine ls 1 H<|sd ((aB dC bY rfl S (i:=0) G G))<|sE ?_;clear H a;intro a H
    refine aA H G G Tryz.func37 G G (dO 2 exSw SA 4 exWs QA 5 (exOA B0 B1 B2 B3 B4) exOc _ (ownM.inS S (i:=1) rfl) (ownM.inS S (i:=7) rfl) (fun k hk=>by
      rcases k with _|_|_|_|_|k
      · exact ownM.inS S (i:=2) rfl
      · exact ownM.inS S (i:=3) rfl
      · exact ownM.inS S (i:=4) rfl
      · exact ownM.inS S (i:=5) rfl
      · exact ownM.inS S (i:=6) rfl
      · exact absurd hk (by simp [exWs])
    ) exCir) ?_;clear H a
    rintro _ _ a ⟨A6,c6,rfl,S2⟩ H
    replace S:=S.call S2;clear S2
    rw [fK] at H
    refine ls 5 H<|sr 5 rfl<|sE ?_;clear H a;intro a H
    refine k26 _ _ ?_;clear k26 K26
    replace H:=H.keep [2,4,7,8] rfl
    refine sS H fun K27 k27=>sr 3 rfl<|sg 2 2 29 31 true G G (fun hg3=>sy hg3<|sr 1 rfl<|sy hg3<|sr 1 rfl<|sz 2 G G G)<|sa G G G<|sr 1 rfl<|sg 3 6 33 36 true G G (fun hg7=>sy hg7<|sd ((aB aZ aQ rfl S (i:=10) G G))<|sy hg7<|sd (aP dI G G)<|sy hg7<|sd (bV G G)<|sz 3 G G G)<|sa G G G<|sr 1 rfl<|sg 3 11 38 41 true G G (fun hg12=>sy hg12<|sr 1 rfl<|sy hg12<|sL fY rfl<|sy hg12<|sr 1 rfl<|sz 3 G G G)<|sa G G G<|sr 1 rfl<|sE ?_;clear H a;intro a H
    refine k27 _ ?_;clear k27 K27
    refine wp_ret ?_
    refine ret1 (fn:=Tryz.f9) rfl H rfl ?_
    exact ⟨rfl,(S.sel [] G G)⟩
  ·skip
   refine aI H rfl S bS ?_;clear H a S;intro b3 _ a hb3 hbw3 S H
   refine wpList_nil (And.intro (Or.inr (S.sel [2] G G)) ?_)
   refine aM rfl ?_
   refine aA H G G Tryz.func35 G G (gN _) ?_;clear H a
   rintro _ _ a ⟨A4,rfl,S2⟩ H
   replace S:=S.call S2;clear S2
   refine wpList_nil (And.intro (Or.inr (S.sel [3] G G)) ?_)
   refine aM rfl ?_
   refine aA H G G Tryz.func34 G G (cP true 1000 20 2000 20000 exBr A4 2 60 0 500 0 _ (ownM.inS S (i:=0) rfl) (by decide)) ?_;clear H a
   rintro _ _ a ⟨tl,th,rfl,S2⟩ H
   replace S:=S.call S2;clear S2
   rw [gM] at H
   refine wpList_nil (And.intro (Or.inr (S.sel [3] G G)) ?_)
   refine aG H G G (fun _ S=>aL rfl) ?_;clear H a;intro a H
   refine aG H G G (fun _ S=>aO G G) ?_;clear H a;intro a H
   refine aG H G G (fun _ S=>aO G G) ?_;clear H a;intro a H
   refine aG H G G (fun _ S=>aO G G) ?_;clear H a;intro a H
   refine aM rfl ?_
   refine aD H S (i:=2) G G G G aQ G G ?_
   clear H a S;intro _ a S H
   refine wpList_nil (And.intro (Or.inr (S.sel [3] G G)) ?_)
   refine aM rfl ?_
   refine aD H S (i:=1) G G G G aQ G G ?_
   clear H a S;intro _ a S H
   refine wpList_nil (And.intro (Or.inr (S.sel [3] G G)) ?_)
   refine aG H G G (fun _ S=>bF rfl) ?_;clear H a;intro a H
   refine bC ?_
   refine k3 _ _ ?_
   clear k3 K3
   replace H:=H.keep [2,4] rfl
   refine seq_list fun K28 k28=>?_
   refine aA H G G Tryz.func36 G G (cH _) ?_;clear H a
   rintro _ _ a ⟨SA,B0,B1,B2,B3,B4,QA,TA,rfl,S2⟩ H
   replace S:=S.call S2;clear S2
   refine ls 3 H<|sr 3 rfl<|sE ?_;clear H a;intro a H
   refine aI H rfl S fN ?_;clear H a S;intro b5 _ a hb5 hbw5 S H
   refine aD H S (i:=0) G G G G bY G G ?_
   clear H a S;intro _ a S H
   refine ls 1 H<|sr 1 rfl<|sE ?_;clear H a;intro a H
   refine k28 _ _ ?_;clear k28 K28
   replace H:=H.keep [2,4,5] rfl
   refine seq_list fun K29 k29=>?_
   refine ls 1 H<|sd ((aB dC bY rfl S (i:=0) G G))<|sE ?_;clear H a;intro a H
   refine aA H G G Tryz.func37 G G (dO 2 exSw SA 4 exWs QA 5 (exOA B0 B1 B2 B3 B4) exOc _ (ownM.inS S (i:=1) rfl) (ownM.inS S (i:=7) rfl) (fun k hk=>by
     rcases k with _|_|_|_|_|k
     · exact ownM.inS S (i:=2) rfl
     · exact ownM.inS S (i:=3) rfl
     · exact ownM.inS S (i:=4) rfl
     · exact ownM.inS S (i:=5) rfl
     · exact ownM.inS S (i:=6) rfl
     · exact absurd hk (by simp [exWs])
   ) exCir) ?_;clear H a
   rintro _ _ a ⟨A6,c6,rfl,S2⟩ H
   replace S:=S.call S2;clear S2
   rw [fK] at H
   refine ls 5 H<|sr 5 rfl<|sE ?_;clear H a;intro a H
   refine k29 _ _ ?_;clear k29 K29
   replace H:=H.keep [2,4,7,8] rfl
   refine sS H fun K30 k30=>sr 3 rfl<|sg 2 2 29 31 true G G (fun hg3=>sy hg3<|sr 1 rfl<|sy hg3<|sr 1 rfl<|sz 2 G G G)<|sa G G G<|sr 1 rfl<|sg 3 6 33 36 true G G (fun hg7=>sy hg7<|sd ((aB aZ aQ rfl S (i:=10) G G))<|sy hg7<|sd (aP dI G G)<|sy hg7<|sd (bV G G)<|sz 3 G G G)<|sa G G G<|sr 1 rfl<|sg 3 11 38 41 true G G (fun hg12=>sy hg12<|sr 1 rfl<|sy hg12<|sL fY rfl<|sy hg12<|sr 1 rfl<|sz 3 G G G)<|sa G G G<|sr 1 rfl<|sE ?_;clear H a;intro a H
   refine k30 _ ?_;clear k30 K30
   refine wp_ret ?_
   refine ret1 (fn:=Tryz.f9) rfl H rfl ?_
   exact ⟨rfl,(S.sel [] G G)⟩
 ·skip
  refine aI H rfl S bS ?_;clear H a S;intro b3 _ a hb3 hbw3 S H
  refine wpList_nil (And.intro (Or.inr (S.sel [1] G G)) ?_)
  refine dZ G G ?_ ?_
  ·skip
   refine aA H G G Tryz.func35 G G (gN _) ?_;clear H a
   rintro _ _ a ⟨A4,rfl,S2⟩ H
   replace S:=S.call S2;clear S2
   refine wpList_nil (And.intro (Or.inr (S.sel [2] G G)) ?_)
   refine dZ G G ?_ ?_
   ·skip
    refine aA H G G Tryz.func34 G G (cP true 1000 20 2000 20000 exBr A4 2 60 0 500 0 _ (ownM.inS S (i:=0) rfl) (by decide)) ?_;clear H a
    rintro _ _ a ⟨tl,th,rfl,S2⟩ H
    replace S:=S.call S2;clear S2
    rw [gM] at H
    refine wpList_nil (And.intro (Or.inr (S.sel [2] G G)) ?_)
    refine aG H G G (fun _ S=>aL rfl) ?_;clear H a;intro a H
    refine aG H G G (fun _ S=>aO G G) ?_;clear H a;intro a H
    refine aG H G G (fun _ S=>aO G G) ?_;clear H a;intro a H
    refine aG H G G (fun _ S=>aO G G) ?_;clear H a;intro a H
    refine aM rfl ?_
    refine aI H rfl S bS ?_;clear H a S;intro b2 _ a hb2 hbw2 S H
    refine wpList_nil (And.intro (Or.inr (S.sel [3] G G)) ?_)
    refine aM rfl ?_
    refine aD H S (i:=0) G G G G aQ G G ?_
    clear H a S;intro _ a S H
    refine wpList_nil (And.intro (Or.inr (S.sel [3] G G)) ?_)
    refine aM rfl ?_
    refine aD H S (i:=2) G G G G aQ G G ?_
    clear H a S;intro _ a S H
    refine wpList_nil (And.intro (Or.inr (S.sel [3] G G)) ?_)
    refine aG H G G (fun _ S=>bF rfl) ?_;clear H a;intro a H
    refine bC ?_
    refine k3 _ _ ?_
    clear k3 K3
    replace H:=H.keep [2,4] rfl
    refine seq_list fun K31 k31=>?_
    refine aA H G G Tryz.func36 G G (cH _) ?_;clear H a
    rintro _ _ a ⟨SA,B0,B1,B2,B3,B4,QA,TA,rfl,S2⟩ H
    replace S:=S.call S2;clear S2
    refine ls 3 H<|sr 3 rfl<|sE ?_;clear H a;intro a H
    refine aI H rfl S fN ?_;clear H a S;intro b5 _ a hb5 hbw5 S H
    refine aD H S (i:=0) G G G G bY G G ?_
    clear H a S;intro _ a S H
    refine ls 1 H<|sr 1 rfl<|sE ?_;clear H a;intro a H
    refine k31 _ _ ?_;clear k31 K31
    replace H:=H.keep [2,4,5] rfl
    refine seq_list fun K32 k32=>?_
    refine ls 1 H<|sd ((aB dC bY rfl S (i:=0) G G))<|sE ?_;clear H a;intro a H
    refine aA H G G Tryz.func37 G G (dO 2 exSw SA 4 exWs QA 5 (exOA B0 B1 B2 B3 B4) exOc _ (ownM.inS S (i:=1) rfl) (ownM.inS S (i:=7) rfl) (fun k hk=>by
      rcases k with _|_|_|_|_|k
      · exact ownM.inS S (i:=2) rfl
      · exact ownM.inS S (i:=3) rfl
      · exact ownM.inS S (i:=4) rfl
      · exact ownM.inS S (i:=5) rfl
      · exact ownM.inS S (i:=6) rfl
      · exact absurd hk (by simp [exWs])
    ) exCir) ?_;clear H a
    rintro _ _ a ⟨A6,c6,rfl,S2⟩ H
    replace S:=S.call S2;clear S2
    rw [fK] at H
    refine ls 5 H<|sr 5 rfl<|sE ?_;clear H a;intro a H
    refine k32 _ _ ?_;clear k32 K32
    replace H:=H.keep [2,4,7,8] rfl
    refine sS H fun K33 k33=>sr 3 rfl<|sg 2 2 29 31 true G G (fun hg3=>sy hg3<|sr 1 rfl<|sy hg3<|sr 1 rfl<|sz 2 G G G)<|sa G G G<|sr 1 rfl<|sg 3 6 33 36 true G G (fun hg7=>sy hg7<|sd ((aB aZ aQ rfl S (i:=8) G G))<|sy hg7<|sd (aP dI G G)<|sy hg7<|sd (bV G G)<|sz 3 G G G)<|sa G G G<|sr 1 rfl<|sg 3 11 38 41 true G G (fun hg12=>sy hg12<|sr 1 rfl<|sy hg12<|sL fY rfl<|sy hg12<|sr 1 rfl<|sz 3 G G G)<|sa G G G<|sr 1 rfl<|sE ?_;clear H a;intro a H
    refine k33 _ ?_;clear k33 K33
    refine wp_ret ?_
    refine ret1 (fn:=Tryz.f9) rfl H rfl ?_
    exact ⟨rfl,(S.sel [] G G)⟩
   ·skip
    refine aI H rfl S bS ?_;clear H a S;intro b2 _ a hb2 hbw2 S H
    refine wpList_nil (And.intro (Or.inr (S.sel [3] G G)) ?_)
    refine aM rfl ?_
    refine aA H G G Tryz.func34 G G (cP true 1000 20 2000 20000 exBr A4 2 60 0 500 0 _ (ownM.inS S (i:=1) rfl) (by decide)) ?_;clear H a
    rintro _ _ a ⟨tl,th,rfl,S2⟩ H
    replace S:=S.call S2;clear S2
    rw [gM] at H
    refine wpList_nil (And.intro (Or.inr (S.sel [3] G G)) ?_)
    refine aG H G G (fun _ S=>aL rfl) ?_;clear H a;intro a H
    refine aG H G G (fun _ S=>aO G G) ?_;clear H a;intro a H
    refine aG H G G (fun _ S=>aO G G) ?_;clear H a;intro a H
    refine aG H G G (fun _ S=>aO G G) ?_;clear H a;intro a H
    refine aM rfl ?_
    refine aD H S (i:=0) G G G G aQ G G ?_
    clear H a S;intro _ a S H
    refine wpList_nil (And.intro (Or.inr (S.sel [3] G G)) ?_)
    refine aM rfl ?_
    refine aD H S (i:=2) G G G G aQ G G ?_
    clear H a S;intro _ a S H
    refine wpList_nil (And.intro (Or.inr (S.sel [3] G G)) ?_)
    refine aG H G G (fun _ S=>bF rfl) ?_;clear H a;intro a H
    refine bC ?_
    refine k3 _ _ ?_
    clear k3 K3
    replace H:=H.keep [2,4] rfl
    refine seq_list fun K34 k34=>?_
    refine aA H G G Tryz.func36 G G (cH _) ?_;clear H a
    rintro _ _ a ⟨SA,B0,B1,B2,B3,B4,QA,TA,rfl,S2⟩ H
    replace S:=S.call S2;clear S2
    refine ls 3 H<|sr 3 rfl<|sE ?_;clear H a;intro a H
    refine aI H rfl S fN ?_;clear H a S;intro b5 _ a hb5 hbw5 S H
    refine aD H S (i:=0) G G G G bY G G ?_
    clear H a S;intro _ a S H
    refine ls 1 H<|sr 1 rfl<|sE ?_;clear H a;intro a H
    refine k34 _ _ ?_;clear k34 K34
    replace H:=H.keep [2,4,5] rfl
    refine seq_list fun K35 k35=>?_
    refine ls 1 H<|sd ((aB dC bY rfl S (i:=0) G G))<|sE ?_;clear H a;intro a H
    refine aA H G G Tryz.func37 G G (dO 2 exSw SA 4 exWs QA 5 (exOA B0 B1 B2 B3 B4) exOc _ (ownM.inS S (i:=1) rfl) (ownM.inS S (i:=7) rfl) (fun k hk=>by
      rcases k with _|_|_|_|_|k
      · exact ownM.inS S (i:=2) rfl
      · exact ownM.inS S (i:=3) rfl
      · exact ownM.inS S (i:=4) rfl
      · exact ownM.inS S (i:=5) rfl
      · exact ownM.inS S (i:=6) rfl
      · exact absurd hk (by simp [exWs])
    ) exCir) ?_;clear H a
    rintro _ _ a ⟨A6,c6,rfl,S2⟩ H
    replace S:=S.call S2;clear S2
    rw [fK] at H
    refine ls 5 H<|sr 5 rfl<|sE ?_;clear H a;intro a H
    refine k35 _ _ ?_;clear k35 K35
    replace H:=H.keep [2,4,7,8] rfl
    refine sS H fun K36 k36=>sr 3 rfl<|sg 2 2 29 31 true G G (fun hg3=>sy hg3<|sr 1 rfl<|sy hg3<|sr 1 rfl<|sz 2 G G G)<|sa G G G<|sr 1 rfl<|sg 3 6 33 36 true G G (fun hg7=>sy hg7<|sd ((aB aZ aQ rfl S (i:=8) G G))<|sy hg7<|sd (aP dI G G)<|sy hg7<|sd (bV G G)<|sz 3 G G G)<|sa G G G<|sr 1 rfl<|sg 3 11 38 41 true G G (fun hg12=>sy hg12<|sr 1 rfl<|sy hg12<|sL fY rfl<|sy hg12<|sr 1 rfl<|sz 3 G G G)<|sa G G G<|sr 1 rfl<|sE ?_;clear H a;intro a H
    refine k36 _ ?_;clear k36 K36
    refine wp_ret ?_
    refine ret1 (fn:=Tryz.f9) rfl H rfl ?_
    exact ⟨rfl,(S.sel [] G G)⟩
  ·skip
   refine aI H rfl S bS ?_;clear H a S;intro b2 _ a hb2 hbw2 S H
   refine wpList_nil (And.intro (Or.inr (S.sel [2] G G)) ?_)
   refine aM rfl ?_
   refine aA H G G Tryz.func35 G G (gN _) ?_;clear H a
   rintro _ _ a ⟨A4,rfl,S2⟩ H
   replace S:=S.call S2;clear S2
   refine wpList_nil (And.intro (Or.inr (S.sel [3] G G)) ?_)
   refine aM rfl ?_
   refine aA H G G Tryz.func34 G G (cP true 1000 20 2000 20000 exBr A4 2 60 0 500 0 _ (ownM.inS S (i:=0) rfl) (by decide)) ?_;clear H a
   rintro _ _ a ⟨tl,th,rfl,S2⟩ H
   replace S:=S.call S2;clear S2
   rw [gM] at H
   refine wpList_nil (And.intro (Or.inr (S.sel [3] G G)) ?_)
   refine aG H G G (fun _ S=>aL rfl) ?_;clear H a;intro a H
   refine aG H G G (fun _ S=>aO G G) ?_;clear H a;intro a H
   refine aG H G G (fun _ S=>aO G G) ?_;clear H a;intro a H
   refine aG H G G (fun _ S=>aO G G) ?_;clear H a;intro a H
   refine aM rfl ?_
   refine aD H S (i:=1) G G G G aQ G G ?_
   clear H a S;intro _ a S H
   refine wpList_nil (And.intro (Or.inr (S.sel [3] G G)) ?_)
   refine aM rfl ?_
   refine aD H S (i:=2) G G G G aQ G G ?_
   clear H a S;intro _ a S H
   refine wpList_nil (And.intro (Or.inr (S.sel [3] G G)) ?_)
   refine aG H G G (fun _ S=>bF rfl) ?_;clear H a;intro a H
   refine bC ?_
   refine k3 _ _ ?_
   clear k3 K3
   replace H:=H.keep [2,4] rfl
   refine seq_list fun K37 k37=>?_
   refine aA H G G Tryz.func36 G G (cH _) ?_;clear H a
   rintro _ _ a ⟨SA,B0,B1,B2,B3,B4,QA,TA,rfl,S2⟩ H
   replace S:=S.call S2;clear S2
   refine ls 3 H<|sr 3 rfl<|sE ?_;clear H a;intro a H
   refine aI H rfl S fN ?_;clear H a S;intro b5 _ a hb5 hbw5 S H
   refine aD H S (i:=0) G G G G bY G G ?_
   clear H a S;intro _ a S H
   refine ls 1 H<|sr 1 rfl<|sE ?_;clear H a;intro a H
   refine k37 _ _ ?_;clear k37 K37
   replace H:=H.keep [2,4,5] rfl
   refine seq_list fun K38 k38=>?_
   refine ls 1 H<|sd ((aB dC bY rfl S (i:=0) G G))<|sE ?_;clear H a;intro a H
   refine aA H G G Tryz.func37 G G (dO 2 exSw SA 4 exWs QA 5 (exOA B0 B1 B2 B3 B4) exOc _ (ownM.inS S (i:=1) rfl) (ownM.inS S (i:=7) rfl) (fun k hk=>by
     rcases k with _|_|_|_|_|k
     · exact ownM.inS S (i:=2) rfl
     · exact ownM.inS S (i:=3) rfl
     · exact ownM.inS S (i:=4) rfl
     · exact ownM.inS S (i:=5) rfl
     · exact ownM.inS S (i:=6) rfl
     · exact absurd hk (by simp [exWs])
   ) exCir) ?_;clear H a
   rintro _ _ a ⟨A6,c6,rfl,S2⟩ H
   replace S:=S.call S2;clear S2
   rw [fK] at H
   refine ls 5 H<|sr 5 rfl<|sE ?_;clear H a;intro a H
   refine k38 _ _ ?_;clear k38 K38
   replace H:=H.keep [2,4,7,8] rfl
   refine sS H fun K39 k39=>sr 3 rfl<|sg 2 2 29 31 true G G (fun hg3=>sy hg3<|sr 1 rfl<|sy hg3<|sr 1 rfl<|sz 2 G G G)<|sa G G G<|sr 1 rfl<|sg 3 6 33 36 true G G (fun hg7=>sy hg7<|sd ((aB aZ aQ rfl S (i:=9) G G))<|sy hg7<|sd (aP dI G G)<|sy hg7<|sd (bV G G)<|sz 3 G G G)<|sa G G G<|sr 1 rfl<|sg 3 11 38 41 true G G (fun hg12=>sy hg12<|sr 1 rfl<|sy hg12<|sL fY rfl<|sy hg12<|sr 1 rfl<|sz 3 G G G)<|sa G G G<|sr 1 rfl<|sE ?_;clear H a;intro a H
   refine k39 _ ?_;clear k39 K39
   refine wp_ret ?_
   refine ret1 (fn:=Tryz.f9) rfl H rfl ?_
   exact ⟨rfl,(S.sel [] G G)⟩
end
section
section
variable {y:Yr} {l r:List Tsk} {a b c t:Tsk} {d D k n:Nat}
end
end
section
section
variable {P T:Nat} {ps:List Psg} {xs:List Int} {day:List Hq} {h:Nat}
end
section
variable {P:Nat} {ps:List Psg} {xs:List Int} {out:Int} {f:Nat→Bool}
end
end
section
section
variable {y:Yr} {l:List Tsk} {d k n:Nat}
end
end
section
section
variable {y:Yr} {l r:List Tsk} {d D k n J:Nat} {t:Tsk}
end
end
section
section
variable {y:Yr} {l:List Tsk} {d i k n:Nat} {t:Tsk} {out:Int} {mu:List Nat}
end
end
section
section
variable {y:Yr} {l:List Tsk} {d u:Nat} {f:Nat→Bool} {n i:Nat}
theorem Le (hok:YOk y) (hu:u<y.us.length) (h:runsY y l u d=true):¬ outY y l d y.us.length/2^(y.us.getD u Unt.zero).mach.toNat%2=1:=by
  have h1:=gW hok.V (gI.1 (hok.un u hu))
  rw [sB hok (Nat.le_refl _) (by omega)]
  intro h2
  by_cases h3:outM y l d y.us.length (y.us.getD u Unt.zero).mach.toNat=true
  · obtain ⟨k,hk,h4,h5⟩:=rZ.1 h3
    have h6:=gW hok.V (gI.1 (hok.un k hk))
    have h7:¬ u<k:=fun h9=>h6.2 u h9 (by omega)
    have h8:¬ k<u:=fun h9=>h1.2 k h9 (by omega)
    have e:k=u:=by omega
    subst e
    rw [h] at h5
    cases h5
  · rw [if_neg h3] at h2;cases h2
theorem Lf {x:Nat}:∀ {n},x ∈ filtN f n→x<n∧f x=true:=by
  intro n
  induction n with
  | zero=>intro h;cases h
  | succ n ih=>
    intro h
    rw [filtN] at h
    by_cases hf:f n=true
    · rw [if_pos hf,List.mem_append,List.mem_singleton] at h
      rcases h with h|rfl
      · have:=ih h;exact ⟨by omega,this.2⟩
      · exact ⟨by omega,hf⟩
    · rw [if_neg hf] at h
      have:=ih h;exact ⟨by omega,this.2⟩
theorem Lg {l:List Nat} {k:Nat} (h:k<l.length):l.getD k 0 ∈ l:=by
  rw [List.getD_eq_getElem?_getD,List.getElem?_eq_getElem h];exact List.getElem_mem h
theorem Lh {u:Int} (hz:askdE y l u=0) (hi:i<(runsL y l u).length):(runsL y l u).getD i 0<y.days.toNat∧runsY y l u.toNat ((runsL y l u).getD i 0)=true:=by
  have h:=Lg hi
  have e:runsL y l u=filtN (runsY y l u.toNat) y.days.toNat:=by unfold runsL;rw [if_neg (by rw [hz];simp)]
  rw [e] at h ⊢
  exact Lf h
theorem Gn {u:Int}:(runsL y l u).length≤y.days.toNat:=by
  unfold runsL
  split
  · exact Nat.zero_le _
  · exact uC _
end
theorem tB (pl:Int) (ps:List Psg) (PA:Option Addr) (pc:Nat) (xs:List Int) (XA:Option Addr) (xc:Nat) (mm:Int) (js:List Jq) (JA:Option Addr) (jc:Nat) (AA:Nat→Option Addr) (ac:Nat→Nat) (nv:List Int) (NA:Option Addr) (nc:Nat) (cr un:Int) (st:List Int) (SA:Option Addr) (sc:Nat) (pe:List Int) (BA:Option Addr) (bc:Nat) (hlp:Bool) (T0:Int) (prs:List Prm) (QA:Option Addr) (qc:Nat) (w:World) (hps:InS w noF 7 PA ps.length (pcell ps)) (hps8:ps.length*56≤140737488351232) (hxs:InS w noF 1 XA xs.length (icl xs)) (hxs8:xs.length*8≤140737488351232) (hpe:InS w noF 1 BA pe.length (icl pe)) (hpe8:pe.length*8≤140737488351232) (hjs:InS w noF 3 JA js.length (gF js AA ac)) (hnv:InS w noF 1 NA nv.length (icl nv)) (haf:∀ k,k<js.length→InS w noF 1 (AA k) (js.getD k Jq.zero).after.length (icl (js.getD k Jq.zero).after)) (hjn:js.length≤9223372036854775807) (hnn:nv.length≤9223372036854775807) (han:∀ k,k<js.length→(js.getD k Jq.zero).after.length≤9223372036854775807) (hst:InS w noF 1 SA st.length (icl st)) (hstn:st.length≤9223372036854775807) (hprs:InS w noF 5 QA prs.length (fB prs)) (hprn:prs.length≤9223372036854775807) :
    Calls Tryz.prog 3 [.agg [.int .i64 pl,.slice PA ps.length pc,.slice XA xs.length xc].toArray,.agg [.int .i64 mm,.slice JA js.length jc,.slice NA nv.length nc,.int .i64 cr,.int .i64 un,.slice SA st.length sc].toArray,.agg [.slice BA pe.length bc,.bool hlp,.int .i64 T0,.slice QA prs.length qc].toArray].toArray w (Ret (fun u w'=>u = .bool true∧St w noF [] w')):=by
 have hpn:ps.length≤9223372036854775807:=by omega
 have hxn:xs.length≤9223372036854775807:=by omega
 have hpen:pe.length≤9223372036854775807:=by omega
 refine enter Tryz.func3 rfl Tryz.ntmps3 rfl (fun a H=>?_)
 have S:=St.start w
 refine seq_list fun K1 k1=>?_
 refine aN H rfl S G G ?_;clear H a S;intro b3 _ a hb3 hbw3 S H
 refine aN H rfl S G G ?_;clear H a S;intro b4 _ a hb4 hbw4 S H
 refine aN H rfl S G G ?_;clear H a S;intro b5 _ a hb5 hbw5 S H
 refine ls 1 H<|sr 1 rfl<|sE ?_;clear H a;intro a H
 refine k1 _ _ ?_;clear k1 K1
 refine wp_seq_k fun K2 k2=>?_
 replace H:=H.keep [3,4,5] rfl
 refine seq_list fun K3 k3=>?_
 refine ls 2 H<|sf lW rfl<|sd ((aB iS lD rfl S (i:=1) G G))<|sE ?_;clear H a;intro a H
 refine aA H G G Tryz.func7 G G (Rn mm js JA jc AA ac nv NA nc cr un _ (hjs.now S) (hnv.now S) (fun k hk=>(haf k hk).now S) hjn hnn han) ?_;clear H a
 rintro _ _ a ⟨rfl,S2⟩ H
 replace S:=S.call S2;clear S2
 refine ls 7 H<|sr 1 rfl<|sg 4 3 25 29 false G G (fun hg4=>by
     have hq4:=hg4;try simp only [o1,o2,o3,o4,o5,o6,o7,o8,o9,oa] at hq4
     exact sy hg4<|sf pS rfl<|sy hg4<|sl S 1 bD G G G<|sy hg4<|sL aS rfl<|sy hg4<|sr 1 rfl<|sz 4 G G G)<|so G G G<|sr 1 rfl<|sE ?_;clear H a;intro a H
 apply cI (i:=9) (g:=31) (t:=34) (b:=false) 3 H S G G (by kernel_rfl) (by kernel_rfl) G G
 case h1=>
  intro hg10
  have hq10:=hg10;try simp only [o1,o2,o3,o4,o5,o6,o7,o8,o9,oa] at hq10
  refine ls 1 H<|sy hg10<|sd ((aB eQ hX rfl S (i:=2) G G))<|sE ?_;intro a H
  refine cY H G G (by assumption) ?_
  refine aA H G G Tryz.func8 G G (jJ pl ps PA pc xs XA xc _ (hps.now S) hpn (hxs.now S) hxn) ?_
  rintro _ _ a ⟨rfl,S2⟩ H
  replace S:=S.call S2;clear S2
  refine ls 1 H<|sy hg10<|sr 1 rfl<|sE ?_;intro a H
  exact wpList_nil ⟨H.strip 3 G G,(S.sel [0,1,2] G G)⟩
 clear H a S;intro a _ H S
 refine ls 7 H<|so G G G<|sr 1 rfl<|sg 4 14 36 40 false G G (fun hg15=>by
     have hq15:=hg15;try simp only [o1,o2,o3,o4,o5,o6,o7,o8,o9,oa] at hq15
     exact sy hg15<|sf vD rfl<|sy hg15<|sl S 0 oO G G G<|sy hg15<|sL jR rfl<|sy hg15<|sr 1 rfl<|sz 4 G G G)<|so G G G<|sE ?_;clear H a;intro a H
 refine k3 _ _ ?_;clear k3 K3
 refine cond_ H rfl (fun hc1=>?_) (fun hc1=>?_)
 ·skip
  try simp only [o1,o2,o3,o4,o5,o6,o7,o8,o9,oa] at hc1
  replace H:=H.keep [] rfl
  refine seq_list fun K4 k4=>?_
  refine aA H G G Tryz.func9 G G (iL _) ?_;clear H a
  rintro _ _ a ⟨rfl,S2⟩ H
  replace S:=S.call S2;clear S2
  refine ls 1 H<|sr 1 rfl<|sE ?_;clear H a;intro a H
  refine k4 _ _ ?_;clear k4 K4
  refine wp_ret ?_
  refine ret1 (fn:=Tryz.f3) rfl H rfl ?_
  exact ⟨rfl,(S.sel [] G G)⟩
 try simp only [o1,o2,o3,o4,o5,o6,o7,o8,o9,oa] at hc1
 refine wp_skip ?_
 refine k2 _ _ ?_
 refine wp_seq_k fun K5 k5=>?_
 replace H:=H.keep [3,4,5] rfl
 refine seq_list fun K6 k6=>?_
 refine ls 4 H<|sf lW rfl<|sd ((aB iS lD rfl S (i:=1) G G))<|sf pS rfl<|sl S 1 bD G G G<|sE ?_;clear H a;intro a H
 refine aA H G G Tryz.func10 G G (wJ mm js JA jc AA ac nv NA nc cr un st SA sc _ (hjs.now S) (hnv.now S) (fun k hk=>(haf k hk).now S) hjn hnn han (hst.now S) hstn) ?_;clear H a
 rintro _ _ a ⟨a9,b9,e9,rfl,hcp,S2⟩ H
 replace S:=S.call S2;clear S2
 refine ls 7 H<|sr 7 rfl<|sE ?_;clear H a;intro a H
 refine k6 _ _ ?_;clear k6 K6
 replace H:=H.keep [3,4,5,9] rfl
 refine sS H fun K7 k7=>sr 2 rfl<|sE ?_;clear H a;intro a H
 refine k7 _ ?_;clear k7 K7
 refine condN H rfl (fun hc2=>?_) (fun hc2=>?_)
 ·skip
  refine seq_list fun K8 k8=>?_
  refine aA H G G Tryz.func9 G G (iL _) ?_;clear H a
  rintro _ _ a ⟨rfl,S2⟩ H
  replace S:=S.call S2;clear S2
  refine ls 1 H<|sr 1 rfl<|sE ?_;clear H a;intro a H
  refine k8 _ _ ?_;clear k8 K8
  refine wp_ret ?_
  refine ret1 (fn:=Tryz.f3) rfl H rfl ?_
  exact ⟨rfl,(S.sel [] G G)⟩
 obtain ⟨hE,hsl,hR1⟩:=hcp (by omega)
 have V:=lZ hE
 have hub:=V.unb
 have hjl:=V.nj
 have hsb:∀ k,k<js.length→0≤st.getD k 0∧st.getD k 0≤24:=fun k hk=>by have:=hR1 k hk;have:=V.job k hk;omega
 refine wp_skip ?_
 refine k5 _ _ ?_
 replace H:=H.keep [3,4,5] rfl
 refine seq_list fun K9 k9=>?_
 refine ls 6 H<|sd ((aB eQ hX rfl S (i:=2) G G))<|sf lW rfl<|sd ((aB iS lD rfl S (i:=1) G G))<|sf pS rfl<|sl S 1 bD G G G<|sd ((aB Qg Tp rfl S (i:=0) G G))<|sE ?_;clear H a;intro a H
 refine aA H G G Tryz.func11 G G (wI pl ps PA pc xs XA xc mm js JA jc AA ac nv NA nc cr un st SA sc pe BA bc hlp T0 prs QA qc _ (hps.now S) hps8 (hxs.now S) hxs8 (hpe.now S) hpe8 (hjs.now S) (hnv.now S) (fun k hk=>(haf k hk).now S) hjn hnn han (hst.now S) hsl (hprs.now S) hprn V hsb (by omega)) ?_;clear H a
 rintro _ _ a ⟨A5,c5,RA,rc,A8,c8,A9,c9,rfl,S2⟩ H
 replace S:=S.call S2;clear S2
 refine ls 4 H<|sr 4 rfl<|sE ?_;clear H a;intro a H
 refine aI H rfl S Bp ?_;clear H a S;intro b10 _ a hb10 hbw10 S H
 refine aD H S (i:=0) G G G G gQ G G ?_
 clear H a S;intro _ a S H
 refine ls 2 H<|sr 2 rfl<|sE ?_;clear H a;intro a H
 refine k9 _ _ ?_;clear k9 K9
 refine wp_seq_k fun K10 k10=>?_
 replace H:=H.keep [4,10,11,12] rfl
 refine sS H fun K11 k11=>sr 2 rfl<|sE ?_;clear H a;intro a H
 refine k11 _ ?_;clear k11 K11
 refine cond_ H rfl (fun hc3=>?_) (fun hc3=>?_)
 ·skip
  try simp only [o1,o2,o3,o4,o5,o6,o7,o8,o9,oa] at hc3
  refine seq_list fun K12 k12=>?_
  refine aA H G G Tryz.func9 G G (iL _) ?_;clear H a
  rintro _ _ a ⟨rfl,S2⟩ H
  replace S:=S.call S2;clear S2
  refine ls 1 H<|sr 1 rfl<|sE ?_;clear H a;intro a H
  refine k12 _ _ ?_;clear k12 K12
  refine wp_ret ?_
  refine ret1 (fn:=Tryz.f3) rfl H rfl ?_
  exact ⟨rfl,(S.sel [] G G)⟩
 try simp only [o1,o2,o3,o4,o5,o6,o7,o8,o9,oa] at hc3
 have hte:taskE (calY un pl ps PA pc xs XA xc pe BA bc T0 hlp prs A5 c5 (calM js js.length) RA rc A8 c8 cr) (calL (calM js js.length) js st un.toNat)=0:=by simpa using hc3
 have htk0:=qE hte
 have hok:=mC htk0.1
 have hdy:1≤un∧un≤20:=hok.days
 have hmsl:(calM js js.length).length≤js.length:=sH _
 have hul:(calUs (calM js js.length) RA rc).length=(calM js js.length).length:=calUs_len
 have hyb:YBd (calY un pl ps PA pc xs XA xc pe BA bc T0 hlp prs A5 c5 (calM js js.length) RA rc A8 c8 cr):=Cp hps8 hxs8 hpe8 (by omega) (by omega)
 have hyl:(calY un pl ps PA pc xs XA xc pe BA bc T0 hlp prs A5 c5 (calM js js.length) RA rc A8 c8 cr).us.length=(calUs (calM js js.length) RA rc).length:=rfl
 have hyd:(calY un pl ps PA pc xs XA xc pe BA bc T0 hlp prs A5 c5 (calM js js.length) RA rc A8 c8 cr).days=un:=rfl
 refine wp_skip ?_
 refine k10 _ _ ?_
 replace H:=H.keep [4,10,11] rfl
 refine seq_list fun K13 k13=>?_
 refine ls 2 H<|sd ((aB fL gQ rfl S (i:=0) G G))<|sr 1 rfl<|sE ?_;clear H a;intro a H
 have hcl9:=fJ (Sk (calY un pl ps PA pc xs XA xc pe BA bc T0 hlp prs A5 c5 (calM js js.length) RA rc A8 c8 cr) (calL (calM js js.length) js st un.toNat) A9 c9 _ (wB S hps hxs hpe (i:=1) rfl (j:=2) rfl (k:=3) rfl) hyb (ownM.inS S (i:=4) rfl) (by omega)) (fun _ _ h=>Oy hte h)
 refine aA H G G Tryz.func12 G G hcl9 ?_;clear H a hcl9
 rintro _ _ a ⟨A6,c6,rfl,S2⟩ H
 replace S:=S.call S2;clear S2
 refine ls 5 H<|sr 5 rfl<|sE ?_;clear H a;intro a H
 refine k13 _ _ ?_;clear k13 K13
 refine wp_seq_k fun K14 k14=>?_
 replace H:=H.keep [4,10,11,13,14] rfl
 refine sS H fun K15 k15=>sr 3 rfl<|sg 6 2 77 83 false G G (fun hg3=>by
     have hq3:=hg3;try simp only [o1,o2,o3,o4,o5,o6,o7,o8,o9,oa] at hq3
     exact sy hg3<|sr 1 rfl<|sy hg3<|sL aS rfl<|sy hg3<|sf lW rfl<|sy hg3<|sf eW rfl<|sy hg3<|sl S 7 aE G G G<|sy hg3<|sr 1 rfl<|sz 6 G G G)<|so G G G<|sE ?_;clear H a;intro a H
 refine k15 _ ?_;clear k15 K15
 refine cond_ H rfl (fun hc4=>?_) (fun hc4=>?_)
 ·skip
  try simp only [o1,o2,o3,o4,o5,o6,o7,o8,o9,oa] at hc4
  exfalso;simp only [not_true_eq_false,false_or] at hc4;exact hc4 (show ((un.toNat:Nat):Int)=un by omega)
 try simp only [o1,o2,o3,o4,o5,o6,o7,o8,o9,oa] at hc4
 refine wp_skip ?_
 refine k14 _ _ ?_
 refine wp_seq_k fun K16 k16=>?_
 replace H:=H.keep [4,10,11,13] rfl
 refine sS H fun K17 k17=>sr 1 rfl<|sE ?_;clear H a;intro a H
 refine k17 _ ?_;clear k17 K17
 refine wp_block ?_
 refine loop_st (X:=Nat) (R0:=_) [4,10,11,13] H rfl (fun n=>[(15,.int .i64 (n:Int))]) (fun n=>[]) (fun g n=>(n:Int)≤un∧g+n=un.toNat) (un.toNat) 0 ?_ (S.sel [0,1,2,3,4,5,6,7,8] G G) (H.keep [15,4,10,11,13] rfl) ?_
 · exact ⟨by omega,by omega⟩
 clear H S a
 intro g1 x1 a w1 hp S H K18 k18
 obtain ⟨n,rfl⟩:∃ y,y=x1:=⟨_,rfl⟩
 refine wp_seq_k fun K19 k19=>?_
 refine sS H fun K20 k20=>sr 1 rfl<|sf lW rfl<|sf eW rfl<|sl S 7 aE G G G<|sr 1 rfl<|sE ?_;clear H a;intro a H
 refine k20 _ ?_;clear k20 K20
 refine condL H rfl (fun hc5=>?_) (fun hc5=>?_)
 ·skip
  refine wp_skip ?_
  refine k19 _ _ ?_
  refine wp_seq_k fun K21 k21=>?_
  refine wp_block ?_
  replace H:=H.keep [4,10,11,13,15] rfl
  refine seq_list fun K22 k22=>?_
  refine ls 5 H<|sf lW rfl<|sd ((aB iS lD rfl S (i:=7) G G))<|sf pS rfl<|sl S 7 bD G G G<|sr 1 rfl<|sE ?_;clear H a;intro a H
  refine aA H G G Tryz.func13 G G (Eh mm js JA jc AA ac nv NA nc cr un st SA sc (n:Int) _ (hjs.now S) (hnv.now S) (fun k hk=>(haf k hk).now S) hjn hnn han (hst.now S) hsl hE hsb (by omega)) ?_;clear H a
  rintro _ _ a ⟨rfl,S2⟩ H
  replace S:=S.call S2;clear S2
  refine ls 5 H<|sr 5 rfl<|sE ?_;clear H a;intro a H
  refine k22 _ _ ?_;clear k22 K22
  replace H:=H.keep [4,10,11,13,15,16,17] rfl
  refine sS H fun K23 k23=>sr 3 rfl<|sg 6 2 103 109 false G G (fun hg3=>by
      have hq3:=hg3;try simp only [o1,o2,o3,o4,o5,o6,o7,o8,o9,oa] at hq3
      exact sy hg3<|sr 1 rfl<|sy hg3<|sr 1 rfl<|sy hg3<|si aS bA G G (ownM.adr S (i:=0) rfl (by omega)) (by omega)<|sy hg3<|slm aE rfl (ownM.rd S (i:=0) rfl (by omega) (by omega))<|sy hg3<|sr 1 rfl<|sy hg3<|sr 1 rfl<|sz 6 G G G)<|so G G G<|sE ?_;clear H a;intro a H
  refine k23 _ ?_;clear k23 K23
  refine cond_ H rfl (fun hc6=>?_) (fun hc6=>?_)
  ·skip
   try simp only [o1,o2,o3,o4,o5,o6,o7,o8,o9,oa] at hc6
   exfalso;simp only [not_true_eq_false,false_or] at hc6;exact hc6 (Nn hok V rfl (by omega) (by omega))
  try simp only [o1,o2,o3,o4,o5,o6,o7,o8,o9,oa] at hc6
  refine wp_skip ?_
  refine k21 _ _ ?_
  replace H:=H.keep [4,10,11,13,15] rfl
  refine sO H<|sr 1 rfl<|sd (aK G G (by unfold i64ok;omega))<|sr 1 rfl<|sE ?_;clear H a;intro a H
  exact k18 (g1-1) (n+1) a _ (by omega) (⟨by omega,by omega⟩) (S.sel [0,1,2,3,4,5,6,7,8] G G) (H.keep [15,4,10,11,13] rfl)
 refine wp_exit ?_
 refine k16 _ _ ?_
 refine wp_seq_k fun K25 k25=>?_
 refine sS H fun K26 k26=>sr 1 rfl<|sE ?_;clear H a;intro a H
 refine k26 _ ?_;clear k26 K26
 refine wp_block ?_
 refine loop_st (X:=Nat) (R0:=_) [10,11,13] H rfl (fun u=>[(18,.int .i64 (u:Int))]) (fun u=>[]) (fun g u=>u≤(calUs (calM js js.length) RA rc).length∧g+u=(calUs (calM js js.length) RA rc).length) ((calUs (calM js js.length) RA rc).length) 0 ?_ (S.sel [0,1,2,3,4,5,6,7,8] G G) (H.keep [18,10,11,13] rfl) ?_
 · exact ⟨by omega,by omega⟩
 clear H S a
 intro g2 x2 a w2 hp S H K27 k27
 obtain ⟨u,rfl⟩:∃ y,y=x2:=⟨_,rfl⟩
 refine wp_seq_k fun K28 k28=>?_
 refine sS H fun K29 k29=>sr 1 rfl<|sf cM rfl<|sl S 1 dL G G G<|sL eI rfl<|sr 1 rfl<|sE ?_;clear H a;intro a H
 refine k29 _ ?_;clear k29 K29
 refine condL H rfl (fun hc7=>?_) (fun hc7=>?_)
 ·skip
  refine wp_skip ?_
  refine k28 _ _ ?_
  refine wp_seq_k fun K30 k30=>?_
  refine wp_block ?_
  replace H:=H.keep [10,11,13,18] rfl
  refine seq_list fun K31 k31=>?_
  refine ls 3 H<|sd ((aB fL gQ rfl S (i:=1) G G))<|sr 2 rfl<|sE ?_;clear H a;intro a H
  have hcl9:=Oq (calY un pl ps PA pc xs XA xc pe BA bc T0 hlp prs A5 c5 (calM js js.length) RA rc A8 c8 cr) (calL (calM js js.length) js st un.toNat) A9 c9 (u:Int) _ (wB S hps hxs hpe (i:=2) rfl (j:=3) rfl (k:=4) rfl) hyb (ownM.inS S (i:=5) rfl) (by omega)
  refine aA H G G Tryz.func14 G G hcl9 ?_;clear H a hcl9
  rintro _ _ a ⟨A7,c7,rfl,S2⟩ H
  replace S:=S.call S2;clear S2
  have hz:askdE (calY un pl ps PA pc xs XA xc pe BA bc T0 hlp prs A5 c5 (calM js js.length) RA rc A8 c8 cr) (calL (calM js js.length) js st un.toNat) (u:Int)=0:=Cl hte (by show (0:Int)≤(u:Int)∧(u:Int)≤((calUs (calM js js.length) RA rc).length:Int)-1;omega)
  rw [hz] at H
  have hrl:(runsL (calY un pl ps PA pc xs XA xc pe BA bc T0 hlp prs A5 c5 (calM js js.length) RA rc A8 c8 cr) (calL (calM js js.length) js st un.toNat) (u:Int)).length≤un.toNat:=Gn (y:=(calY un pl ps PA pc xs XA xc pe BA bc T0 hlp prs A5 c5 (calM js js.length) RA rc A8 c8 cr))
  refine ls 5 H<|sr 5 rfl<|sE ?_;clear H a;intro a H
  refine k31 _ _ ?_;clear k31 K31
  refine wp_seq_k fun K32 k32=>?_
  replace H:=H.keep [10,11,13,18,19,20] rfl
  refine sS H fun K33 k33=>sr 2 rfl<|sE ?_;clear H a;intro a H
  refine k33 _ ?_;clear k33 K33
  refine cond_ H rfl (fun hc8=>?_) (fun hc8=>?_)
  ·skip
   skip
   cases hc8
  skip
  refine wp_skip ?_
  refine k32 _ _ ?_
  refine sS H fun K34 k34=>sr 1 rfl<|sE ?_;clear H a;intro a H
  refine k34 _ ?_;clear k34 K34
  refine wp_block ?_
  refine loop_st (X:=Nat) (R0:=_) [10,11,13,18,19] H rfl (fun i=>[(21,.int .i64 (i:Int))]) (fun i=>[]) (fun g i=>i≤(runsL (calY un pl ps PA pc xs XA xc pe BA bc T0 hlp prs A5 c5 (calM js js.length) RA rc A8 c8 cr) (calL (calM js js.length) js st un.toNat) (u:Int)).length∧g+i=(runsL (calY un pl ps PA pc xs XA xc pe BA bc T0 hlp prs A5 c5 (calM js js.length) RA rc A8 c8 cr) (calL (calM js js.length) js st un.toNat) (u:Int)).length) ((runsL (calY un pl ps PA pc xs XA xc pe BA bc T0 hlp prs A5 c5 (calM js js.length) RA rc A8 c8 cr) (calL (calM js js.length) js st un.toNat) (u:Int)).length) 0 ?_ (S.sel [0,1,2,3,4,5,6,7,8,9] G G) (H.keep [21,10,11,13,18,19] rfl) ?_
  · exact ⟨by omega,by omega⟩
  clear H S a
  intro g3 x3 a w3 hp S H K35 k35
  obtain ⟨i,rfl⟩:∃ y,y=x3:=⟨_,rfl⟩
  refine wp_seq_k fun K36 k36=>?_
  refine sS H fun K37 k37=>sr 2 rfl<|sL aS rfl<|sr 1 rfl<|sE ?_;clear H a;intro a H
  refine k37 _ ?_;clear k37 K37
  refine condL H rfl (fun hc9=>?_) (fun hc9=>?_)
  ·skip
   refine wp_skip ?_
   refine k36 _ _ ?_
   refine wp_seq_k fun K38 k38=>?_
   refine wp_block ?_
   obtain ⟨hr1,hr2⟩:=Lh hz (show i<(runsL (calY un pl ps PA pc xs XA xc pe BA bc T0 hlp prs A5 c5 (calM js js.length) RA rc A8 c8 cr) (calL (calM js js.length) js st un.toNat) (u:Int)).length by omega)
   have hr1':(runsL (calY un pl ps PA pc xs XA xc pe BA bc T0 hlp prs A5 c5 (calM js js.length) RA rc A8 c8 cr) (calL (calM js js.length) js st un.toNat) (u:Int)).getD i 0<un.toNat:=hr1
   have huu:u<(calUs (calM js js.length) RA rc).length:=by omega
   have hmm:0≤((calUs (calM js js.length) RA rc).getD u Unt.zero).mach∧((calUs (calM js js.length) RA rc).getD u Unt.zero).mach≤11:=(gW hok.V (gI.1 (hok.un u huu))).1
   have hob:=wA (y:=(calY un pl ps PA pc xs XA xc pe BA bc T0 hlp prs A5 c5 (calM js js.length) RA rc A8 c8 cr)) (l:=(calL (calM js js.length) js st un.toNat)) (d:=(runsL (calY un pl ps PA pc xs XA xc pe BA bc T0 hlp prs A5 c5 (calM js js.length) RA rc A8 c8 cr) (calL (calM js js.length) js st un.toNat) (u:Int)).getD i 0) hok (Nat.le_refl _)
   have hrb:=Le hok huu hr2
   replace H:=H.keep [10,11,13,18,19,21] rfl
   replace S:=S.drew
   refine sD H fun K39 k39=>sr 2 rfl<|si aS bA G G (ownM.adr S (i:=0) rfl (by omega)) (by omega)<|slm aE rfl (ownM.rd S (i:=0) rfl (by omega) (by omega))<|sr 2 rfl<|sg 7 5 138 145 false G G (fun hg6=>by
       have hq6:=hg6;try simp only [o1,o2,o3,o4,o5,o6,o7,o8,o9,oa] at hq6
       exact sy hg6<|sr 1 rfl<|sy hg6<|sr 1 rfl<|sy hg6<|si aS bA G G (ownM.adr S (i:=0) rfl (by omega)) (by omega)<|sy hg6<|slm aE rfl (ownM.rd S (i:=0) rfl (by omega) (by omega))<|sy hg6<|sf dK rfl<|sy hg6<|sl S 2 aE G G G<|sy hg6<|sr 1 rfl<|sz 7 G G G)<|so G G G<|sr 1 rfl<|sg 17 14 147 164 false G G (fun hg15=>by
       have hq15:=hg15;try simp only [o1,o2,o3,o4,o5,o6,o7,o8,o9,oa] at hq15
       exact sy hg15<|sr 1 rfl<|sy hg15<|sr 1 rfl<|sy hg15<|sr 1 rfl<|sy hg15<|si aS bA G G (ownM.adr S (i:=0) rfl (by omega)) (by omega)<|sy hg15<|slm aE rfl (ownM.rd S (i:=0) rfl (by omega) (by omega))<|sy hg15<|si aS bA G G (ownM.adr S (i:=1) rfl (by omega)) (by omega)<|sy hg15<|slm aE rfl (ownM.rd S (i:=1) rfl (by omega) (by omega))<|sy hg15<|sf cM rfl<|sy hg15<|sl S 2 dL G G G<|sy hg15<|sr 1 rfl<|sy hg15<|si eI hY G G (ownM.adr S (i:=4) rfl (by omega)) (by omega)<|sy hg15<|sp kO rfl<|sy hg15<|slm aE rfl (ownM.rd S (i:=4) rfl (by omega) (by omega))<|sy hg15<|sd (kH Tryz.underlying3 Tryz.underlying52 rfl (by first|omega|exact IntWalk.i64_in _ (by omega)|exact IntWalk.u64_in _ (by omega)))<|sy hg15<|sd (fD G G (by omega) (by omega))<|sy hg15<|sd (eL G G)<|sy hg15<|sr 1 rfl<|sz 17 G G G)<|so G G G<|sE ?_;clear H a;intro a H
   refine k39 _ ?_;clear k39 K39
   refine cond_ H rfl (fun hc10=>?_) (fun hc10=>?_)
   ·skip
    try simp only [o1,o2,o3,o4,o5,o6,o7,o8,o9,oa] at hc10
    exfalso;rcases hc10 with h9|h9;omega;exact hrb h9
   try simp only [o1,o2,o3,o4,o5,o6,o7,o8,o9,oa] at hc10
   refine wp_skip ?_
   refine k38 _ _ ?_
   replace H:=H.keep [10,11,13,18,19,21] rfl
   refine sO H<|sr 1 rfl<|sd (aK G G (by unfold i64ok;omega))<|sr 1 rfl<|sE ?_;clear H a;intro a H
   exact k35 (g3-1) (i+1) a _ (by omega) (⟨by omega,by omega⟩) (S.sel [0,1,2,3,4,5,6,7,8,9] G G) (H.keep [21,10,11,13,18,19] rfl)
  refine wp_exit ?_
  refine k30 _ _ ?_
  refine sO H<|sr 1 rfl<|sd (aK G G (by unfold i64ok;omega))<|sr 1 rfl<|sE ?_;clear H a;intro a H
  exact k27 (g2-1) (u+1) a _ (by omega) (⟨by omega,by omega⟩) (S.sel [1,2,3,4,5,6,7,8,9] G G) (H.keep [18,10,11,13] rfl)
 refine wp_exit ?_
 refine k25 _ _ ?_
 refine seq_list fun K42 k42=>?_
 refine aA H G G Tryz.func9 G G (iL _) ?_;clear H a
 rintro _ _ a ⟨rfl,S2⟩ H
 replace S:=S.call S2;clear S2
 refine ls 1 H<|sr 1 rfl<|sE ?_;clear H a;intro a H
 refine k42 _ _ ?_;clear k42 K42
 refine wp_ret ?_
 refine ret1 (fn:=Tryz.f3) rfl H rfl ?_
 exact ⟨rfl,(S.sel [] G G)⟩
theorem tL {B:Nat} (pl:Int) (ps:List Psg) (PA:Option Addr) (pc:Nat) (xs:List Int) (XA:Option Addr) (xc:Nat) (mm:Int) (jl:List Jb) (JA:Option Addr) (jc:Nat) (nv:List Int) (NA:Option Addr) (nc:Nat) (cr un:Int) (st:List Int) (SA:Option Addr) (sc:Nat) (pe:List Int) (BA:Option Addr) (bc:Nat) (hlp:Bool) (T0:Int) (prs:List Prm) (QA:Option Addr) (qc:Nat) (w:World) (hps:InS w noF 7 PA ps.length (pcell ps)) (hpn8:ps.length*56≤140737488351232) (hxs:InS w noF 1 XA xs.length (icl xs)) (hxn8:xs.length*8≤140737488351232)
    (hjl:InS w noF 3 JA jl.length (mT jl)) (hjl8:40*jl.length≤140737488355328) (hdd:∀ k,k<jl.length→InS w noF 1 (jl.getD k Jb.zero).A (jl.getD k Jb.zero).after.length (icl (jl.getD k Jb.zero).after)∧(jl.getD k Jb.zero).after.length*8≤140737488351232∧(jl.getD k Jb.zero).after.length≤B) (hnv:InS w noF 1 NA nv.length (icl nv)) (hnv8:8*nv.length≤140737488355328) (hst:InS w noF 1 SA st.length (icl st)) (hst8:8*st.length≤140737488355328)
    (hpe:InS w noF 1 BA pe.length (icl pe)) (hpe8:pe.length*8≤140737488351232) (hprs:InS w noF 5 QA prs.length (fB prs)) (hprs8:40*prs.length≤140737488355328) :
    Calls Tryz.prog 3 [.agg [.int .i64 pl,.slice PA ps.length pc,.slice XA xs.length xc].toArray,.agg [.int .i64 mm,.slice JA jl.length jc,.slice NA nv.length nc,.int .i64 cr,.int .i64 un,.slice SA st.length sc].toArray,.agg [.slice BA pe.length bc,.bool hlp,.int .i64 T0,.slice QA prs.length qc].toArray].toArray w (Ret fun u w'=>u = .bool true∧St w noF [] w'):=by
  have h:=tB pl ps PA pc xs XA xc mm (jl.map Jb.q) JA jc (fun k=>(jl.getD k Jb.zero).A) (fun k=>(jl.getD k Jb.zero).c) nv NA nc cr un st SA sc pe BA bc hlp T0 prs QA qc w hps hpn8 hxs hxn8 hpe hpe8 (by rw [List.length_map,←Eb];exact hjl) hnv (fun k hk=>by rw [List.length_map] at hk;rw [Rh];exact (hdd k hk).1) (by rw [List.length_map];omega) (by omega) (fun k hk=>by rw [List.length_map] at hk;rw [Rh];have:=(hdd k hk).2.1;show (jl.getD k Jb.zero).after.length≤_;omega) hst (by omega) hprs (by omega)
  rw [List.length_map] at h
  exact h
end
section
open Go.ChangeShapes Go.WideShapes Go.ChangeAt Go.Deep Go.Joins
section
variable {H:Type} {enc:TypeId×Value→H} {P:Program}
theorem zJ {f:Func} {s:ChangeSpec} {apart fresh handsOn again:Bool} {W W':World} {args:Array Value} {v:Value} {ds gs:List (DataW H)} {before pa pv:List MemPlace}
    (hW:DataW.Whole enc P f.params.toList s.vars apart W args.toList ds gs before)
    (hres:∀ (b:Nat) (sp:Nat→Bool) (hd:Bool),DataW.TrodAll enc P W' b sp hd f.resultTypes.toList (v.resultList f.resultTypes.size) (s.fn H (ds++gs)).results [])
    (hargs:∀ sp:Nat→Bool,(∀ p ∈ before,sp p.block=true)→DataW.TrodAll enc P W' 0 sp true f.params.toList args.toList (s.fn H (ds++gs)).args pa)
    (hvars:∀ sp:Nat→Bool,(∀ p ∈ before,sp p.block=true)→DataW.TrodVars enc P W' sp s.vars (s.fn H (ds++gs)).vars pv)
    (hps:before=pa++pv) (hk:W.keptBut W' (· ∈ before)) (hfz:∀ a:Addr,a.block<W.heap.size→W'.frozen? a=W.frozen? a)
    (hok:∀ (j:Nat) (t:TypeId) (r:Value),f.resultTypes[j]?=some t→(v.resultList f.resultTypes.size)[j]?=some r→Value.okWide P W' .any 0 t r) :
    s.post enc P f apart fresh handsOn again W args v W':=by
  have hold:∀ p ∈ before,(fun b=>decide (b<W.heap.size)) p.block=true:=fun p hp=>by simpa using hW.lt p hp
  have hlt:=hW.lt
  refine ⟨ds,gs,before,[],pa,pv,hW,hres _ _ _,hargs _ hold,hvars _ hold,World.keptBut_mono (fun p hp=>⟨hp,?_⟩) hk,fun _=>?_⟩
  · rw [hps,List.mem_append] at hp
    exact Or.inr hp
  · obtain ⟨_,_,_,_,_,hz,hn⟩:=hW
    refine ⟨hok,_,_,([]++pa)++pv,⟨[]++pa,pv,trodAll_append (hargs _ (fun _ _=>rfl)) (hres _ _ _),hvars _ (fun _ _=>rfl),rfl,?_,?_⟩,?_⟩
    · intro b off hp
      have hb:MemPlace.cell b off ∈ before:=by rw [hps];simpa using hp
      rw [hfz _ (hlt _ hb)]
      exact hz b off hb
    · intro ha
      have:=hn ha
      rw [hps] at this
      simpa using this
    · intro p hp _
      rw [hps]
      simpa using hp
end
theorem St.same {w w':World} {R:List Mem} (S:St w noF R w') {k:Nat} (hk:k<w.heap.size):w'.heap[k]?=w.heap[k]?:=S.ro k hk (fun h=>h)
theorem St.kept {w w':World} {R:List Mem} (S:St w noF R w') (may:MemPlace→Prop):w.keptBut w' may:=by
  refine ⟨S.os,S.out,fun i hi=>?_⟩
  rw [S.same hi]
  cases w.heap[i]? with
  | none=>trivial
  | some o=>
    cases o with
    | cells c t fr=>exact ⟨rfl,rfl,rfl,fun _ _=>rfl⟩
    | map es c=>exact .inr ⟨rfl,rfl⟩
    | _=>rfl
theorem St.frozen {w w':World} {R:List Mem} (S:St w noF R w') (a:Addr) (ha:a.block<w.heap.size):w'.frozen? a=w.frozen? a:=World.frozen?_of_block (S.same ha)
theorem St.sameAt {w w':World} {R:List Mem} (S:St w noF R w') (p:MemPlace) (hp:p.block<w.heap.size):w.sameAt w' p:=by
  cases p with
  | cell b off=>exact World.cell?_of_block (S.same hp)
  | map b=>exact S.same hp
theorem Li:ownKnob Tryz.prog.godebug=none:=by kernel_rfl
theorem pC:laidOutB Tryz.prog=true:=by kernel_rfl
theorem Lj {w:World} {a:Addr} {v:Value} (h:w.cell? a=some v):a.spot=none∧a.block<w.heap.size:=by
  have hc:=h
  unfold World.cell? at hc
  split at hc
  · rename_i c t fr hb
    split at hc
    · cases hc
    · rename_i hs
      refine ⟨?_,dT hb⟩
      cases hq:a.spot with
      | none=>rfl
      | some x=>simp [hq] at hs
  · cases hc
theorem qH {w:World} {α:Type} {sz len:Nat} {a:Addr} (hsz:0<sz) (cell:α→Nat→Value) (zero:α) (Q:α→Prop) (h:∀ i,i<len→∃ g:α,(∀ j,j<sz→w.cell? ((a.add (i*sz)).add j)=some (cell g j))∧Q g) :
    ∃ l:List α,l.length=len∧InS w noF sz (some a) len (fun k j=>cell (l.getD k zero) j)∧∀ k,k<len→Q (l.getD k zero):=by
  classical
  obtain ⟨ab,ao,asp⟩:=a
  refine ⟨(List.range len).map fun i=>if h':i<len then Classical.choose (h i h') else zero,by simp,fun h0=>?_,fun k hk=>?_⟩
  · obtain ⟨g0,hg0,_⟩:=h 0 h0
    have h00:=hg0 0 hsz
    rw [show ((⟨ab,ao,asp⟩:Addr).add (0*sz)).add 0=⟨ab,ao,asp⟩ by simp [Addr.add]] at h00
    obtain ⟨hsp,hlt⟩:=Lj h00
    dsimp only at hsp hlt
    subst hsp
    refine ⟨ab,ao,rfl,hlt,fun h=>h,fun k j hk hj=>?_⟩
    have:=(Classical.choose_spec (h k hk)).1 j hj
    simp only [List.getD_eq_getElem?_getD,List.getElem?_map,List.getElem?_range hk,Option.map_some,Option.getD_some,dif_pos hk]
    have e:((⟨ab,ao,none⟩:Addr).add (k*sz)).add j=⟨ab,ao+k*sz+j,none⟩:=by rw [iI,iI]
    exact (congrArg w.cell? e).symm.trans this
  · simp only [List.getD_eq_getElem?_getD,List.getElem?_map,List.getElem?_range hk,Option.map_some,Option.getD_some,dif_pos hk]
    exact (Classical.choose_spec (h k hk)).2
theorem Ll {H:Type} (d:DataW H):1≤Rows.uptoBulk d:=by
  cases d with
  | lit v=>cases v <;> simp only [Rows.uptoBulk] <;> omega
  | _=>simp only [Rows.uptoBulk] <;> omega
theorem Lm {H:Type}:∀ (ds:List (DataW H)),ds.length≤Rows.uptoBulkAll ds:=by
  intro ds
  induction ds with
  | nil=>exact Nat.zero_le _
  | cons d ds ih=>have:=Ll d;simp only [Rows.uptoBulkAll,List.length_cons];omega
theorem zK {H:Type} {d:DataW H}:∀ {ds:List (DataW H)},d ∈ ds→Rows.uptoBulk d≤Rows.uptoBulkAll ds:=by
  intro ds
  induction ds with
  | nil=>intro h;cases h
  | cons e ds ih=>
    intro h
    simp only [Rows.uptoBulkAll]
    rcases List.mem_cons.1 h with rfl|h
    · omega
    · have:=ih h;omega
theorem Pg {H:Type} {P:Program} {e:TypeId} {d:DataW H} {n:Nat}:∀ {ds:List (DataW H)},d ∈ ds→n ∈ d.weights P e→n ∈ DataW.weightsAll P e ds:=by
  intro ds
  induction ds with
  | nil=>intro h;cases h
  | cons f ds ih=>
    intro h hn
    simp only [DataW.weightsAll,List.mem_append]
    rcases List.mem_cons.1 h with rfl|h
    · exact .inl hn
    · exact .inr (ih h hn)
def Fits {H:Type} (P:Program) (t:TypeId) (B:Nat) (d:DataW H):Prop:=(B≤1048576∨∀ n ∈ d.weights P t,n≤reachBytes)∧Rows.uptoBulk d≤B
theorem kV {H:Type} {P:Program} {t e B b:Nat} {elems spare:List (DataW H)} (hu:P.underlying t=some (.slice e)) (hb:P.bytesOf e=b) (hb':b≤1000) (h:Fits P t B (.slice elems spare)):elems.length*b≤140737488351232∧elems.length≤B∧∀ d ∈ elems,Fits P e B d:=by
  obtain ⟨h1,h2⟩:=h
  simp only [Rows.uptoBulk] at h2
  have h4:=Lm elems
  have h5:∀ d ∈ elems,Rows.uptoBulk d≤B:=fun d hd=>by have:=zK hd;omega
  rcases h1 with h1|h1
  · refine ⟨?_,by omega,fun d hd=>⟨.inl h1,h5 d hd⟩⟩
    have:elems.length*b≤1048576*1000:=Nat.mul_le_mul (by omega) hb'
    omega
  · simp only [DataW.weights,hu,List.mem_cons,List.mem_append] at h1
    have h3:=h1 _ (.inl rfl)
    rw [hb,Nat.add_mul] at h3
    unfold reachBytes at h3
    exact ⟨by omega,by omega,fun d hd=>⟨.inr fun n hn=>h1 n (.inr (.inl (Pg hd hn))),h5 d hd⟩⟩
theorem fA {H:Type} {P:Program} {t B i u:Nat} {fs:Array Field} {parts:List (DataW H)} {d:DataW H} (hu:P.underlying t=some (.struct fs)) (ht:(fs.toList.map (·.type))[i]?=some u) (hd:parts[i]?=some d) (h:Fits P t B (.agg parts)):Fits P u B d:=by
  obtain ⟨h1,h2⟩:=h
  simp only [Rows.uptoBulk] at h2
  have:=zK (List.mem_of_getElem? hd)
  refine ⟨h1.imp (fun h=>h) fun h1=>?_,by omega⟩
  simp only [DataW.weights,hu] at h1
  exact fun n hn=>h1 n (DataW.weights_mem_each ht hd n hn)
theorem Ph {p:Nat→Prop} (h0:p 0):∀ j,j<1→p j:=by
  intro j hj
  match j,hj with
  | 0,_=>exact h0
theorem Pi {p:Nat→Prop} (h0:p 0) (h1:p 1) (h2:p 2):∀ j,j<3→p j:=by
  intro j hj
  match j,hj with
  | 0,_=>exact h0
  | 1,_=>exact h1
  | 2,_=>exact h2
theorem Pj {p:Nat→Prop} (h0:p 0) (h1:p 1) (h2:p 2) (h3:p 3) (h4:p 4):∀ j,j<5→p j:=by
  intro j hj
  match j,hj with
  | 0,_=>exact h0
  | 1,_=>exact h1
  | 2,_=>exact h2
  | 3,_=>exact h3
  | 4,_=>exact h4
theorem Pk {p:Nat→Prop} (h0:p 0) (h1:p 1) (h2:p 2) (h3:p 3) (h4:p 4) (h5:p 5) (h6:p 6):∀ j,j<7→p j:=by
  intro j hj
  match j,hj with
  | 0,_=>exact h0
  | 1,_=>exact h1
  | 2,_=>exact h2
  | 3,_=>exact h3
  | 4,_=>exact h4
  | 5,_=>exact h5
  | 6,_=>exact h6
set_option maxRecDepth 100000 in
theorem gO {H:Type} {enc:TypeId×Value→H} {w:World} {fuel:Nat} {spare:Nat→Bool} {held:Bool} {cs:List Value} {x:DataW H×List MemPlace} (h:DataW.trod enc Tryz.prog w 0 spare held fuel 3 cs=some x):∃ n0:Int,cs=[.int .i64 n0]:=by
  obtain ⟨n,e,_,_⟩:=DataW.trod_int Tryz.underlying3 h
  exact ⟨n,by simpa using e⟩
theorem Da:Tryz.prog.cellsOf 109=7:=by kernel_rfl
theorem gP:Tryz.prog.cellsOf 3=1:=by kernel_rfl
set_option maxRecDepth 100000 in
theorem Pm {H:Type} {enc:TypeId×Value→H} {w:World} {fuel:Nat} {spare:Nat→Bool} {held:Bool} {cs:List Value} {x:DataW H×List MemPlace} (h:DataW.trod enc Tryz.prog w 0 spare held fuel 109 cs=some x):∃ n0:Int,∃ n1:Int,∃ n2:Int,∃ n3:Int,∃ n4:Int,∃ n5:Int,∃ n6:Int,cs=[.int .i64 n0,.int .i64 n1,.int .i64 n2,.int .i64 n3,.int .i64 n4,.int .i64 n5,.int .i64 n6]:=by
  obtain ⟨xs,n,_,hx,hl,hlen,hf⟩:=DataW.trod_struct Tryz.underlying109 h
  rw [Da] at hl
  match cs,hl with
  | [q0,q1,q2,q3,q4,q5,q6],_=>
    match xs,hlen with
    | [y0,y1,y2,y3,y4,y5,y6],_=>
      have f0:DataW.trod enc Tryz.prog w 0 spare held n 3 [q0]=some y0:=by have:=hf 0 _ rfl;simpa [gP] using this
      obtain ⟨p0n0,e0⟩:=gO f0
      cases e0
      have f1:DataW.trod enc Tryz.prog w 0 spare held n 3 [q1]=some y1:=by have:=hf 1 _ rfl;simpa [gP] using this
      obtain ⟨p1n0,e1⟩:=gO f1
      cases e1
      have f2:DataW.trod enc Tryz.prog w 0 spare held n 3 [q2]=some y2:=by have:=hf 2 _ rfl;simpa [gP] using this
      obtain ⟨p2n0,e2⟩:=gO f2
      cases e2
      have f3:DataW.trod enc Tryz.prog w 0 spare held n 3 [q3]=some y3:=by have:=hf 3 _ rfl;simpa [gP] using this
      obtain ⟨p3n0,e3⟩:=gO f3
      cases e3
      have f4:DataW.trod enc Tryz.prog w 0 spare held n 3 [q4]=some y4:=by have:=hf 4 _ rfl;simpa [gP] using this
      obtain ⟨p4n0,e4⟩:=gO f4
      cases e4
      have f5:DataW.trod enc Tryz.prog w 0 spare held n 3 [q5]=some y5:=by have:=hf 5 _ rfl;simpa [gP] using this
      obtain ⟨p5n0,e5⟩:=gO f5
      cases e5
      have f6:DataW.trod enc Tryz.prog w 0 spare held n 3 [q6]=some y6:=by have:=hf 6 _ rfl;simpa [gP] using this
      obtain ⟨p6n0,e6⟩:=gO f6
      cases e6
      exact ⟨p0n0,p1n0,p2n0,p3n0,p4n0,p5n0,p6n0,rfl⟩
theorem Pn:Tryz.prog.bytesOf 109=56:=by kernel_rfl
set_option maxRecDepth 100000 in
theorem Su {H:Type} {enc:TypeId×Value→H} {w:World} {fuel:Nat} {spare:Nat→Bool} {held:Bool} {cs:List Value} {x:DataW H×List MemPlace} (h:DataW.trod enc Tryz.prog w 0 spare held fuel 22 cs=some x) {B:Nat} (hz:Fits Tryz.prog 22 B x.1):∃ l0:List Psg,∃ A0:Option Addr,∃ c0:Nat,cs=[.slice A0 l0.length c0]∧InS w noF 7 A0 l0.length (pcell l0)∧l0.length*56≤140737488351232∧l0.length≤B:=by
  rcases Go.Deep.open_slice Tryz.underlying22 h with ⟨hcs,_⟩|⟨a,len',cap',m,n,D,Pl,hcs,_,hlc,hcm,hm,hx,hi⟩
  · subst hcs
    exact ⟨[],none,0,rfl,InS.nil,by decide,Nat.zero_le _⟩
  · subst hcs
    rw [hx] at hz
    obtain ⟨hz1,hz2,hz3⟩:=kV Tryz.underlying22 Pn (by decide) hz
    rw [List.length_map,List.length_range] at hz1 hz2
    have hmle:len'≤m:=by rw [hm];split <;> omega
    obtain ⟨l,hl,hin,hq⟩:=qH (w:=w) (a:=a) (len:=len') (sz:=7) (by decide) Psg.cell Psg.zero (fun _=>True) (fun i hil=>by
      obtain ⟨cs',hc,ht⟩:=hi i (by omega)
      rw [Da] at hc
      obtain ⟨_,_,hat⟩:=World.cells?_some hc
      obtain ⟨en0,en1,en2,en3,en4,en5,en6,rfl⟩:=Pm ht
      exact ⟨⟨en0,en1,en2,en3,en4,en5,en6⟩,fun j hj=>by rw [hat j hj];revert j;exact Pk (rfl) (rfl) (rfl) (rfl) (rfl) (rfl) (rfl),trivial⟩)
    subst hl
    exact ⟨l,some a,cap',rfl,hin,hz1,hz2⟩
theorem Un:Tryz.prog.bytesOf 3=8:=by kernel_rfl
set_option maxRecDepth 100000 in
theorem tC {H:Type} {enc:TypeId×Value→H} {w:World} {fuel:Nat} {spare:Nat→Bool} {held:Bool} {cs:List Value} {x:DataW H×List MemPlace} (h:DataW.trod enc Tryz.prog w 0 spare held fuel 23 cs=some x) {B:Nat} (hz:Fits Tryz.prog 23 B x.1):∃ l0:List Int,∃ A0:Option Addr,∃ c0:Nat,cs=[.slice A0 l0.length c0]∧InS w noF 1 A0 l0.length (icl l0)∧l0.length*8≤140737488351232∧l0.length≤B:=by
  rcases Go.Deep.open_slice Tryz.underlying23 h with ⟨hcs,_⟩|⟨a,len',cap',m,n,D,Pl,hcs,_,hlc,hcm,hm,hx,hi⟩
  · subst hcs
    exact ⟨[],none,0,rfl,InS.nil,by decide,Nat.zero_le _⟩
  · subst hcs
    rw [hx] at hz
    obtain ⟨hz1,hz2,hz3⟩:=kV Tryz.underlying23 Un (by decide) hz
    rw [List.length_map,List.length_range] at hz1 hz2
    have hmle:len'≤m:=by rw [hm];split <;> omega
    obtain ⟨l,hl,hin,hq⟩:=qH (w:=w) (a:=a) (len:=len') (sz:=1) (by decide) Qb 0 (fun _=>True) (fun i hil=>by
      obtain ⟨cs',hc,ht⟩:=hi i (by omega)
      rw [gP] at hc
      obtain ⟨_,_,hat⟩:=World.cells?_some hc
      obtain ⟨en0,rfl⟩:=gO ht
      exact ⟨en0,fun j hj=>by rw [hat j hj];revert j;exact Ph (rfl),trivial⟩)
    subst hl
    exact ⟨l,some a,cap',rfl,hin,hz1,hz2⟩
theorem Sv:Tryz.prog.cellsOf 25=3:=by kernel_rfl
theorem Sw:Tryz.prog.cellsOf 22=1:=by kernel_rfl
theorem tD:Tryz.prog.cellsOf 23=1:=by kernel_rfl
set_option maxRecDepth 100000 in
theorem Sx {H:Type} {enc:TypeId×Value→H} {w:World} {fuel:Nat} {spare:Nat→Bool} {held:Bool} {cs:List Value} {x:DataW H×List MemPlace} (h:DataW.trod enc Tryz.prog w 0 spare held fuel 25 cs=some x) {B:Nat} (hz:Fits Tryz.prog 25 B x.1):∃ n0:Int,∃ l1:List Psg,∃ A1:Option Addr,∃ c1:Nat,∃ l2:List Int,∃ A2:Option Addr,∃ c2:Nat,cs=[.int .i64 n0,.slice A1 l1.length c1,.slice A2 l2.length c2]∧InS w noF 7 A1 l1.length (pcell l1)∧l1.length*56≤140737488351232∧l1.length≤B∧InS w noF 1 A2 l2.length (icl l2)∧l2.length*8≤140737488351232∧l2.length≤B:=by
  obtain ⟨xs,n,_,hx,hl,hlen,hf⟩:=DataW.trod_struct Tryz.underlying25 h
  rw [Sv] at hl
  match cs,hl with
  | [q0,q1,q2],_=>
    match xs,hlen with
    | [y0,y1,y2],_=>
      have f0:DataW.trod enc Tryz.prog w 0 spare held n 3 [q0]=some y0:=by have:=hf 0 _ rfl;simpa [gP] using this
      obtain ⟨p0n0,e0⟩:=gO f0
      cases e0
      have f1:DataW.trod enc Tryz.prog w 0 spare held n 22 [q1]=some y1:=by have:=hf 1 _ rfl;simpa [Sw] using this
      have g1:=fA (i:=1) (u:=22) (d:=y1.1) Tryz.underlying25 G G (by rw [hx] at hz;exact hz)
      obtain ⟨p1l0,p1A0,p1c0,e1,p1f0,p1f1,p1f2⟩:=Su f1 g1
      cases e1
      have f2:DataW.trod enc Tryz.prog w 0 spare held n 23 [q2]=some y2:=by have:=hf 2 _ rfl;simpa [tD] using this
      have g2:=fA (i:=2) (u:=23) (d:=y2.1) Tryz.underlying25 G G (by rw [hx] at hz;exact hz)
      obtain ⟨p2l0,p2A0,p2c0,e2,p2f0,p2f1,p2f2⟩:=tC f2 g2
      cases e2
      exact ⟨p0n0,p1l0,p1A0,p1c0,p2l0,p2A0,p2c0,rfl,p1f0,p1f1,p1f2,p2f0,p2f1,p2f2⟩
theorem Db:Tryz.prog.cellsOf 106=3:=by kernel_rfl
set_option maxRecDepth 100000 in
theorem Po {H:Type} {enc:TypeId×Value→H} {w:World} {fuel:Nat} {spare:Nat→Bool} {held:Bool} {cs:List Value} {x:DataW H×List MemPlace} (h:DataW.trod enc Tryz.prog w 0 spare held fuel 106 cs=some x) {B:Nat} (hz:Fits Tryz.prog 106 B x.1):∃ n0:Int,∃ n1:Int,∃ l2:List Int,∃ A2:Option Addr,∃ c2:Nat,cs=[.int .i64 n0,.int .i64 n1,.slice A2 l2.length c2]∧InS w noF 1 A2 l2.length (icl l2)∧l2.length*8≤140737488351232∧l2.length≤B:=by
  obtain ⟨xs,n,_,hx,hl,hlen,hf⟩:=DataW.trod_struct Tryz.underlying106 h
  rw [Db] at hl
  match cs,hl with
  | [q0,q1,q2],_=>
    match xs,hlen with
    | [y0,y1,y2],_=>
      have f0:DataW.trod enc Tryz.prog w 0 spare held n 3 [q0]=some y0:=by have:=hf 0 _ rfl;simpa [gP] using this
      obtain ⟨p0n0,e0⟩:=gO f0
      cases e0
      have f1:DataW.trod enc Tryz.prog w 0 spare held n 3 [q1]=some y1:=by have:=hf 1 _ rfl;simpa [gP] using this
      obtain ⟨p1n0,e1⟩:=gO f1
      cases e1
      have f2:DataW.trod enc Tryz.prog w 0 spare held n 23 [q2]=some y2:=by have:=hf 2 _ rfl;simpa [tD] using this
      have g2:=fA (i:=2) (u:=23) (d:=y2.1) Tryz.underlying106 G G (by rw [hx] at hz;exact hz)
      obtain ⟨p2l0,p2A0,p2c0,e2,p2f0,p2f1,p2f2⟩:=tC f2 g2
      cases e2
      exact ⟨p0n0,p1n0,p2l0,p2A0,p2c0,rfl,p2f0,p2f1,p2f2⟩
theorem Pp:Tryz.prog.bytesOf 106=40:=by kernel_rfl
set_option maxRecDepth 100000 in
theorem Sy {H:Type} {enc:TypeId×Value→H} {w:World} {fuel:Nat} {spare:Nat→Bool} {held:Bool} {cs:List Value} {x:DataW H×List MemPlace} (h:DataW.trod enc Tryz.prog w 0 spare held fuel 26 cs=some x) {B:Nat} (hz:Fits Tryz.prog 26 B x.1):∃ l0:List Jb,∃ A0:Option Addr,∃ c0:Nat,cs=[.slice A0 l0.length c0]∧InS w noF 3 A0 l0.length (mT l0)∧l0.length*40≤140737488351232∧l0.length≤B∧(∀ k,k<l0.length→InS w noF 1 (l0.getD k Jb.zero).A (l0.getD k Jb.zero).after.length (icl (l0.getD k Jb.zero).after)∧(l0.getD k Jb.zero).after.length*8≤140737488351232∧(l0.getD k Jb.zero).after.length≤B):=by
  rcases Go.Deep.open_slice Tryz.underlying26 h with ⟨hcs,_⟩|⟨a,len',cap',m,n,D,Pl,hcs,_,hlc,hcm,hm,hx,hi⟩
  · subst hcs
    exact ⟨[],none,0,rfl,InS.nil,by decide,Nat.zero_le _,fun k hk=>absurd hk (Nat.not_lt_zero _)⟩
  · subst hcs
    rw [hx] at hz
    obtain ⟨hz1,hz2,hz3⟩:=kV Tryz.underlying26 Pp (by decide) hz
    rw [List.length_map,List.length_range] at hz1 hz2
    have hmle:len'≤m:=by rw [hm];split <;> omega
    obtain ⟨l,hl,hin,hq⟩:=qH (w:=w) (a:=a) (len:=len') (sz:=3) (by decide) Jb.cell Jb.zero (fun g=>InS w noF 1 g.A g.after.length (icl g.after)∧g.after.length*8≤140737488351232∧g.after.length≤B) (fun i hil=>by
      obtain ⟨cs',hc,ht⟩:=hi i (by omega)
      rw [Db] at hc
      obtain ⟨_,_,hat⟩:=World.cells?_some hc
      obtain ⟨en0,en1,el2,eA2,ec2,rfl,ef0,ef1,ef2⟩:=Po ht (hz3 _ (List.mem_map.2 ⟨i,List.mem_range.2 hil,rfl⟩))
      exact ⟨⟨en0,en1,el2,eA2,ec2⟩,fun j hj=>by rw [hat j hj];revert j;exact Pi (rfl) (rfl) (rfl),⟨ef0,ef1,ef2⟩⟩)
    subst hl
    exact ⟨l,some a,cap',rfl,hin,hz1,hz2,hq⟩
theorem Ln:Tryz.prog.cellsOf 28=5:=by kernel_rfl
theorem Ta:Tryz.prog.cellsOf 26=1:=by kernel_rfl
set_option maxRecDepth 100000 in
theorem Tb {H:Type} {enc:TypeId×Value→H} {w:World} {fuel:Nat} {spare:Nat→Bool} {held:Bool} {cs:List Value} {x:DataW H×List MemPlace} (h:DataW.trod enc Tryz.prog w 0 spare held fuel 28 cs=some x) {B:Nat} (hz:Fits Tryz.prog 28 B x.1):∃ n0:Int,∃ l1:List Jb,∃ A1:Option Addr,∃ c1:Nat,∃ l2:List Int,∃ A2:Option Addr,∃ c2:Nat,∃ n3:Int,∃ n4:Int,cs=[.int .i64 n0,.slice A1 l1.length c1,.slice A2 l2.length c2,.int .i64 n3,.int .i64 n4]∧InS w noF 3 A1 l1.length (mT l1)∧l1.length*40≤140737488351232∧l1.length≤B∧(∀ k,k<l1.length→InS w noF 1 (l1.getD k Jb.zero).A (l1.getD k Jb.zero).after.length (icl (l1.getD k Jb.zero).after)∧(l1.getD k Jb.zero).after.length*8≤140737488351232∧(l1.getD k Jb.zero).after.length≤B)∧InS w noF 1 A2 l2.length (icl l2)∧l2.length*8≤140737488351232∧l2.length≤B:=by
  obtain ⟨xs,n,_,hx,hl,hlen,hf⟩:=DataW.trod_struct Tryz.underlying28 h
  rw [Ln] at hl
  match cs,hl with
  | [q0,q1,q2,q3,q4],_=>
    match xs,hlen with
    | [y0,y1,y2,y3,y4],_=>
      have f0:DataW.trod enc Tryz.prog w 0 spare held n 3 [q0]=some y0:=by have:=hf 0 _ rfl;simpa [gP] using this
      obtain ⟨p0n0,e0⟩:=gO f0
      cases e0
      have f1:DataW.trod enc Tryz.prog w 0 spare held n 26 [q1]=some y1:=by have:=hf 1 _ rfl;simpa [Ta] using this
      have g1:=fA (i:=1) (u:=26) (d:=y1.1) Tryz.underlying28 G G (by rw [hx] at hz;exact hz)
      obtain ⟨p1l0,p1A0,p1c0,e1,p1f0,p1f1,p1f2,p1f3⟩:=Sy f1 g1
      cases e1
      have f2:DataW.trod enc Tryz.prog w 0 spare held n 23 [q2]=some y2:=by have:=hf 2 _ rfl;simpa [tD] using this
      have g2:=fA (i:=2) (u:=23) (d:=y2.1) Tryz.underlying28 G G (by rw [hx] at hz;exact hz)
      obtain ⟨p2l0,p2A0,p2c0,e2,p2f0,p2f1,p2f2⟩:=tC f2 g2
      cases e2
      have f3:DataW.trod enc Tryz.prog w 0 spare held n 3 [q3]=some y3:=by have:=hf 3 _ rfl;simpa [gP] using this
      obtain ⟨p3n0,e3⟩:=gO f3
      cases e3
      have f4:DataW.trod enc Tryz.prog w 0 spare held n 3 [q4]=some y4:=by have:=hf 4 _ rfl;simpa [gP] using this
      obtain ⟨p4n0,e4⟩:=gO f4
      cases e4
      exact ⟨p0n0,p1l0,p1A0,p1c0,p2l0,p2A0,p2c0,p3n0,p4n0,rfl,p1f0,p1f1,p1f2,p1f3,p2f0,p2f1,p2f2⟩
theorem Tc:Tryz.prog.cellsOf 30=6:=by kernel_rfl
set_option maxRecDepth 100000 in
theorem Td {H:Type} {enc:TypeId×Value→H} {w:World} {fuel:Nat} {spare:Nat→Bool} {held:Bool} {cs:List Value} {x:DataW H×List MemPlace} (h:DataW.trod enc Tryz.prog w 0 spare held fuel 30 cs=some x) {B:Nat} (hz:Fits Tryz.prog 30 B x.1):∃ n0:Int,∃ l1:List Jb,∃ A1:Option Addr,∃ c1:Nat,∃ l2:List Int,∃ A2:Option Addr,∃ c2:Nat,∃ n3:Int,∃ n4:Int,∃ l5:List Int,∃ A5:Option Addr,∃ c5:Nat,cs=[.int .i64 n0,.slice A1 l1.length c1,.slice A2 l2.length c2,.int .i64 n3,.int .i64 n4,.slice A5 l5.length c5]∧InS w noF 3 A1 l1.length (mT l1)∧l1.length*40≤140737488351232∧l1.length≤B∧(∀ k,k<l1.length→InS w noF 1 (l1.getD k Jb.zero).A (l1.getD k Jb.zero).after.length (icl (l1.getD k Jb.zero).after)∧(l1.getD k Jb.zero).after.length*8≤140737488351232∧(l1.getD k Jb.zero).after.length≤B)∧InS w noF 1 A2 l2.length (icl l2)∧l2.length*8≤140737488351232∧l2.length≤B∧InS w noF 1 A5 l5.length (icl l5)∧l5.length*8≤140737488351232∧l5.length≤B:=by
  obtain ⟨xs,n,_,hx,hl,hlen,hf⟩:=DataW.trod_struct Tryz.underlying30 h
  rw [Tc] at hl
  match cs,hl with
  | [q0,q1,q2,q3,q4,q5],_=>
    match xs,hlen with
    | [y0,y1],_=>
      have f0:DataW.trod enc Tryz.prog w 0 spare held n 28 [q0,q1,q2,q3,q4]=some y0:=by have:=hf 0 _ rfl;simpa [Ln] using this
      have g0:=fA (i:=0) (u:=28) (d:=y0.1) Tryz.underlying30 G G (by rw [hx] at hz;exact hz)
      obtain ⟨p0n0,p0l1,p0A1,p0c1,p0l2,p0A2,p0c2,p0n3,p0n4,e0,p0f0,p0f1,p0f2,p0f3,p0f4,p0f5,p0f6⟩:=Tb f0 g0
      cases e0
      have f1:DataW.trod enc Tryz.prog w 0 spare held n 23 [q5]=some y1:=by have:=hf 1 _ rfl;simpa [tD] using this
      have g1:=fA (i:=1) (u:=23) (d:=y1.1) Tryz.underlying30 G G (by rw [hx] at hz;exact hz)
      obtain ⟨p1l0,p1A0,p1c0,e1,p1f0,p1f1,p1f2⟩:=tC f1 g1
      cases e1
      exact ⟨p0n0,p0l1,p0A1,p0c1,p0l2,p0A2,p0c2,p0n3,p0n4,p1l0,p1A0,p1c0,rfl,p0f0,p0f1,p0f2,p0f3,p0f4,p0f5,p0f6,p1f0,p1f1,p1f2⟩
set_option maxRecDepth 100000 in
theorem Py {H:Type} {enc:TypeId×Value→H} {w:World} {fuel:Nat} {spare:Nat→Bool} {held:Bool} {cs:List Value} {x:DataW H×List MemPlace} (h:DataW.trod enc Tryz.prog w 0 spare held fuel 4 cs=some x):∃ b0:Bool,cs=[.bool b0]:=by
  obtain ⟨b,e,_⟩:=DataW.trod_bool Tryz.underlying4 h
  exact ⟨b,by simpa using e⟩
theorem Lo:Tryz.prog.cellsOf 98=5:=by kernel_rfl
theorem Pz:Tryz.prog.cellsOf 4=1:=by kernel_rfl
set_option maxRecDepth 100000 in
theorem Te {H:Type} {enc:TypeId×Value→H} {w:World} {fuel:Nat} {spare:Nat→Bool} {held:Bool} {cs:List Value} {x:DataW H×List MemPlace} (h:DataW.trod enc Tryz.prog w 0 spare held fuel 98 cs=some x):∃ n0:Int,∃ n1:Int,∃ n2:Int,∃ n3:Int,∃ b4:Bool,cs=[.int .i64 n0,.int .i64 n1,.int .i64 n2,.int .i64 n3,.bool b4]:=by
  obtain ⟨xs,n,_,hx,hl,hlen,hf⟩:=DataW.trod_struct Tryz.underlying98 h
  rw [Lo] at hl
  match cs,hl with
  | [q0,q1,q2,q3,q4],_=>
    match xs,hlen with
    | [y0,y1,y2,y3,y4],_=>
      have f0:DataW.trod enc Tryz.prog w 0 spare held n 3 [q0]=some y0:=by have:=hf 0 _ rfl;simpa [gP] using this
      obtain ⟨p0n0,e0⟩:=gO f0
      cases e0
      have f1:DataW.trod enc Tryz.prog w 0 spare held n 3 [q1]=some y1:=by have:=hf 1 _ rfl;simpa [gP] using this
      obtain ⟨p1n0,e1⟩:=gO f1
      cases e1
      have f2:DataW.trod enc Tryz.prog w 0 spare held n 3 [q2]=some y2:=by have:=hf 2 _ rfl;simpa [gP] using this
      obtain ⟨p2n0,e2⟩:=gO f2
      cases e2
      have f3:DataW.trod enc Tryz.prog w 0 spare held n 3 [q3]=some y3:=by have:=hf 3 _ rfl;simpa [gP] using this
      obtain ⟨p3n0,e3⟩:=gO f3
      cases e3
      have f4:DataW.trod enc Tryz.prog w 0 spare held n 4 [q4]=some y4:=by have:=hf 4 _ rfl;simpa [Pz] using this
      obtain ⟨p4b0,e4⟩:=Py f4
      cases e4
      exact ⟨p0n0,p1n0,p2n0,p3n0,p4b0,rfl⟩
theorem Tf:Tryz.prog.bytesOf 98=40:=by kernel_rfl
set_option maxRecDepth 100000 in
theorem Tg {H:Type} {enc:TypeId×Value→H} {w:World} {fuel:Nat} {spare:Nat→Bool} {held:Bool} {cs:List Value} {x:DataW H×List MemPlace} (h:DataW.trod enc Tryz.prog w 0 spare held fuel 31 cs=some x) {B:Nat} (hz:Fits Tryz.prog 31 B x.1):∃ l0:List Prm,∃ A0:Option Addr,∃ c0:Nat,cs=[.slice A0 l0.length c0]∧InS w noF 5 A0 l0.length (fB l0)∧l0.length*40≤140737488351232∧l0.length≤B:=by
  rcases Go.Deep.open_slice Tryz.underlying31 h with ⟨hcs,_⟩|⟨a,len',cap',m,n,D,Pl,hcs,_,hlc,hcm,hm,hx,hi⟩
  · subst hcs
    exact ⟨[],none,0,rfl,InS.nil,by decide,Nat.zero_le _⟩
  · subst hcs
    rw [hx] at hz
    obtain ⟨hz1,hz2,hz3⟩:=kV Tryz.underlying31 Tf (by decide) hz
    rw [List.length_map,List.length_range] at hz1 hz2
    have hmle:len'≤m:=by rw [hm];split <;> omega
    obtain ⟨l,hl,hin,hq⟩:=qH (w:=w) (a:=a) (len:=len') (sz:=5) (by decide) Prm.cell Prm.zero (fun _=>True) (fun i hil=>by
      obtain ⟨cs',hc,ht⟩:=hi i (by omega)
      rw [Lo] at hc
      obtain ⟨_,_,hat⟩:=World.cells?_some hc
      obtain ⟨en0,en1,en2,en3,eb4,rfl⟩:=Te ht
      exact ⟨⟨en0,en1,en2,en3,eb4⟩,fun j hj=>by rw [hat j hj];revert j;exact Pj (rfl) (rfl) (rfl) (rfl) (rfl),trivial⟩)
    subst hl
    exact ⟨l,some a,cap',rfl,hin,hz1,hz2⟩
theorem Th:Tryz.prog.cellsOf 33=4:=by kernel_rfl
theorem Ti:Tryz.prog.cellsOf 31=1:=by kernel_rfl
set_option maxRecDepth 100000 in
theorem Tj {H:Type} {enc:TypeId×Value→H} {w:World} {fuel:Nat} {spare:Nat→Bool} {held:Bool} {cs:List Value} {x:DataW H×List MemPlace} (h:DataW.trod enc Tryz.prog w 0 spare held fuel 33 cs=some x) {B:Nat} (hz:Fits Tryz.prog 33 B x.1):∃ l0:List Int,∃ A0:Option Addr,∃ c0:Nat,∃ b1:Bool,∃ n2:Int,∃ l3:List Prm,∃ A3:Option Addr,∃ c3:Nat,cs=[.slice A0 l0.length c0,.bool b1,.int .i64 n2,.slice A3 l3.length c3]∧InS w noF 1 A0 l0.length (icl l0)∧l0.length*8≤140737488351232∧l0.length≤B∧InS w noF 5 A3 l3.length (fB l3)∧l3.length*40≤140737488351232∧l3.length≤B:=by
  obtain ⟨xs,n,_,hx,hl,hlen,hf⟩:=DataW.trod_struct Tryz.underlying33 h
  rw [Th] at hl
  match cs,hl with
  | [q0,q1,q2,q3],_=>
    match xs,hlen with
    | [y0,y1,y2,y3],_=>
      have f0:DataW.trod enc Tryz.prog w 0 spare held n 23 [q0]=some y0:=by have:=hf 0 _ rfl;simpa [tD] using this
      have g0:=fA (i:=0) (u:=23) (d:=y0.1) Tryz.underlying33 G G (by rw [hx] at hz;exact hz)
      obtain ⟨p0l0,p0A0,p0c0,e0,p0f0,p0f1,p0f2⟩:=tC f0 g0
      cases e0
      have f1:DataW.trod enc Tryz.prog w 0 spare held n 4 [q1]=some y1:=by have:=hf 1 _ rfl;simpa [Pz] using this
      obtain ⟨p1b0,e1⟩:=Py f1
      cases e1
      have f2:DataW.trod enc Tryz.prog w 0 spare held n 3 [q2]=some y2:=by have:=hf 2 _ rfl;simpa [gP] using this
      obtain ⟨p2n0,e2⟩:=gO f2
      cases e2
      have f3:DataW.trod enc Tryz.prog w 0 spare held n 31 [q3]=some y3:=by have:=hf 3 _ rfl;simpa [Ti] using this
      have g3:=fA (i:=3) (u:=31) (d:=y3.1) Tryz.underlying33 G G (by rw [hx] at hz;exact hz)
      obtain ⟨p3l0,p3A0,p3c0,e3,p3f0,p3f1,p3f2⟩:=Tg f3 g3
      cases e3
      exact ⟨p0l0,p0A0,p0c0,p1b0,p2n0,p3l0,p3A0,p3c0,rfl,p0f0,p0f1,p0f2,p3f0,p3f1,p3f2⟩
set_option maxRecDepth 100000 in
theorem Tk {H:Type} {enc:TypeId×Value→H} {w:World} {r:Reach} {b0:Nat} {v:Value} {d:DataW H} {p:List MemPlace} {sp:Nat→Bool} {hd:Bool} (hv:Value.okWide Tryz.prog w r b0 25 v) (h:DataW.Trod enc Tryz.prog w 0 sp hd 25 v d p) {B:Nat} (hz:Fits Tryz.prog 25 B d):∃ n0:Int,∃ l1:List Psg,∃ A1:Option Addr,∃ c1:Nat,∃ l2:List Int,∃ A2:Option Addr,∃ c2:Nat,v = .agg [.int .i64 n0,.slice A1 l1.length c1,.slice A2 l2.length c2].toArray∧InS w noF 7 A1 l1.length (pcell l1)∧l1.length*56≤140737488351232∧l1.length≤B∧InS w noF 1 A2 l2.length (icl l2)∧l2.length*8≤140737488351232∧l2.length≤B:=by
  obtain ⟨cs,rfl,_⟩:=okWide_struct Tryz.underlying25 hv
  obtain ⟨fuel,hf⟩:=h
  obtain ⟨n0,l1,A1,c1,l2,A2,c2,e,f0,f1,f2,f3,f4,f5⟩:=Sx hf hz
  have e':cs=[.int .i64 n0,.slice A1 l1.length c1,.slice A2 l2.length c2].toArray:=by rw [←e];simp [Value.cells]
  subst e'
  exact ⟨n0,l1,A1,c1,l2,A2,c2,rfl,f0,f1,f2,f3,f4,f5⟩
set_option maxRecDepth 100000 in
theorem Tl {H:Type} {enc:TypeId×Value→H} {w:World} {r:Reach} {b0:Nat} {v:Value} {d:DataW H} {p:List MemPlace} {sp:Nat→Bool} {hd:Bool} (hv:Value.okWide Tryz.prog w r b0 30 v) (h:DataW.Trod enc Tryz.prog w 0 sp hd 30 v d p) {B:Nat} (hz:Fits Tryz.prog 30 B d):∃ n0:Int,∃ l1:List Jb,∃ A1:Option Addr,∃ c1:Nat,∃ l2:List Int,∃ A2:Option Addr,∃ c2:Nat,∃ n3:Int,∃ n4:Int,∃ l5:List Int,∃ A5:Option Addr,∃ c5:Nat,v = .agg [.int .i64 n0,.slice A1 l1.length c1,.slice A2 l2.length c2,.int .i64 n3,.int .i64 n4,.slice A5 l5.length c5].toArray∧InS w noF 3 A1 l1.length (mT l1)∧l1.length*40≤140737488351232∧l1.length≤B∧(∀ k,k<l1.length→InS w noF 1 (l1.getD k Jb.zero).A (l1.getD k Jb.zero).after.length (icl (l1.getD k Jb.zero).after)∧(l1.getD k Jb.zero).after.length*8≤140737488351232∧(l1.getD k Jb.zero).after.length≤B)∧InS w noF 1 A2 l2.length (icl l2)∧l2.length*8≤140737488351232∧l2.length≤B∧InS w noF 1 A5 l5.length (icl l5)∧l5.length*8≤140737488351232∧l5.length≤B:=by
  obtain ⟨cs,rfl,_⟩:=okWide_struct Tryz.underlying30 hv
  obtain ⟨fuel,hf⟩:=h
  obtain ⟨n0,l1,A1,c1,l2,A2,c2,n3,n4,l5,A5,c5,e,f0,f1,f2,f3,f4,f5,f6,f7,f8,f9⟩:=Td hf hz
  have e':cs=[.int .i64 n0,.slice A1 l1.length c1,.slice A2 l2.length c2,.int .i64 n3,.int .i64 n4,.slice A5 l5.length c5].toArray:=by rw [←e];simp [Value.cells]
  subst e'
  exact ⟨n0,l1,A1,c1,l2,A2,c2,n3,n4,l5,A5,c5,rfl,f0,f1,f2,f3,f4,f5,f6,f7,f8,f9⟩
set_option maxRecDepth 100000 in
theorem Tm {H:Type} {enc:TypeId×Value→H} {w:World} {r:Reach} {b0:Nat} {v:Value} {d:DataW H} {p:List MemPlace} {sp:Nat→Bool} {hd:Bool} (hv:Value.okWide Tryz.prog w r b0 33 v) (h:DataW.Trod enc Tryz.prog w 0 sp hd 33 v d p) {B:Nat} (hz:Fits Tryz.prog 33 B d):∃ l0:List Int,∃ A0:Option Addr,∃ c0:Nat,∃ b1:Bool,∃ n2:Int,∃ l3:List Prm,∃ A3:Option Addr,∃ c3:Nat,v = .agg [.slice A0 l0.length c0,.bool b1,.int .i64 n2,.slice A3 l3.length c3].toArray∧InS w noF 1 A0 l0.length (icl l0)∧l0.length*8≤140737488351232∧l0.length≤B∧InS w noF 5 A3 l3.length (fB l3)∧l3.length*40≤140737488351232∧l3.length≤B:=by
  obtain ⟨cs,rfl,_⟩:=okWide_struct Tryz.underlying33 hv
  obtain ⟨fuel,hf⟩:=h
  obtain ⟨l0,A0,c0,b1,n2,l3,A3,c3,e,f0,f1,f2,f3,f4,f5⟩:=Tj hf hz
  have e':cs=[.slice A0 l0.length c0,.bool b1,.int .i64 n2,.slice A3 l3.length c3].toArray:=by rw [←e];simp [Value.cells]
  subst e'
  exact ⟨l0,A0,c0,b1,n2,l3,A3,c3,rfl,f0,f1,f2,f3,f4,f5⟩
end
end Go.Proofs.YtinghmelkmblmaaGreat
