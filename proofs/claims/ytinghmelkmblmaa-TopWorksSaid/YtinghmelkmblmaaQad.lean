/- Part 4 of the proof. -/
import Derived.Test.YtinghmelkmblmaaQac
namespace Go.Proofs.Ytinghmelkmblmaa
open Go.RowKit
set_option linter.unusedVariables false
set_option linter.unusedSimpArgs false
set_option maxRecDepth 100000
set_option maxHeartbeats 4000000
section
theorem pR (up:Bool) (empty pull drag motor:Int) (br:List Brake) (BA:Option Addr) (bcp:Nat) (sp slo shi sfail:Int) (w:World) (hb:InS w noF 2 BA br.length (bcell br)) (hbn:br.length≤9223372036854775807) :
    Calls Try.prog 34 [.agg [.bool up,.int .i64 empty,.int .i64 pull,.int .i64 drag,.int .i64 motor,.slice BA br.length bcp].toArray,.agg [.int .i64 sp,.int .i64 slo,.int .i64 shi,.int .i64 sfail].toArray].toArray w (Ret (fun v w'=>v = .int .i64 (stopE (⟨up,empty,pull,drag,motor,br⟩:Esc) (⟨sp,slo,shi,sfail⟩:Stp))∧St w noF [] w')):=by
 refine enter Try.func34 rfl Try.ntmps34 rfl (fun a H=>?_)
 have S:=St.start w
 refine aB fun K1 k1=>?_
 refine aS H rfl S G G ?_;clear H a S;intro b2 _ a hb2 hbw2 S H
 refine aS H rfl S G G ?_;clear H a S;intro b3 _ a hb3 hbw3 S H
 refine ls 1 H<|sr 1 rfl<|sE ?_;clear H a;intro a H
 refine k1 _ _ ?_;clear k1 K1
 refine wp_seq_k fun K2 k2=>?_
 cases hesc:escOk (⟨up,empty,pull,drag,motor,br⟩:Esc)
 ·skip
  refine aB fun K3 k3=>?_
  refine ls 1 H<|sd ((aC fO iB rfl S (i:=1) G G))<|sE ?_;clear H a;intro a H
  refine aA H G G Try.func52 G G (qP up empty pull drag motor br BA bcp _ (hb.now S) hbn) ?_;clear H a
  rintro _ _ a ⟨rfl,S2⟩ H
  replace S:=S.call S2;clear S2
  rw [hesc] at H;simp only [if_true,Bool.false_eq_true,if_false] at H
  refine ls 1 H<|sr 1 rfl<|sE ?_;clear H a;intro a H
  refine k3 _ _ ?_;clear k3 K3
  refine sS H fun K4 k4=>sr 2 rfl<|sE ?_;clear H a;intro a H
  refine k4 _ ?_;clear k4 K4
  refine aQ H rfl (fun hc1=>?_) (fun hc1=>?_)
  ·skip
   skip
   replace H:=H.keep [5] rfl
   refine sS H fun K5 k5=>sr 2 rfl<|sE ?_;clear H a;intro a H
   refine k5 _ ?_;clear k5 K5
   refine wp_ret ?_
   refine ret1 (fn:=Try.f34) rfl H rfl ?_
   refine ⟨?_,(S.sel [] G G)⟩;unfold stopE;rw [if_neg (by rw [hesc];simp)]
  skip
  exact absurd hc1 (by decide)
 refine aB fun K6 k6=>?_
 refine ls 1 H<|sd ((aC fO iB rfl S (i:=1) G G))<|sE ?_;clear H a;intro a H
 refine aA H G G Try.func52 G G (qP up empty pull drag motor br BA bcp _ (hb.now S) hbn) ?_;clear H a
 rintro _ _ a ⟨rfl,S2⟩ H
 replace S:=S.call S2;clear S2
 rw [hesc] at H;simp only [if_true,Bool.false_eq_true,if_false] at H
 refine ls 1 H<|sr 1 rfl<|sE ?_;clear H a;intro a H
 refine k6 _ _ ?_;clear k6 K6
 refine sS H fun K7 k7=>sr 2 rfl<|sE ?_;clear H a;intro a H
 refine k7 _ ?_;clear k7 K7
 refine aQ H rfl (fun hc2=>?_) (fun hc2=>?_)
 ·skip
  skip
  exact absurd hc2 (by decide)
 skip
 refine wp_skip ?_
 refine k2 _ _ ?_
 refine wp_seq_k fun K8 k8=>?_
 rcases (show ((sp<0∨1000<sp)∨((0≤sp∧sp≤1000)∧slo<0)∨((0≤sp∧sp≤1000∧0≤slo)∧shi<slo))∨((0≤sp∧sp≤1000∧0≤slo∧slo≤shi)∧(100000<shi∨(shi≤100000∧sfail<0)∨((shi≤100000∧0≤sfail)∧(2:Int)^br.length≤sfail)∨((shi≤100000∧0≤sfail)∧sfail<(2:Int)^br.length))) by omega) with (hs|hs|hs)|⟨hs0,hs|hs|hs|hs⟩
 ·skip
  skip
  have hE:=cK hesc
  dsimp only at hE
  obtain ⟨hE1,hE2,hE3,hE4,hE5⟩:=hE
  replace H:=H.keep [2,3] rfl
  replace S:=S.drew
  refine cD [(0,true),(1,true),(2,false),(3,false),(4,true),(5,true),(6,true),(7,true),(8,true),(9,true),(10,true),(11,true),(12,true),(13,true),(14,true),(15,true),(16,true),(17,true),(18,true),(19,true),(20,true),(21,true),(22,true),(23,true),(24,true),(25,true),(26,true),(27,true),(28,true),(29,true),(30,true),(31,true),(32,true),(33,true),(34,true),(35,true),(36,true),(37,true),(38,true),(39,true)] (by kernel_rfl) (by kernel_rfl) (S.sel [0,1] G G) fun K9 k9=>?_
  refine qF H<|qd rfl (fun _ S=>(aE fW rfl))<|qd rfl (fun _ S=>aG aF rfl (boxM.rd S (i:=0) G G))<|qK ?_;clear H a;intro a H
  refine aU rfl ?_
  refine aA H G G Try.func54 G G (cQ _ _) ?_;clear H a
  rintro _ _ a ⟨rfl,S2⟩ H
  replace S:=S.call S2;clear S2
  refine wpList_nil (And.intro (S.sel [0,1] G G) ?_)
  refine aU rfl ?_
  refine aA H G G Try.func53 G G (iI (by omega)) ?_;clear H a
  rintro _ _ a ⟨rfl,S2⟩ H
  replace S:=S.call S2;clear S2
  refine wpList_nil (And.intro (S.sel [0,1] G G) ?_)
  refine qF H<|qr 2 rfl<|qK ?_;clear H a;intro a H
  refine aL H G G G G G ?_;clear H a;intro a H
  refine aL H G G G G G ?_;clear H a;intro a H
  refine aL H G G G G G ?_;clear H a;intro a H
  refine aL H G G G G G ?_;clear H a;intro a H
  refine qF H<|qd rfl (fun _ S=>(aV G G G))<|qr 1 rfl<|qK ?_;clear H a;intro a H
  refine aL H G G G G G ?_;clear H a;intro a H
  refine aL H G G G G G ?_;clear H a;intro a H
  refine aL H G G G G G ?_;clear H a;intro a H
  refine aL H G G G G G ?_;clear H a;intro a H
  refine aL H G G G G G ?_;clear H a;intro a H
  refine aL H G G G G G ?_;clear H a;intro a H
  refine aL H G G G G G ?_;clear H a;intro a H
  refine qF H<|qd rfl (fun _ S=>(aV G G G))<|qr 1 rfl<|qK ?_;clear H a;intro a H
  refine aL H G G G G G ?_;clear H a;intro a H
  refine aL H G G G G G ?_;clear H a;intro a H
  refine aL H G G G G G ?_;clear H a;intro a H
  refine aL H G G G G G ?_;clear H a;intro a H
  refine qF H<|qd rfl (fun _ S=>(aV G G G))<|qr 1 rfl<|qK ?_;clear H a;intro a H
  refine aL H G G G G G ?_;clear H a;intro a H
  refine aL H G G G G G ?_;clear H a;intro a H
  refine aL H G G G G G ?_;clear H a;intro a H
  refine qF H<|qd rfl (fun _ S=>(aV G G G))<|qr 1 rfl<|qK ?_;clear H a;intro a H
  refine aL H G G G G G ?_;clear H a;intro a H
  refine aL H G G G G G ?_;clear H a;intro a H
  refine aL H G G G G G ?_;clear H a;intro a H
  refine aL H G G G G G ?_;clear H a;intro a H
  refine aL H G G G G G ?_;clear H a;intro a H
  refine aL H G G G G G ?_;clear H a;intro a H
  refine aL H G G G G G ?_;clear H a;intro a H
  refine qF H<|qd rfl (fun _ S=>(aV G G G))<|qK ?_;clear H a;intro a H
  refine bV ?_
  refine k9 _ _ ?_
  clear k9 K9
  refine aQ H rfl (fun hc3=>?_) (fun hc3=>?_)
  ·skip
   skip
   replace H:=H.keep [] rfl
   refine sS H fun K10 k10=>sr 1 rfl<|sE ?_;clear H a;intro a H
   refine k10 _ ?_;clear k10 K10
   refine wp_ret ?_
   refine ret1 (fn:=Try.f34) rfl H rfl ?_
   refine ⟨?_,(S.sel [] G G)⟩;unfold stopE;rw [if_pos hesc,if_neg (by unfold stpOk;simp only [decide_eq_true_eq];omega)]
  skip
  exact absurd hc3 (by decide)
 ·skip
  skip
  have hE:=cK hesc
  dsimp only at hE
  obtain ⟨hE1,hE2,hE3,hE4,hE5⟩:=hE
  replace H:=H.keep [2,3] rfl
  replace S:=S.drew
  refine cD [(0,true),(1,true),(2,false),(3,false),(4,true),(5,true),(6,true),(7,true),(8,true),(9,true),(10,true),(11,true),(12,true),(13,true),(14,true),(15,true),(16,true),(17,true),(18,true),(19,true),(20,true),(21,true),(22,true),(23,true),(24,true),(25,true),(26,true),(27,true),(28,true),(29,true),(30,true),(31,true),(32,true),(33,true),(34,true),(35,true),(36,true),(37,true),(38,true),(39,true)] (by kernel_rfl) (by kernel_rfl) (S.sel [0,1] G G) fun K11 k11=>?_
  refine qF H<|qd rfl (fun _ S=>(aE fW rfl))<|qd rfl (fun _ S=>aG aF rfl (boxM.rd S (i:=0) G G))<|qK ?_;clear H a;intro a H
  refine aU rfl ?_
  refine aA H G G Try.func54 G G (cQ _ _) ?_;clear H a
  rintro _ _ a ⟨rfl,S2⟩ H
  replace S:=S.call S2;clear S2
  refine wpList_nil (And.intro (S.sel [0,1] G G) ?_)
  refine aU rfl ?_
  refine aA H G G Try.func53 G G (bR (by omega)) ?_;clear H a
  rintro _ _ a ⟨rfl,S2⟩ H
  replace S:=S.call S2;clear S2
  refine wpList_nil (And.intro (S.sel [0,1] G G) ?_)
  refine qF H<|qr 2 rfl<|qK ?_;clear H a;intro a H
  refine aI H G G G G (fun _ S=>(aE bM rfl)) ?_;clear H a;intro a H
  refine aI H G G G G (fun _ S=>(aE cW rfl)) ?_;clear H a;intro a H
  refine aI H G G G G (fun _ S=>aG aF rfl (boxM.rd S (i:=0) G G)) ?_;clear H a;intro a H
  refine aI H G G G G (fun _ S=>Does.to (cG G G) (congrArg Value.bool (decide_eq_true (by omega)))) ?_;clear H a;intro a H
  refine qF H<|qd rfl (fun _ S=>(bB G G G))<|qr 1 rfl<|qK ?_;clear H a;intro a H
  refine aL H G G G G G ?_;clear H a;intro a H
  refine aL H G G G G G ?_;clear H a;intro a H
  refine aL H G G G G G ?_;clear H a;intro a H
  refine aL H G G G G G ?_;clear H a;intro a H
  refine aL H G G G G G ?_;clear H a;intro a H
  refine aL H G G G G G ?_;clear H a;intro a H
  refine aL H G G G G G ?_;clear H a;intro a H
  refine qF H<|qd rfl (fun _ S=>(aV G G G))<|qr 1 rfl<|qK ?_;clear H a;intro a H
  refine aL H G G G G G ?_;clear H a;intro a H
  refine aL H G G G G G ?_;clear H a;intro a H
  refine aL H G G G G G ?_;clear H a;intro a H
  refine aL H G G G G G ?_;clear H a;intro a H
  refine qF H<|qd rfl (fun _ S=>(aV G G G))<|qr 1 rfl<|qK ?_;clear H a;intro a H
  refine aL H G G G G G ?_;clear H a;intro a H
  refine aL H G G G G G ?_;clear H a;intro a H
  refine aL H G G G G G ?_;clear H a;intro a H
  refine qF H<|qd rfl (fun _ S=>(aV G G G))<|qr 1 rfl<|qK ?_;clear H a;intro a H
  refine aL H G G G G G ?_;clear H a;intro a H
  refine aL H G G G G G ?_;clear H a;intro a H
  refine aL H G G G G G ?_;clear H a;intro a H
  refine aL H G G G G G ?_;clear H a;intro a H
  refine aL H G G G G G ?_;clear H a;intro a H
  refine aL H G G G G G ?_;clear H a;intro a H
  refine aL H G G G G G ?_;clear H a;intro a H
  refine qF H<|qd rfl (fun _ S=>(aV G G G))<|qK ?_;clear H a;intro a H
  refine bV ?_
  refine k11 _ _ ?_
  clear k11 K11
  refine aQ H rfl (fun hc4=>?_) (fun hc4=>?_)
  ·skip
   skip
   replace H:=H.keep [] rfl
   refine sS H fun K12 k12=>sr 1 rfl<|sE ?_;clear H a;intro a H
   refine k12 _ ?_;clear k12 K12
   refine wp_ret ?_
   refine ret1 (fn:=Try.f34) rfl H rfl ?_
   refine ⟨?_,(S.sel [] G G)⟩;unfold stopE;rw [if_pos hesc,if_neg (by unfold stpOk;simp only [decide_eq_true_eq];omega)]
  skip
  exact absurd hc4 (by decide)
 ·skip
  skip
  have hE:=cK hesc
  dsimp only at hE
  obtain ⟨hE1,hE2,hE3,hE4,hE5⟩:=hE
  replace H:=H.keep [2,3] rfl
  replace S:=S.drew
  refine cD [(0,true),(1,true),(2,false),(3,false),(4,true),(5,true),(6,true),(7,true),(8,true),(9,true),(10,true),(11,true),(12,true),(13,true),(14,true),(15,true),(16,true),(17,true),(18,true),(19,true),(20,true),(21,true),(22,true),(23,true),(24,true),(25,true),(26,true),(27,true),(28,true),(29,true),(30,true),(31,true),(32,true),(33,true),(34,true),(35,true),(36,true),(37,true),(38,true),(39,true)] (by kernel_rfl) (by kernel_rfl) (S.sel [0,1] G G) fun K13 k13=>?_
  refine qF H<|qd rfl (fun _ S=>(aE fW rfl))<|qd rfl (fun _ S=>aG aF rfl (boxM.rd S (i:=0) G G))<|qK ?_;clear H a;intro a H
  refine aU rfl ?_
  refine aA H G G Try.func54 G G (cQ _ _) ?_;clear H a
  rintro _ _ a ⟨rfl,S2⟩ H
  replace S:=S.call S2;clear S2
  refine wpList_nil (And.intro (S.sel [0,1] G G) ?_)
  refine aU rfl ?_
  refine aA H G G Try.func53 G G (bR (by omega)) ?_;clear H a
  rintro _ _ a ⟨rfl,S2⟩ H
  replace S:=S.call S2;clear S2
  refine wpList_nil (And.intro (S.sel [0,1] G G) ?_)
  refine qF H<|qr 2 rfl<|qK ?_;clear H a;intro a H
  refine aI H G G G G (fun _ S=>(aE bM rfl)) ?_;clear H a;intro a H
  refine aI H G G G G (fun _ S=>(aE cW rfl)) ?_;clear H a;intro a H
  refine aI H G G G G (fun _ S=>aG aF rfl (boxM.rd S (i:=0) G G)) ?_;clear H a;intro a H
  refine aI H G G G G (fun _ S=>Does.to (cG G G) (congrArg Value.bool (decide_eq_false (by omega)))) ?_;clear H a;intro a H
  refine qF H<|qd rfl (fun _ S=>(bB G G G))<|qr 1 rfl<|qK ?_;clear H a;intro a H
  refine aI H G G G G (fun _ S=>(aE bM rfl)) ?_;clear H a;intro a H
  refine aI H G G G G (fun _ S=>(aE cW rfl)) ?_;clear H a;intro a H
  refine aI H G G G G (fun _ S=>aG aF rfl (boxM.rd S (i:=0) G G)) ?_;clear H a;intro a H
  refine aI H G G G G (fun _ S=>(aE bM rfl)) ?_;clear H a;intro a H
  refine aI H G G G G (fun _ S=>(aE dJ rfl)) ?_;clear H a;intro a H
  refine aI H G G G G (fun _ S=>aG aF rfl (boxM.rd S (i:=0) G G)) ?_;clear H a;intro a H
  refine aI H G G G G (fun _ S=>Does.to (bU G G) (congrArg Value.bool (decide_eq_true (by omega)))) ?_;clear H a;intro a H
  refine qF H<|qd rfl (fun _ S=>(bB G G G))<|qr 1 rfl<|qK ?_;clear H a;intro a H
  refine aL H G G G G G ?_;clear H a;intro a H
  refine aL H G G G G G ?_;clear H a;intro a H
  refine aL H G G G G G ?_;clear H a;intro a H
  refine aL H G G G G G ?_;clear H a;intro a H
  refine qF H<|qd rfl (fun _ S=>(aV G G G))<|qr 1 rfl<|qK ?_;clear H a;intro a H
  refine aL H G G G G G ?_;clear H a;intro a H
  refine aL H G G G G G ?_;clear H a;intro a H
  refine aL H G G G G G ?_;clear H a;intro a H
  refine qF H<|qd rfl (fun _ S=>(aV G G G))<|qr 1 rfl<|qK ?_;clear H a;intro a H
  refine aL H G G G G G ?_;clear H a;intro a H
  refine aL H G G G G G ?_;clear H a;intro a H
  refine aL H G G G G G ?_;clear H a;intro a H
  refine aL H G G G G G ?_;clear H a;intro a H
  refine aL H G G G G G ?_;clear H a;intro a H
  refine aL H G G G G G ?_;clear H a;intro a H
  refine aL H G G G G G ?_;clear H a;intro a H
  refine qF H<|qd rfl (fun _ S=>(aV G G G))<|qK ?_;clear H a;intro a H
  refine bV ?_
  refine k13 _ _ ?_
  clear k13 K13
  refine aQ H rfl (fun hc5=>?_) (fun hc5=>?_)
  ·skip
   skip
   replace H:=H.keep [] rfl
   refine sS H fun K14 k14=>sr 1 rfl<|sE ?_;clear H a;intro a H
   refine k14 _ ?_;clear k14 K14
   refine wp_ret ?_
   refine ret1 (fn:=Try.f34) rfl H rfl ?_
   refine ⟨?_,(S.sel [] G G)⟩;unfold stopE;rw [if_pos hesc,if_neg (by unfold stpOk;simp only [decide_eq_true_eq];omega)]
  skip
  exact absurd hc5 (by decide)
 ·skip
  skip
  have hE:=cK hesc
  dsimp only at hE
  obtain ⟨hE1,hE2,hE3,hE4,hE5⟩:=hE
  replace H:=H.keep [2,3] rfl
  replace S:=S.drew
  refine cD [(0,true),(1,true),(2,false),(3,false),(4,true),(5,true),(6,true),(7,true),(8,true),(9,true),(10,true),(11,true),(12,true),(13,true),(14,true),(15,true),(16,true),(17,true),(18,true),(19,true),(20,true),(21,true),(22,true),(23,true),(24,true),(25,true),(26,true),(27,true),(28,true),(29,true),(30,true),(31,true),(32,true),(33,true),(34,true),(35,true),(36,true),(37,true),(38,true),(39,true)] (by kernel_rfl) (by kernel_rfl) (S.sel [0,1] G G) fun K15 k15=>?_
  refine qF H<|qd rfl (fun _ S=>(aE fW rfl))<|qd rfl (fun _ S=>aG aF rfl (boxM.rd S (i:=0) G G))<|qK ?_;clear H a;intro a H
  refine aU rfl ?_
  refine aA H G G Try.func54 G G (cQ _ _) ?_;clear H a
  rintro _ _ a ⟨rfl,S2⟩ H
  replace S:=S.call S2;clear S2
  refine wpList_nil (And.intro (S.sel [0,1] G G) ?_)
  refine aU rfl ?_
  refine aA H G G Try.func53 G G (bR (by omega)) ?_;clear H a
  rintro _ _ a ⟨rfl,S2⟩ H
  replace S:=S.call S2;clear S2
  refine wpList_nil (And.intro (S.sel [0,1] G G) ?_)
  refine qF H<|qr 2 rfl<|qK ?_;clear H a;intro a H
  refine aI H G G G G (fun _ S=>(aE bM rfl)) ?_;clear H a;intro a H
  refine aI H G G G G (fun _ S=>(aE cW rfl)) ?_;clear H a;intro a H
  refine aI H G G G G (fun _ S=>aG aF rfl (boxM.rd S (i:=0) G G)) ?_;clear H a;intro a H
  refine aI H G G G G (fun _ S=>Does.to (cG G G) (congrArg Value.bool (decide_eq_false (by omega)))) ?_;clear H a;intro a H
  refine qF H<|qd rfl (fun _ S=>(bB G G G))<|qr 1 rfl<|qK ?_;clear H a;intro a H
  refine aI H G G G G (fun _ S=>(aE bM rfl)) ?_;clear H a;intro a H
  refine aI H G G G G (fun _ S=>(aE cW rfl)) ?_;clear H a;intro a H
  refine aI H G G G G (fun _ S=>aG aF rfl (boxM.rd S (i:=0) G G)) ?_;clear H a;intro a H
  refine aI H G G G G (fun _ S=>(aE bM rfl)) ?_;clear H a;intro a H
  refine aI H G G G G (fun _ S=>(aE dJ rfl)) ?_;clear H a;intro a H
  refine aI H G G G G (fun _ S=>aG aF rfl (boxM.rd S (i:=0) G G)) ?_;clear H a;intro a H
  refine aI H G G G G (fun _ S=>Does.to (bU G G) (congrArg Value.bool (decide_eq_false (by omega)))) ?_;clear H a;intro a H
  refine qF H<|qd rfl (fun _ S=>(bB G G G))<|qr 1 rfl<|qK ?_;clear H a;intro a H
  refine aI H G G G G (fun _ S=>(aE bM rfl)) ?_;clear H a;intro a H
  refine aI H G G G G (fun _ S=>(aE dJ rfl)) ?_;clear H a;intro a H
  refine aI H G G G G (fun _ S=>aG aF rfl (boxM.rd S (i:=0) G G)) ?_;clear H a;intro a H
  refine aI H G G G G (fun _ S=>Does.to (bU G G) (congrArg Value.bool (decide_eq_true (by omega)))) ?_;clear H a;intro a H
  refine qF H<|qd rfl (fun _ S=>(bB G G G))<|qr 1 rfl<|qK ?_;clear H a;intro a H
  refine aL H G G G G G ?_;clear H a;intro a H
  refine aL H G G G G G ?_;clear H a;intro a H
  refine aL H G G G G G ?_;clear H a;intro a H
  refine qF H<|qd rfl (fun _ S=>(aV G G G))<|qr 1 rfl<|qK ?_;clear H a;intro a H
  refine aL H G G G G G ?_;clear H a;intro a H
  refine aL H G G G G G ?_;clear H a;intro a H
  refine aL H G G G G G ?_;clear H a;intro a H
  refine aL H G G G G G ?_;clear H a;intro a H
  refine aL H G G G G G ?_;clear H a;intro a H
  refine aL H G G G G G ?_;clear H a;intro a H
  refine aL H G G G G G ?_;clear H a;intro a H
  refine qF H<|qd rfl (fun _ S=>(aV G G G))<|qK ?_;clear H a;intro a H
  refine bV ?_
  refine k15 _ _ ?_
  clear k15 K15
  refine aQ H rfl (fun hc6=>?_) (fun hc6=>?_)
  ·skip
   skip
   replace H:=H.keep [] rfl
   refine sS H fun K16 k16=>sr 1 rfl<|sE ?_;clear H a;intro a H
   refine k16 _ ?_;clear k16 K16
   refine wp_ret ?_
   refine ret1 (fn:=Try.f34) rfl H rfl ?_
   refine ⟨?_,(S.sel [] G G)⟩;unfold stopE;rw [if_pos hesc,if_neg (by unfold stpOk;simp only [decide_eq_true_eq];omega)]
  skip
  exact absurd hc6 (by decide)
 ·skip
  skip
  have hE:=cK hesc
  dsimp only at hE
  obtain ⟨hE1,hE2,hE3,hE4,hE5⟩:=hE
  replace H:=H.keep [2,3] rfl
  replace S:=S.drew
  refine cD [(0,true),(1,true),(2,false),(3,false),(4,true),(5,true),(6,true),(7,true),(8,true),(9,true),(10,true),(11,true),(12,true),(13,true),(14,true),(15,true),(16,true),(17,true),(18,true),(19,true),(20,true),(21,true),(22,true),(23,true),(24,true),(25,true),(26,true),(27,true),(28,true),(29,true),(30,true),(31,true),(32,true),(33,true),(34,true),(35,true),(36,true),(37,true),(38,true),(39,true)] (by kernel_rfl) (by kernel_rfl) (S.sel [0,1] G G) fun K17 k17=>?_
  refine qF H<|qd rfl (fun _ S=>(aE fW rfl))<|qd rfl (fun _ S=>aG aF rfl (boxM.rd S (i:=0) G G))<|qK ?_;clear H a;intro a H
  refine aU rfl ?_
  refine aA H G G Try.func54 G G (cQ _ _) ?_;clear H a
  rintro _ _ a ⟨rfl,S2⟩ H
  replace S:=S.call S2;clear S2
  refine wpList_nil (And.intro (S.sel [0,1] G G) ?_)
  refine aU rfl ?_
  refine aA H G G Try.func53 G G (bR (by omega)) ?_;clear H a
  rintro _ _ a ⟨rfl,S2⟩ H
  replace S:=S.call S2;clear S2
  refine wpList_nil (And.intro (S.sel [0,1] G G) ?_)
  refine qF H<|qr 2 rfl<|qK ?_;clear H a;intro a H
  refine aI H G G G G (fun _ S=>(aE bM rfl)) ?_;clear H a;intro a H
  refine aI H G G G G (fun _ S=>(aE cW rfl)) ?_;clear H a;intro a H
  refine aI H G G G G (fun _ S=>aG aF rfl (boxM.rd S (i:=0) G G)) ?_;clear H a;intro a H
  refine aI H G G G G (fun _ S=>Does.to (cG G G) (congrArg Value.bool (decide_eq_false (by omega)))) ?_;clear H a;intro a H
  refine qF H<|qd rfl (fun _ S=>(bB G G G))<|qr 1 rfl<|qK ?_;clear H a;intro a H
  refine aI H G G G G (fun _ S=>(aE bM rfl)) ?_;clear H a;intro a H
  refine aI H G G G G (fun _ S=>(aE cW rfl)) ?_;clear H a;intro a H
  refine aI H G G G G (fun _ S=>aG aF rfl (boxM.rd S (i:=0) G G)) ?_;clear H a;intro a H
  refine aI H G G G G (fun _ S=>(aE bM rfl)) ?_;clear H a;intro a H
  refine aI H G G G G (fun _ S=>(aE dJ rfl)) ?_;clear H a;intro a H
  refine aI H G G G G (fun _ S=>aG aF rfl (boxM.rd S (i:=0) G G)) ?_;clear H a;intro a H
  refine aI H G G G G (fun _ S=>Does.to (bU G G) (congrArg Value.bool (decide_eq_false (by omega)))) ?_;clear H a;intro a H
  refine qF H<|qd rfl (fun _ S=>(bB G G G))<|qr 1 rfl<|qK ?_;clear H a;intro a H
  refine aI H G G G G (fun _ S=>(aE bM rfl)) ?_;clear H a;intro a H
  refine aI H G G G G (fun _ S=>(aE dJ rfl)) ?_;clear H a;intro a H
  refine aI H G G G G (fun _ S=>aG aF rfl (boxM.rd S (i:=0) G G)) ?_;clear H a;intro a H
  refine aI H G G G G (fun _ S=>Does.to (bU G G) (congrArg Value.bool (decide_eq_false (by omega)))) ?_;clear H a;intro a H
  refine qF H<|qd rfl (fun _ S=>(bB G G G))<|qr 1 rfl<|qK ?_;clear H a;intro a H
  refine aI H G G G G (fun _ S=>(aE jU rfl)) ?_;clear H a;intro a H
  refine aI H G G G G (fun _ S=>aG aF rfl (boxM.rd S (i:=0) G G)) ?_;clear H a;intro a H
  refine aI H G G G G (fun _ S=>Does.to (cG G G) (congrArg Value.bool (decide_eq_true (by omega)))) ?_;clear H a;intro a H
  refine qF H<|qd rfl (fun _ S=>(bB G G G))<|qr 1 rfl<|qK ?_;clear H a;intro a H
  refine aL H G G G G G ?_;clear H a;intro a H
  refine aL H G G G G G ?_;clear H a;intro a H
  refine aL H G G G G G ?_;clear H a;intro a H
  refine aL H G G G G G ?_;clear H a;intro a H
  refine aL H G G G G G ?_;clear H a;intro a H
  refine aL H G G G G G ?_;clear H a;intro a H
  refine aL H G G G G G ?_;clear H a;intro a H
  refine qF H<|qd rfl (fun _ S=>(aV G G G))<|qK ?_;clear H a;intro a H
  refine bV ?_
  refine k17 _ _ ?_
  clear k17 K17
  refine aQ H rfl (fun hc7=>?_) (fun hc7=>?_)
  ·skip
   skip
   replace H:=H.keep [] rfl
   refine sS H fun K18 k18=>sr 1 rfl<|sE ?_;clear H a;intro a H
   refine k18 _ ?_;clear k18 K18
   refine wp_ret ?_
   refine ret1 (fn:=Try.f34) rfl H rfl ?_
   refine ⟨?_,(S.sel [] G G)⟩;unfold stopE;rw [if_pos hesc,if_neg (by unfold stpOk;simp only [decide_eq_true_eq];omega)]
  skip
  exact absurd hc7 (by decide)
 ·skip
  skip
  have hE:=cK hesc
  dsimp only at hE
  obtain ⟨hE1,hE2,hE3,hE4,hE5⟩:=hE
  replace H:=H.keep [2,3] rfl
  replace S:=S.drew
  refine cD [(0,true),(1,true),(2,false),(3,false),(4,true),(5,true),(6,true),(7,true),(8,true),(9,true),(10,true),(11,true),(12,true),(13,true),(14,true),(15,true),(16,true),(17,true),(18,true),(19,true),(20,true),(21,true),(22,true),(23,true),(24,true),(25,true),(26,true),(27,true),(28,true),(29,true),(30,true),(31,true),(32,true),(33,true),(34,true),(35,true),(36,true),(37,true),(38,true),(39,true)] (by kernel_rfl) (by kernel_rfl) (S.sel [0,1] G G) fun K19 k19=>?_
  refine qF H<|qd rfl (fun _ S=>(aE fW rfl))<|qd rfl (fun _ S=>aG aF rfl (boxM.rd S (i:=0) G G))<|qK ?_;clear H a;intro a H
  refine aU rfl ?_
  refine aA H G G Try.func54 G G (cQ _ _) ?_;clear H a
  rintro _ _ a ⟨rfl,S2⟩ H
  replace S:=S.call S2;clear S2
  refine wpList_nil (And.intro (S.sel [0,1] G G) ?_)
  refine aU rfl ?_
  refine aA H G G Try.func53 G G (bR (by omega)) ?_;clear H a
  rintro _ _ a ⟨rfl,S2⟩ H
  replace S:=S.call S2;clear S2
  refine wpList_nil (And.intro (S.sel [0,1] G G) ?_)
  refine qF H<|qr 2 rfl<|qK ?_;clear H a;intro a H
  refine aI H G G G G (fun _ S=>(aE bM rfl)) ?_;clear H a;intro a H
  refine aI H G G G G (fun _ S=>(aE cW rfl)) ?_;clear H a;intro a H
  refine aI H G G G G (fun _ S=>aG aF rfl (boxM.rd S (i:=0) G G)) ?_;clear H a;intro a H
  refine aI H G G G G (fun _ S=>Does.to (cG G G) (congrArg Value.bool (decide_eq_false (by omega)))) ?_;clear H a;intro a H
  refine qF H<|qd rfl (fun _ S=>(bB G G G))<|qr 1 rfl<|qK ?_;clear H a;intro a H
  refine aI H G G G G (fun _ S=>(aE bM rfl)) ?_;clear H a;intro a H
  refine aI H G G G G (fun _ S=>(aE cW rfl)) ?_;clear H a;intro a H
  refine aI H G G G G (fun _ S=>aG aF rfl (boxM.rd S (i:=0) G G)) ?_;clear H a;intro a H
  refine aI H G G G G (fun _ S=>(aE bM rfl)) ?_;clear H a;intro a H
  refine aI H G G G G (fun _ S=>(aE dJ rfl)) ?_;clear H a;intro a H
  refine aI H G G G G (fun _ S=>aG aF rfl (boxM.rd S (i:=0) G G)) ?_;clear H a;intro a H
  refine aI H G G G G (fun _ S=>Does.to (bU G G) (congrArg Value.bool (decide_eq_false (by omega)))) ?_;clear H a;intro a H
  refine qF H<|qd rfl (fun _ S=>(bB G G G))<|qr 1 rfl<|qK ?_;clear H a;intro a H
  refine aI H G G G G (fun _ S=>(aE bM rfl)) ?_;clear H a;intro a H
  refine aI H G G G G (fun _ S=>(aE dJ rfl)) ?_;clear H a;intro a H
  refine aI H G G G G (fun _ S=>aG aF rfl (boxM.rd S (i:=0) G G)) ?_;clear H a;intro a H
  refine aI H G G G G (fun _ S=>Does.to (bU G G) (congrArg Value.bool (decide_eq_false (by omega)))) ?_;clear H a;intro a H
  refine qF H<|qd rfl (fun _ S=>(bB G G G))<|qr 1 rfl<|qK ?_;clear H a;intro a H
  refine aI H G G G G (fun _ S=>(aE jU rfl)) ?_;clear H a;intro a H
  refine aI H G G G G (fun _ S=>aG aF rfl (boxM.rd S (i:=0) G G)) ?_;clear H a;intro a H
  refine aI H G G G G (fun _ S=>Does.to (cG G G) (congrArg Value.bool (decide_eq_false (by omega)))) ?_;clear H a;intro a H
  refine qF H<|qd rfl (fun _ S=>(bB G G G))<|qr 1 rfl<|qK ?_;clear H a;intro a H
  refine aI H G G G G (fun _ S=>(aE jU rfl)) ?_;clear H a;intro a H
  refine aI H G G G G (fun _ S=>aG aF rfl (boxM.rd S (i:=0) G G)) ?_;clear H a;intro a H
  refine aI H G G G G (fun _ S=>(aE jW rfl)) ?_;clear H a;intro a H
  refine aI H G G G G (fun _ S=>aG mE rfl (boxM.rd S (i:=1) G G)) ?_;clear H a;intro a H
  refine aI H G G G G (fun _ S=>dD lE rfl) ?_;clear H a;intro a H
  refine aI H G G G G (fun _ S=>dE G G (by omega) (by omega) (by unfold i64ok;omega)) ?_;clear H a;intro a H
  refine aI H G G G G (fun _ S=>Does.to (nR G G) (congrArg Value.bool (decide_eq_true (by omega)))) ?_;clear H a;intro a H
  refine qF H<|qd rfl (fun _ S=>(bB G G G))<|qK ?_;clear H a;intro a H
  refine bV ?_
  refine k19 _ _ ?_
  clear k19 K19
  refine aQ H rfl (fun hc8=>?_) (fun hc8=>?_)
  ·skip
   skip
   replace H:=H.keep [] rfl
   refine sS H fun K20 k20=>sr 1 rfl<|sE ?_;clear H a;intro a H
   refine k20 _ ?_;clear k20 K20
   refine wp_ret ?_
   refine ret1 (fn:=Try.f34) rfl H rfl ?_
   refine ⟨?_,(S.sel [] G G)⟩;unfold stopE;rw [if_pos hesc,if_neg (by unfold stpOk;simp only [decide_eq_true_eq];omega)]
  skip
  exact absurd hc8 (by decide)
 skip
 have hE:=cK hesc
 dsimp only at hE
 obtain ⟨hE1,hE2,hE3,hE4,hE5⟩:=hE
 replace H:=H.keep [2,3] rfl
 replace S:=S.drew
 refine cD [(0,true),(1,true),(2,false),(3,false),(4,true),(5,true),(6,true),(7,true),(8,true),(9,true),(10,true),(11,true),(12,true),(13,true),(14,true),(15,true),(16,true),(17,true),(18,true),(19,true),(20,true),(21,true),(22,true),(23,true),(24,true),(25,true),(26,true),(27,true),(28,true),(29,true),(30,true),(31,true),(32,true),(33,true),(34,true),(35,true),(36,true),(37,true),(38,true),(39,true)] (by kernel_rfl) (by kernel_rfl) (S.sel [0,1] G G) fun K21 k21=>?_
 refine qF H<|qd rfl (fun _ S=>(aE fW rfl))<|qd rfl (fun _ S=>aG aF rfl (boxM.rd S (i:=0) G G))<|qK ?_;clear H a;intro a H
 refine aU rfl ?_
 refine aA H G G Try.func54 G G (cQ _ _) ?_;clear H a
 rintro _ _ a ⟨rfl,S2⟩ H
 replace S:=S.call S2;clear S2
 refine wpList_nil (And.intro (S.sel [0,1] G G) ?_)
 refine aU rfl ?_
 refine aA H G G Try.func53 G G (bR (by omega)) ?_;clear H a
 rintro _ _ a ⟨rfl,S2⟩ H
 replace S:=S.call S2;clear S2
 refine wpList_nil (And.intro (S.sel [0,1] G G) ?_)
 refine qF H<|qr 2 rfl<|qK ?_;clear H a;intro a H
 refine aI H G G G G (fun _ S=>(aE bM rfl)) ?_;clear H a;intro a H
 refine aI H G G G G (fun _ S=>(aE cW rfl)) ?_;clear H a;intro a H
 refine aI H G G G G (fun _ S=>aG aF rfl (boxM.rd S (i:=0) G G)) ?_;clear H a;intro a H
 refine aI H G G G G (fun _ S=>Does.to (cG G G) (congrArg Value.bool (decide_eq_false (by omega)))) ?_;clear H a;intro a H
 refine qF H<|qd rfl (fun _ S=>(bB G G G))<|qr 1 rfl<|qK ?_;clear H a;intro a H
 refine aI H G G G G (fun _ S=>(aE bM rfl)) ?_;clear H a;intro a H
 refine aI H G G G G (fun _ S=>(aE cW rfl)) ?_;clear H a;intro a H
 refine aI H G G G G (fun _ S=>aG aF rfl (boxM.rd S (i:=0) G G)) ?_;clear H a;intro a H
 refine aI H G G G G (fun _ S=>(aE bM rfl)) ?_;clear H a;intro a H
 refine aI H G G G G (fun _ S=>(aE dJ rfl)) ?_;clear H a;intro a H
 refine aI H G G G G (fun _ S=>aG aF rfl (boxM.rd S (i:=0) G G)) ?_;clear H a;intro a H
 refine aI H G G G G (fun _ S=>Does.to (bU G G) (congrArg Value.bool (decide_eq_false (by omega)))) ?_;clear H a;intro a H
 refine qF H<|qd rfl (fun _ S=>(bB G G G))<|qr 1 rfl<|qK ?_;clear H a;intro a H
 refine aI H G G G G (fun _ S=>(aE bM rfl)) ?_;clear H a;intro a H
 refine aI H G G G G (fun _ S=>(aE dJ rfl)) ?_;clear H a;intro a H
 refine aI H G G G G (fun _ S=>aG aF rfl (boxM.rd S (i:=0) G G)) ?_;clear H a;intro a H
 refine aI H G G G G (fun _ S=>Does.to (bU G G) (congrArg Value.bool (decide_eq_false (by omega)))) ?_;clear H a;intro a H
 refine qF H<|qd rfl (fun _ S=>(bB G G G))<|qr 1 rfl<|qK ?_;clear H a;intro a H
 refine aI H G G G G (fun _ S=>(aE jU rfl)) ?_;clear H a;intro a H
 refine aI H G G G G (fun _ S=>aG aF rfl (boxM.rd S (i:=0) G G)) ?_;clear H a;intro a H
 refine aI H G G G G (fun _ S=>Does.to (cG G G) (congrArg Value.bool (decide_eq_false (by omega)))) ?_;clear H a;intro a H
 refine qF H<|qd rfl (fun _ S=>(bB G G G))<|qr 1 rfl<|qK ?_;clear H a;intro a H
 refine aI H G G G G (fun _ S=>(aE jU rfl)) ?_;clear H a;intro a H
 refine aI H G G G G (fun _ S=>aG aF rfl (boxM.rd S (i:=0) G G)) ?_;clear H a;intro a H
 refine aI H G G G G (fun _ S=>(aE jW rfl)) ?_;clear H a;intro a H
 refine aI H G G G G (fun _ S=>aG mE rfl (boxM.rd S (i:=1) G G)) ?_;clear H a;intro a H
 refine aI H G G G G (fun _ S=>dD lE rfl) ?_;clear H a;intro a H
 refine aI H G G G G (fun _ S=>dE G G (by omega) (by omega) (by unfold i64ok;omega)) ?_;clear H a;intro a H
 refine aI H G G G G (fun _ S=>Does.to (nR G G) (congrArg Value.bool (decide_eq_false (by omega)))) ?_;clear H a;intro a H
 refine qF H<|qd rfl (fun _ S=>(bB G G G))<|qK ?_;clear H a;intro a H
 refine bV ?_
 refine k21 _ _ ?_
 clear k21 K21
 refine aQ H rfl (fun hc9=>?_) (fun hc9=>?_)
 ·skip
  skip
  exact absurd hc9 (by decide)
 skip
 refine wp_skip ?_
 refine k8 _ _ ?_
 replace H:=H.keep [] rfl
 refine sS H fun K22 k22=>sr 1 rfl<|sE ?_;clear H a;intro a H
 refine k22 _ ?_;clear k22 K22
 refine wp_ret ?_
 refine ret1 (fn:=Try.f34) rfl H rfl ?_
 refine ⟨?_,(S.sel [] G G)⟩;unfold stopE;rw [if_pos hesc,if_pos (by unfold stpOk;simp only [decide_eq_true_eq];omega)]
theorem lW (up:Bool) (empty pull drag motor:Int) (br:List Brake) (BA:Option Addr) (bcp:Nat) (sp slo shi sfail:Int) (mb:Nat) (v:Int) (t:Nat) (x:Int) (w:World) (F:Nat→Prop) (S:St w F [boxM mb 120 [.bool up,.int .i64 empty,.int .i64 pull,.int .i64 drag,.int .i64 motor,.slice BA br.length bcp,.int .i64 sp,.int .i64 slo,.int .i64 shi,.int .i64 sfail,.int .i64 (v),.int .i64 (t:Int)]] w) (hb:InS w F 2 BA br.length (bcell br)) (hesc:escOk (⟨up,empty,pull,drag,motor,br⟩:Esc)=true) (hstp:stpOk (⟨up,empty,pull,drag,motor,br⟩:Esc) (⟨sp,slo,shi,sfail⟩:Stp)=true) (hx:slo≤x∧x≤shi) (ht:t≤1000) (hv : -900000000000≤v∧v≤900000000000) :
    Calls Try.prog 66 [.pointer (some ⟨mb,0,none⟩),.int .i64 x].toArray w (Ret (fun u w'=>u = .int .i64 (tickI (⟨up,empty,pull,drag,motor,br⟩:Esc) v x (gripI (⟨up,empty,pull,drag,motor,br⟩:Esc) (⟨sp,slo,shi,sfail⟩:Stp) (t:Int)))∧St w F [boxM mb 120 [.bool up,.int .i64 empty,.int .i64 pull,.int .i64 drag,.int .i64 motor,.slice BA br.length bcp,.int .i64 sp,.int .i64 slo,.int .i64 shi,.int .i64 sfail,.int .i64 (tickI (⟨up,empty,pull,drag,motor,br⟩:Esc) v x (gripI (⟨up,empty,pull,drag,motor,br⟩:Esc) (⟨sp,slo,shi,sfail⟩:Stp) (t:Int))),.int .i64 ((t:Int)+1)]] w')):=by
 have hE:=cK hesc
 dsimp only at hE
 obtain ⟨hE1,hE2,hE3,hE4,hE5⟩:=hE
 have hS1:=hstp;unfold stpOk at hS1;simp only [decide_eq_true_eq] at hS1
 have hgb:=sH (fail:=sfail) (t:=t) (l:=br) (by unfold escOk at hesc;simp only [Bool.and_eq_true] at hesc;exact hesc.2) br.length (Nat.le_refl _)
 have hgr:0≤gripI (⟨up,empty,pull,drag,motor,br⟩:Esc) (⟨sp,slo,shi,sfail⟩:Stp) (t:Int)∧gripI (⟨up,empty,pull,drag,motor,br⟩:Esc) (⟨sp,slo,shi,sfail⟩:Stp) (t:Int)≤30000000:=by unfold gripI;dsimp only;omega
 refine enter Try.func66 rfl Try.ntmps66 rfl (fun a H=>?_)
 skip
 refine sS H fun K1 k1=>sr 1 rfl<|sE ?_;clear H a;intro a H
 refine k1 _ ?_;clear k1 K1
 replace H:=H.keep [0,1] rfl
 replace S:=S.drew
 refine iM 15 (.p 0 (.p 1 (.p 2 (.p 3 (.p 5 (.p 6 (.p 7 (.p 9 (.p 10 (.b3 4 (.b2 8 (.e 11 (.e 12 (.p 13 (.p 14 (.e 15 .nil))))) 11 (.e 8 (.e 12 (.p 13 (.p 14 (.e 15 .nil)))))) 8 (.b2 4 (.e 11 (.e 12 (.p 13 (.p 14 (.e 15 .nil))))) 11 (.e 4 (.e 12 (.p 13 (.p 14 (.e 15 .nil)))))) 11 (.b2 4 (.e 8 (.e 12 (.p 13 (.p 14 (.e 15 .nil))))) 8 (.e 4 (.e 12 (.p 13 (.p 14 (.e 15 .nil)))))))))))))))) (by kernel_rfl) (by kernel_rfl) (S.sel [0] G G) fun K2 k2=>?_
 refine aP H G G (fun _=>aT rfl) ?_;clear H a;intro a H
 refine aP H G G (fun _=>aT rfl) ?_;clear H a;intro a H
 refine aP H G G (fun _=>bD rfl) ?_;clear H a;intro a H
 refine aP H G G (fun _=>(aE tJ rfl)) ?_;clear H a;intro a H
 refine aP H G G (fun _=>aT rfl) ?_;clear H a;intro a H
 refine aP H G G (fun _=>bD rfl) ?_;clear H a;intro a H
 refine aP H G G (fun _=>(aE bZ rfl)) ?_;clear H a;intro a H
 refine aP H G G (fun _=>aT rfl) ?_;clear H a;intro a H
 refine aP H G G (fun _=>aT rfl) ?_;clear H a;intro a H
 refine tC G G G ?_ ?_ ?_
 ·skip
  refine ls 1 H<|sd ((aC fO iB rfl S (i:=0) G G))<|sE ?_;clear H a;intro a H
  refine wpList_nil (And.intro (Or.inr (S.sel [0] G G)) ?_)
  refine cZ G G ?_ ?_
  ·skip
   refine ls 1 H<|sl S 0 aF G G G<|sE ?_;clear H a;intro a H
   refine wpList_nil (And.intro (Or.inr (S.sel [0] G G)) ?_)
   refine aK rfl ?_
   have S1:=(S.sel [0] G G)
   refine aA H G G Try.func81 G G (jP up empty pull drag motor br BA bcp sp slo shi sfail mb v t _ _ S1.startR (hb.nowR S1) hesc hstp) ?_;clear H a
   rintro _ _ a ⟨rfl,S2⟩ H
   replace S:=(S.sel [0] G G).callR (M:=[_]) S2;clear S1 S2
   refine wpList_nil (And.intro (Or.inr (S.sel [0] G G)) ?_)
   refine aK rfl ?_
   refine aA H G G Try.func80 G G (iJ up empty pull drag motor br BA bcp v x _ _ hesc (by omega) (by omega) (by omega)) ?_;clear H a
   rintro _ _ a ⟨rfl,S2⟩ H
   replace S:=S.call S2;clear S2
   refine wpList_nil (And.intro (Or.inr (S.sel [0] G G)) ?_)
   refine aP H G G (fun _=>bD rfl) ?_;clear H a;intro a H
   refine aP H G G (fun _=>(aE bZ rfl)) ?_;clear H a;intro a H
   refine aK rfl ?_
   refine aD H S (i:=0) G G G G aX G G ?_
   clear H a S;intro _ a S H
   refine wpList_nil (And.intro (Or.inl rfl) ?_)
   refine bE ?_
   refine k2 _ _ ?_
   clear k2 K2
   replace H:=H.keep [0] rfl
   refine aB fun K3 k3=>?_
   refine ls 7 H<|sr 2 rfl<|sf cT rfl<|sl S 0 aF G G G<|sd (aH G G (by unfold i64ok;omega))<|sr 1 rfl<|sf cT rfl<|sE ?_;clear H a;intro a H
   refine aD H S (i:=0) G G G G aX G G ?_
   clear H a S;intro _ a S H
   refine k3 _ _ ?_;clear k3 K3
   replace H:=H.keep [0] rfl
   refine sS H fun K4 k4=>sr 2 rfl<|sf bZ rfl<|sl S 0 aF G G G<|sr 1 rfl<|sE ?_;clear H a;intro a H
   refine k4 _ ?_;clear k4 K4
   refine wp_ret ?_
   refine ret1 (fn:=Try.f66) rfl H rfl ?_
   exact ⟨rfl,(S.sel [0] G G)⟩
  ·skip
   have S1:=(S.sel [0] G G)
   refine aA H G G Try.func81 G G (jP up empty pull drag motor br BA bcp sp slo shi sfail mb v t _ _ S1.startR (hb.nowR S1) hesc hstp) ?_;clear H a
   rintro _ _ a ⟨rfl,S2⟩ H
   replace S:=(S.sel [0] G G).callR (M:=[_]) S2;clear S1 S2
   refine wpList_nil (And.intro (Or.inr (S.sel [0] G G)) ?_)
   refine aK rfl ?_
   refine ls 1 H<|sl S 0 aF G G G<|sE ?_;clear H a;intro a H
   refine wpList_nil (And.intro (Or.inr (S.sel [0] G G)) ?_)
   refine aK rfl ?_
   refine aA H G G Try.func80 G G (iJ up empty pull drag motor br BA bcp v x _ _ hesc (by omega) (by omega) (by omega)) ?_;clear H a
   rintro _ _ a ⟨rfl,S2⟩ H
   replace S:=S.call S2;clear S2
   refine wpList_nil (And.intro (Or.inr (S.sel [0] G G)) ?_)
   refine aP H G G (fun _=>bD rfl) ?_;clear H a;intro a H
   refine aP H G G (fun _=>(aE bZ rfl)) ?_;clear H a;intro a H
   refine aK rfl ?_
   refine aD H S (i:=0) G G G G aX G G ?_
   clear H a S;intro _ a S H
   refine wpList_nil (And.intro (Or.inl rfl) ?_)
   refine bE ?_
   refine k2 _ _ ?_
   clear k2 K2
   replace H:=H.keep [0] rfl
   refine aB fun K5 k5=>?_
   refine ls 7 H<|sr 2 rfl<|sf cT rfl<|sl S 0 aF G G G<|sd (aH G G (by unfold i64ok;omega))<|sr 1 rfl<|sf cT rfl<|sE ?_;clear H a;intro a H
   refine aD H S (i:=0) G G G G aX G G ?_
   clear H a S;intro _ a S H
   refine k5 _ _ ?_;clear k5 K5
   replace H:=H.keep [0] rfl
   refine sS H fun K6 k6=>sr 2 rfl<|sf bZ rfl<|sl S 0 aF G G G<|sr 1 rfl<|sE ?_;clear H a;intro a H
   refine k6 _ ?_;clear k6 K6
   refine wp_ret ?_
   refine ret1 (fn:=Try.f66) rfl H rfl ?_
   exact ⟨rfl,(S.sel [0] G G)⟩
 ·skip
  refine ls 1 H<|sl S 0 aF G G G<|sE ?_;clear H a;intro a H
  refine wpList_nil (And.intro (Or.inr (S.sel [0] G G)) ?_)
  refine cZ G G ?_ ?_
  ·skip
   refine ls 1 H<|sd ((aC fO iB rfl S (i:=0) G G))<|sE ?_;clear H a;intro a H
   refine wpList_nil (And.intro (Or.inr (S.sel [0] G G)) ?_)
   refine aK rfl ?_
   have S1:=(S.sel [0] G G)
   refine aA H G G Try.func81 G G (jP up empty pull drag motor br BA bcp sp slo shi sfail mb v t _ _ S1.startR (hb.nowR S1) hesc hstp) ?_;clear H a
   rintro _ _ a ⟨rfl,S2⟩ H
   replace S:=(S.sel [0] G G).callR (M:=[_]) S2;clear S1 S2
   refine wpList_nil (And.intro (Or.inr (S.sel [0] G G)) ?_)
   refine aK rfl ?_
   refine aA H G G Try.func80 G G (iJ up empty pull drag motor br BA bcp v x _ _ hesc (by omega) (by omega) (by omega)) ?_;clear H a
   rintro _ _ a ⟨rfl,S2⟩ H
   replace S:=S.call S2;clear S2
   refine wpList_nil (And.intro (Or.inr (S.sel [0] G G)) ?_)
   refine aP H G G (fun _=>bD rfl) ?_;clear H a;intro a H
   refine aP H G G (fun _=>(aE bZ rfl)) ?_;clear H a;intro a H
   refine aK rfl ?_
   refine aD H S (i:=0) G G G G aX G G ?_
   clear H a S;intro _ a S H
   refine wpList_nil (And.intro (Or.inl rfl) ?_)
   refine bE ?_
   refine k2 _ _ ?_
   clear k2 K2
   replace H:=H.keep [0] rfl
   refine aB fun K7 k7=>?_
   refine ls 7 H<|sr 2 rfl<|sf cT rfl<|sl S 0 aF G G G<|sd (aH G G (by unfold i64ok;omega))<|sr 1 rfl<|sf cT rfl<|sE ?_;clear H a;intro a H
   refine aD H S (i:=0) G G G G aX G G ?_
   clear H a S;intro _ a S H
   refine k7 _ _ ?_;clear k7 K7
   replace H:=H.keep [0] rfl
   refine sS H fun K8 k8=>sr 2 rfl<|sf bZ rfl<|sl S 0 aF G G G<|sr 1 rfl<|sE ?_;clear H a;intro a H
   refine k8 _ ?_;clear k8 K8
   refine wp_ret ?_
   refine ret1 (fn:=Try.f66) rfl H rfl ?_
   exact ⟨rfl,(S.sel [0] G G)⟩
  ·skip
   have S1:=(S.sel [0] G G)
   refine aA H G G Try.func81 G G (jP up empty pull drag motor br BA bcp sp slo shi sfail mb v t _ _ S1.startR (hb.nowR S1) hesc hstp) ?_;clear H a
   rintro _ _ a ⟨rfl,S2⟩ H
   replace S:=(S.sel [0] G G).callR (M:=[_]) S2;clear S1 S2
   refine wpList_nil (And.intro (Or.inr (S.sel [0] G G)) ?_)
   refine aK rfl ?_
   refine ls 1 H<|sd ((aC fO iB rfl S (i:=0) G G))<|sE ?_;clear H a;intro a H
   refine wpList_nil (And.intro (Or.inr (S.sel [0] G G)) ?_)
   refine aK rfl ?_
   refine aA H G G Try.func80 G G (iJ up empty pull drag motor br BA bcp v x _ _ hesc (by omega) (by omega) (by omega)) ?_;clear H a
   rintro _ _ a ⟨rfl,S2⟩ H
   replace S:=S.call S2;clear S2
   refine wpList_nil (And.intro (Or.inr (S.sel [0] G G)) ?_)
   refine aP H G G (fun _=>bD rfl) ?_;clear H a;intro a H
   refine aP H G G (fun _=>(aE bZ rfl)) ?_;clear H a;intro a H
   refine aK rfl ?_
   refine aD H S (i:=0) G G G G aX G G ?_
   clear H a S;intro _ a S H
   refine wpList_nil (And.intro (Or.inl rfl) ?_)
   refine bE ?_
   refine k2 _ _ ?_
   clear k2 K2
   replace H:=H.keep [0] rfl
   refine aB fun K9 k9=>?_
   refine ls 7 H<|sr 2 rfl<|sf cT rfl<|sl S 0 aF G G G<|sd (aH G G (by unfold i64ok;omega))<|sr 1 rfl<|sf cT rfl<|sE ?_;clear H a;intro a H
   refine aD H S (i:=0) G G G G aX G G ?_
   clear H a S;intro _ a S H
   refine k9 _ _ ?_;clear k9 K9
   replace H:=H.keep [0] rfl
   refine sS H fun K10 k10=>sr 2 rfl<|sf bZ rfl<|sl S 0 aF G G G<|sr 1 rfl<|sE ?_;clear H a;intro a H
   refine k10 _ ?_;clear k10 K10
   refine wp_ret ?_
   refine ret1 (fn:=Try.f66) rfl H rfl ?_
   exact ⟨rfl,(S.sel [0] G G)⟩
 ·skip
  have S1:=(S.sel [0] G G)
  refine aA H G G Try.func81 G G (jP up empty pull drag motor br BA bcp sp slo shi sfail mb v t _ _ S1.startR (hb.nowR S1) hesc hstp) ?_;clear H a
  rintro _ _ a ⟨rfl,S2⟩ H
  replace S:=(S.sel [0] G G).callR (M:=[_]) S2;clear S1 S2
  refine wpList_nil (And.intro (Or.inr (S.sel [0] G G)) ?_)
  refine cZ G G ?_ ?_
  ·skip
   refine ls 1 H<|sd ((aC fO iB rfl S (i:=0) G G))<|sE ?_;clear H a;intro a H
   refine wpList_nil (And.intro (Or.inr (S.sel [0] G G)) ?_)
   refine aK rfl ?_
   refine ls 1 H<|sl S 0 aF G G G<|sE ?_;clear H a;intro a H
   refine wpList_nil (And.intro (Or.inr (S.sel [0] G G)) ?_)
   refine aK rfl ?_
   refine aA H G G Try.func80 G G (iJ up empty pull drag motor br BA bcp v x _ _ hesc (by omega) (by omega) (by omega)) ?_;clear H a
   rintro _ _ a ⟨rfl,S2⟩ H
   replace S:=S.call S2;clear S2
   refine wpList_nil (And.intro (Or.inr (S.sel [0] G G)) ?_)
   refine aP H G G (fun _=>bD rfl) ?_;clear H a;intro a H
   refine aP H G G (fun _=>(aE bZ rfl)) ?_;clear H a;intro a H
   refine aK rfl ?_
   refine aD H S (i:=0) G G G G aX G G ?_
   clear H a S;intro _ a S H
   refine wpList_nil (And.intro (Or.inl rfl) ?_)
   refine bE ?_
   refine k2 _ _ ?_
   clear k2 K2
   replace H:=H.keep [0] rfl
   refine aB fun K11 k11=>?_
   refine ls 7 H<|sr 2 rfl<|sf cT rfl<|sl S 0 aF G G G<|sd (aH G G (by unfold i64ok;omega))<|sr 1 rfl<|sf cT rfl<|sE ?_;clear H a;intro a H
   refine aD H S (i:=0) G G G G aX G G ?_
   clear H a S;intro _ a S H
   refine k11 _ _ ?_;clear k11 K11
   replace H:=H.keep [0] rfl
   refine sS H fun K12 k12=>sr 2 rfl<|sf bZ rfl<|sl S 0 aF G G G<|sr 1 rfl<|sE ?_;clear H a;intro a H
   refine k12 _ ?_;clear k12 K12
   refine wp_ret ?_
   refine ret1 (fn:=Try.f66) rfl H rfl ?_
   exact ⟨rfl,(S.sel [0] G G)⟩
  ·skip
   refine ls 1 H<|sl S 0 aF G G G<|sE ?_;clear H a;intro a H
   refine wpList_nil (And.intro (Or.inr (S.sel [0] G G)) ?_)
   refine aK rfl ?_
   refine ls 1 H<|sd ((aC fO iB rfl S (i:=0) G G))<|sE ?_;clear H a;intro a H
   refine wpList_nil (And.intro (Or.inr (S.sel [0] G G)) ?_)
   refine aK rfl ?_
   refine aA H G G Try.func80 G G (iJ up empty pull drag motor br BA bcp v x _ _ hesc (by omega) (by omega) (by omega)) ?_;clear H a
   rintro _ _ a ⟨rfl,S2⟩ H
   replace S:=S.call S2;clear S2
   refine wpList_nil (And.intro (Or.inr (S.sel [0] G G)) ?_)
   refine aP H G G (fun _=>bD rfl) ?_;clear H a;intro a H
   refine aP H G G (fun _=>(aE bZ rfl)) ?_;clear H a;intro a H
   refine aK rfl ?_
   refine aD H S (i:=0) G G G G aX G G ?_
   clear H a S;intro _ a S H
   refine wpList_nil (And.intro (Or.inl rfl) ?_)
   refine bE ?_
   refine k2 _ _ ?_
   clear k2 K2
   replace H:=H.keep [0] rfl
   refine aB fun K13 k13=>?_
   refine ls 7 H<|sr 2 rfl<|sf cT rfl<|sl S 0 aF G G G<|sd (aH G G (by unfold i64ok;omega))<|sr 1 rfl<|sf cT rfl<|sE ?_;clear H a;intro a H
   refine aD H S (i:=0) G G G G aX G G ?_
   clear H a S;intro _ a S H
   refine k13 _ _ ?_;clear k13 K13
   replace H:=H.keep [0] rfl
   refine sS H fun K14 k14=>sr 2 rfl<|sf bZ rfl<|sl S 0 aF G G G<|sr 1 rfl<|sE ?_;clear H a;intro a H
   refine k14 _ ?_;clear k14 K14
   refine wp_ret ?_
   refine ret1 (fn:=Try.f66) rfl H rfl ?_
   exact ⟨rfl,(S.sel [0] G G)⟩
end
section
theorem nB (up:Bool) (empty pull drag motor:Int) (br:List Brake) (BA:Option Addr) (bcp:Nat) (sp slo shi sfail:Int) (mb:Nat) (v:Int) (t:Nat) (most:Bool) (w:World) (F:Nat→Prop) (S:St w F [boxM mb 120 [.bool up,.int .i64 empty,.int .i64 pull,.int .i64 drag,.int .i64 motor,.slice BA br.length bcp,.int .i64 sp,.int .i64 slo,.int .i64 shi,.int .i64 sfail,.int .i64 (v),.int .i64 (t:Int)]] w) (hb:InS w F 2 BA br.length (bcell br)) (hesc:escOk (⟨up,empty,pull,drag,motor,br⟩:Esc)=true) (hstp:stpOk (⟨up,empty,pull,drag,motor,br⟩:Esc) (⟨sp,slo,shi,sfail⟩:Stp)=true) (ht:t≤1000) (hv : -900000000000≤v∧v≤900000000000) :
    Calls Try.prog 55 [.pointer (some ⟨mb,0,none⟩),.bool most].toArray w (Ret (fun u w'=>∃ n:Int,u = .int .i64 n∧St w F [boxM mb 120 [.bool up,.int .i64 empty,.int .i64 pull,.int .i64 drag,.int .i64 motor,.slice BA br.length bcp,.int .i64 sp,.int .i64 slo,.int .i64 shi,.int .i64 sfail,.int .i64 (extI (⟨up,empty,pull,drag,motor,br⟩:Esc) (⟨sp,slo,shi,sfail⟩:Stp) most v (t:Int)),.int .i64 ((t:Int)+1)]] w')):=by
 have hE:=cK hesc
 dsimp only at hE
 obtain ⟨hE1,hE2,hE3,hE4,hE5⟩:=hE
 have hS1:=hstp;unfold stpOk at hS1;simp only [decide_eq_true_eq] at hS1
 refine enter Try.func55 rfl Try.ntmps55 rfl (fun a H=>?_)
 skip
 refine sS H fun K1 k1=>sr 1 rfl<|sE ?_;clear H a;intro a H
 refine k1 _ ?_;clear k1 K1
 replace H:=H.keep [0,1] rfl
 replace S:=S.drew
 refine iM 999999 (.q 0 (.q 1 (.q 2 (.q 3 (.q 4 (.q 5 (.b2 6 (.e 7 (.e 8 (.e 9 .nil))) 7 (.e 6 (.e 8 (.e 9 .nil)))))))))) (by kernel_rfl) (by kernel_rfl) (S.sel [0] G G) fun K2 k2=>?_
 refine aM H G G (fun _ S=>aT rfl) ?_;clear H a;intro a H
 refine aM H G G (fun _ S=>bD rfl) ?_;clear H a;intro a H
 refine aM H G G (fun _ S=>(aC jR eE rfl S (i:=0) G G)) ?_;clear H a;intro a H
 refine aM H G G (fun _ S=>aT rfl) ?_;clear H a;intro a H
 refine aM H G G (fun _ S=>bD rfl) ?_;clear H a;intro a H
 refine aM H G G (fun _ S=>(aC jR eE rfl S (i:=0) G G)) ?_;clear H a;intro a H
 refine cZ G G ?_ ?_
 ·skip
  refine aJ H rfl S mG ?_;clear H a S;intro b5 _ a hb5 hbw5 S H
  refine wpList_nil (And.intro (Or.inr (S.sel [1] G G)) ?_)
  refine aK rfl ?_
  refine aJ H rfl S mG ?_;clear H a S;intro b6 _ a hb6 hbw6 S H
  refine wpList_nil (And.intro (Or.inr (S.sel [2] G G)) ?_)
  refine aK rfl ?_
  refine aD H S (i:=1) G G G G eE G G ?_
  clear H a S;intro _ a S H
  refine wpList_nil (And.intro (Or.inr (S.sel [2] G G)) ?_)
  refine aK rfl ?_
  refine aD H S (i:=0) G G G G eE G G ?_
  clear H a S;intro _ a S H
  refine wpList_nil (And.intro (Or.inr (S.sel [2] G G)) ?_)
  refine bE ?_
  refine k2 _ _ ?_
  clear k2 K2
  replace H:=H.keep [0,1,5,6] rfl
  replace S:=S.drew
  refine cD [(0,true),(1,true),(2,true),(3,true),(4,true),(5,true),(7,true),(8,true),(9,true),(10,true),(11,true),(12,true),(6,false),(13,false),(14,true),(15,true)] (by kernel_rfl) (by kernel_rfl) (S.sel [2] G G) fun K3 k3=>?_
  refine qF H<|qr 2 rfl<|qd rfl (fun _ S=>(aE eP rfl))<|qd rfl (fun _ S=>(aE bM rfl))<|qd rfl (fun _ S=>(aE cW rfl))<|qd rfl (fun _ S=>aG aF rfl (boxM.rd S (i:=0) G G))<|qr 2 rfl<|qd rfl (fun _ S=>(aE eP rfl))<|qd rfl (fun _ S=>(aE bM rfl))<|qd rfl (fun _ S=>(aE dJ rfl))<|qd rfl (fun _ S=>aG aF rfl (boxM.rd S (i:=0) G G))<|qK ?_;clear H a;intro a H
  refine aU rfl ?_
  have S1:=(S.sel [1] G G)
  refine aA H G G Try.func66 G G (lW up empty pull drag motor br BA bcp sp slo shi sfail b5 v t slo _ _ S1.startR (hb.nowR S1) hesc hstp (by omega) (by omega) (by omega)) ?_;clear H a
  rintro _ _ a ⟨rfl,S2⟩ H
  replace S:=(S.sel [1,0,2] G G).callR (M:=[_]) S2;clear S1 S2
  refine wpList_nil (And.intro (S.sel [2] G G) ?_)
  refine aU rfl ?_
  have S1:=(S.sel [1] G G)
  refine aA H G G Try.func66 G G (lW up empty pull drag motor br BA bcp sp slo shi sfail b6 v t shi _ _ S1.startR (hb.nowR S1) hesc hstp (by omega) (by omega) (by omega)) ?_;clear H a
  rintro _ _ a ⟨rfl,S2⟩ H
  replace S:=(S.sel [1,0,2] G G).callR (M:=[_]) S2;clear S1 S2
  refine wpList_nil (And.intro (S.sel [2] G G) ?_)
  refine qF H<|qr 2 rfl<|qK ?_;clear H a;intro a H
  refine bV ?_
  refine k3 _ _ ?_
  clear k3 K3
  refine wp_seq_k fun K4 k4=>?_
  replace H:=H.keep [0,1,5,6,7,8] rfl
  refine sS H fun K5 k5=>sr 2 rfl<|sg 3 1 30 33 true G G (fun hg2=>sy hg2<|sr 1 rfl<|sy hg2<|sr 1 rfl<|sy hg2<|sr 1 rfl<|sz 3 G G G)<|sa G G G<|sr 1 rfl<|sg 7 6 35 42 false G G (fun hg7=>sy hg7<|sr 1 rfl<|sy hg7<|sr 1 rfl<|sy hg7<|sr 1 rfl<|sg 3 9 38 41 true G G (fun hg10=>sy hg10<|sr 1 rfl<|sy hg10<|sr 1 rfl<|sy hg10<|sr 1 rfl<|sz 3 G G G)<|sy hg7<|sa G G G<|sz 5 G G G)<|so G G G<|sE ?_;clear H a;intro a H
  refine k5 _ ?_;clear k5 K5
  refine aQ H rfl (fun hc1=>?_) (fun hc1=>?_)
  ·skip
   try simp only [o1,o2,o3,o4,o5,o6,o7,o8,o9,oa] at hc1
   have hcx:=hc1
   replace H:=H.keep [0,6] rfl
   refine aB fun K6 k6=>?_
   refine ls 3 H<|sr 1 rfl<|sd ((aC jR eE rfl S (i:=0) G G))<|sr 1 rfl<|sE ?_;clear H a;intro a H
   refine aD H S (i:=2) G G G G eE G G ?_
   clear H a S;intro _ a S H
   refine k6 _ _ ?_;clear k6 K6
   replace H:=H.keep [0] rfl
   refine sS H fun K7 k7=>sr 2 rfl<|sf eP rfl<|sf bM rfl<|sf dJ rfl<|sl S 2 aF G G G<|sr 1 rfl<|sE ?_;clear H a;intro a H
   refine k7 _ ?_;clear k7 K7
   refine wp_ret ?_
   refine ret1 (fn:=Try.f55) rfl H rfl ?_
   first|(rw [sJ (by cases most <;> simp at hcx ⊢ <;> omega)];exact ⟨_,rfl,(S.sel [2] G G)⟩)|(rw [sK (by cases most <;> simp at hcx ⊢ <;> omega)];exact ⟨_,rfl,(S.sel [2] G G)⟩)
  try simp only [o1,o2,o3,o4,o5,o6,o7,o8,o9,oa] at hc1
  have hcx:=hc1
  refine wp_skip ?_
  refine k4 _ _ ?_
  replace H:=H.keep [0,5] rfl
  refine aB fun K8 k8=>?_
  refine ls 3 H<|sr 1 rfl<|sd ((aC jR eE rfl S (i:=1) G G))<|sr 1 rfl<|sE ?_;clear H a;intro a H
  refine aD H S (i:=2) G G G G eE G G ?_
  clear H a S;intro _ a S H
  refine k8 _ _ ?_;clear k8 K8
  replace H:=H.keep [0] rfl
  refine sS H fun K9 k9=>sr 2 rfl<|sf eP rfl<|sf bM rfl<|sf cW rfl<|sl S 2 aF G G G<|sr 1 rfl<|sE ?_;clear H a;intro a H
  refine k9 _ ?_;clear k9 K9
  refine wp_ret ?_
  refine ret1 (fn:=Try.f55) rfl H rfl ?_
  first|(rw [sJ (by cases most <;> simp at hcx ⊢ <;> omega)];exact ⟨_,rfl,(S.sel [2] G G)⟩)|(rw [sK (by cases most <;> simp at hcx ⊢ <;> omega)];exact ⟨_,rfl,(S.sel [2] G G)⟩)
 ·skip
  refine aJ H rfl S mG ?_;clear H a S;intro b6 _ a hb6 hbw6 S H
  refine wpList_nil (And.intro (Or.inr (S.sel [1] G G)) ?_)
  refine aK rfl ?_
  refine aJ H rfl S mG ?_;clear H a S;intro b5 _ a hb5 hbw5 S H
  refine wpList_nil (And.intro (Or.inr (S.sel [2] G G)) ?_)
  refine aK rfl ?_
  refine aD H S (i:=0) G G G G eE G G ?_
  clear H a S;intro _ a S H
  refine wpList_nil (And.intro (Or.inr (S.sel [2] G G)) ?_)
  refine aK rfl ?_
  refine aD H S (i:=1) G G G G eE G G ?_
  clear H a S;intro _ a S H
  refine wpList_nil (And.intro (Or.inr (S.sel [2] G G)) ?_)
  refine bE ?_
  refine k2 _ _ ?_
  clear k2 K2
  replace H:=H.keep [0,1,5,6] rfl
  replace S:=S.drew
  refine cD [(0,true),(1,true),(2,true),(3,true),(4,true),(5,true),(7,true),(8,true),(9,true),(10,true),(11,true),(12,true),(6,false),(13,false),(14,true),(15,true)] (by kernel_rfl) (by kernel_rfl) (S.sel [2] G G) fun K10 k10=>?_
  refine qF H<|qr 2 rfl<|qd rfl (fun _ S=>(aE eP rfl))<|qd rfl (fun _ S=>(aE bM rfl))<|qd rfl (fun _ S=>(aE cW rfl))<|qd rfl (fun _ S=>aG aF rfl (boxM.rd S (i:=0) G G))<|qr 2 rfl<|qd rfl (fun _ S=>(aE eP rfl))<|qd rfl (fun _ S=>(aE bM rfl))<|qd rfl (fun _ S=>(aE dJ rfl))<|qd rfl (fun _ S=>aG aF rfl (boxM.rd S (i:=0) G G))<|qK ?_;clear H a;intro a H
  refine aU rfl ?_
  have S1:=(S.sel [0] G G)
  refine aA H G G Try.func66 G G (lW up empty pull drag motor br BA bcp sp slo shi sfail b5 v t slo _ _ S1.startR (hb.nowR S1) hesc hstp (by omega) (by omega) (by omega)) ?_;clear H a
  rintro _ _ a ⟨rfl,S2⟩ H
  replace S:=(S.sel [0,1,2] G G).callR (M:=[_]) S2;clear S1 S2
  refine wpList_nil (And.intro (S.sel [2] G G) ?_)
  refine aU rfl ?_
  have S1:=(S.sel [1] G G)
  refine aA H G G Try.func66 G G (lW up empty pull drag motor br BA bcp sp slo shi sfail b6 v t shi _ _ S1.startR (hb.nowR S1) hesc hstp (by omega) (by omega) (by omega)) ?_;clear H a
  rintro _ _ a ⟨rfl,S2⟩ H
  replace S:=(S.sel [1,0,2] G G).callR (M:=[_]) S2;clear S1 S2
  refine wpList_nil (And.intro (S.sel [2] G G) ?_)
  refine qF H<|qr 2 rfl<|qK ?_;clear H a;intro a H
  refine bV ?_
  refine k10 _ _ ?_
  clear k10 K10
  refine wp_seq_k fun K11 k11=>?_
  replace H:=H.keep [0,1,5,6,7,8] rfl
  refine sS H fun K12 k12=>sr 2 rfl<|sg 3 1 30 33 true G G (fun hg2=>sy hg2<|sr 1 rfl<|sy hg2<|sr 1 rfl<|sy hg2<|sr 1 rfl<|sz 3 G G G)<|sa G G G<|sr 1 rfl<|sg 7 6 35 42 false G G (fun hg7=>sy hg7<|sr 1 rfl<|sy hg7<|sr 1 rfl<|sy hg7<|sr 1 rfl<|sg 3 9 38 41 true G G (fun hg10=>sy hg10<|sr 1 rfl<|sy hg10<|sr 1 rfl<|sy hg10<|sr 1 rfl<|sz 3 G G G)<|sy hg7<|sa G G G<|sz 5 G G G)<|so G G G<|sE ?_;clear H a;intro a H
  refine k12 _ ?_;clear k12 K12
  refine aQ H rfl (fun hc2=>?_) (fun hc2=>?_)
  ·skip
   try simp only [o1,o2,o3,o4,o5,o6,o7,o8,o9,oa] at hc2
   have hcx:=hc2
   replace H:=H.keep [0,6] rfl
   refine aB fun K13 k13=>?_
   refine ls 3 H<|sr 1 rfl<|sd ((aC jR eE rfl S (i:=0) G G))<|sr 1 rfl<|sE ?_;clear H a;intro a H
   refine aD H S (i:=2) G G G G eE G G ?_
   clear H a S;intro _ a S H
   refine k13 _ _ ?_;clear k13 K13
   replace H:=H.keep [0] rfl
   refine sS H fun K14 k14=>sr 2 rfl<|sf eP rfl<|sf bM rfl<|sf dJ rfl<|sl S 2 aF G G G<|sr 1 rfl<|sE ?_;clear H a;intro a H
   refine k14 _ ?_;clear k14 K14
   refine wp_ret ?_
   refine ret1 (fn:=Try.f55) rfl H rfl ?_
   first|(rw [sJ (by cases most <;> simp at hcx ⊢ <;> omega)];exact ⟨_,rfl,(S.sel [2] G G)⟩)|(rw [sK (by cases most <;> simp at hcx ⊢ <;> omega)];exact ⟨_,rfl,(S.sel [2] G G)⟩)
  try simp only [o1,o2,o3,o4,o5,o6,o7,o8,o9,oa] at hc2
  have hcx:=hc2
  refine wp_skip ?_
  refine k11 _ _ ?_
  replace H:=H.keep [0,5] rfl
  refine aB fun K15 k15=>?_
  refine ls 3 H<|sr 1 rfl<|sd ((aC jR eE rfl S (i:=1) G G))<|sr 1 rfl<|sE ?_;clear H a;intro a H
  refine aD H S (i:=2) G G G G eE G G ?_
  clear H a S;intro _ a S H
  refine k15 _ _ ?_;clear k15 K15
  replace H:=H.keep [0] rfl
  refine sS H fun K16 k16=>sr 2 rfl<|sf eP rfl<|sf bM rfl<|sf cW rfl<|sl S 2 aF G G G<|sr 1 rfl<|sE ?_;clear H a;intro a H
  refine k16 _ ?_;clear k16 K16
  refine wp_ret ?_
  refine ret1 (fn:=Try.f55) rfl H rfl ?_
  first|(rw [sJ (by cases most <;> simp at hcx ⊢ <;> omega)];exact ⟨_,rfl,(S.sel [2] G G)⟩)|(rw [sK (by cases most <;> simp at hcx ⊢ <;> omega)];exact ⟨_,rfl,(S.sel [2] G G)⟩)
theorem sM {e:Esc} {s:Stp} {m:Bool} {g:Nat} {v t:Int} (hg:0<g) (hv:v≠0):goI e s m g v t=(extI e s m v t+(goI e s m (g-1) (extI e s m v t) (t+1)).1,(goI e s m (g-1) (extI e s m v t) (t+1)).2):=by
  obtain ⟨n,rfl⟩:∃ n,g=n+1:=⟨g-1,by omega⟩
  rw [goI,if_neg hv,Nat.add_sub_cancel]
theorem Gx {e:Esc} {s:Stp} {m:Bool} {g:Nat} {v t:Int} (h:v=0∨g=0):goI e s m g v t=(0,decide (v=0)):=by
  cases g with
  | zero=>rfl
  | succ n=>
    rcases h with h|h
    · rw [goI,if_pos h,decide_eq_true h]
    · cases h
theorem Jr {e:Esc} {s:Stp} {m:Bool} {v t B:Int} (he:escOk e=true) (hs:stpOk e s=true) (hv : -B≤v∧v≤B) : -(B+50000000)≤extI e s m v t∧extI e s m v t≤B+50000000:=by
  have hS:=hs;unfold stpOk at hS;simp only [decide_eq_true_eq] at hS
  have hq:e.br.all eU=true:=by unfold escOk at he;simp only [Bool.and_eq_true] at he;exact he.2
  have hgb:=sH (fail:=s.fail) (t:=t) hq e.br.length (Nat.le_refl _)
  have hE:=(cK he).1
  have hgr:0≤gripI e s t∧gripI e s t≤30000000:=by unfold gripI;omega
  rcases Jp (e:=e) (s:=s) (m:=m) (v:=v) (t:=t) with h|h
  · rw [h];exact xY he (by omega) hgr hv
  · rw [h];exact xY he (by omega) hgr hv
theorem cX (up:Bool) (empty pull drag motor:Int) (br:List Brake) (BA:Option Addr) (bcp:Nat) (sp slo shi sfail:Int) (most:Bool) (w:World) (hb:InS w noF 2 BA br.length (bcell br)) (hbn:br.length≤9223372036854775807) (hesc:escOk (⟨up,empty,pull,drag,motor,br⟩:Esc)=true) (hstp:stpOk (⟨up,empty,pull,drag,motor,br⟩:Esc) (⟨sp,slo,shi,sfail⟩:Stp)=true) :
    Calls Try.prog 35 [.agg [.bool up,.int .i64 empty,.int .i64 pull,.int .i64 drag,.int .i64 motor,.slice BA br.length bcp].toArray,.agg [.int .i64 sp,.int .i64 slo,.int .i64 shi,.int .i64 sfail].toArray,.bool most].toArray w (Ret (fun u w'=>∃ A' n c' f,u = .agg [.int .i64 (goI (⟨up,empty,pull,drag,motor,br⟩:Esc) (⟨sp,slo,shi,sfail⟩:Stp) most 100 sp 0).1,.slice A' n c',.bool (goI (⟨up,empty,pull,drag,motor,br⟩:Esc) (⟨sp,slo,shi,sfail⟩:Stp) most 100 sp 0).2].toArray∧St w noF [ownM 3 1 A' n c' f] w')):=by
 have hE:=cK hesc
 dsimp only at hE
 obtain ⟨hE1,hE2,hE3,hE4,hE5⟩:=hE
 have hS1:=hstp;unfold stpOk at hS1;simp only [decide_eq_true_eq] at hS1
 have hmx:maxLen=9223372036854775807:=rfl
 refine enter Try.func35 rfl Try.ntmps35 rfl (fun a H=>?_)
 have S:=St.start w
 refine aB fun K1 k1=>?_
 refine aS H rfl S G G ?_;clear H a S;intro b3 _ a hb3 hbw3 S H
 refine aS H rfl S G G ?_;clear H a S;intro b4 _ a hb4 hbw4 S H
 refine aJ H rfl S dW ?_;clear H a S;intro b6 _ a hb6 hbw6 S H
 refine k1 _ _ ?_;clear k1 K1
 replace H:=H.keep [2,3,4,6] rfl
 refine aB fun K2 k2=>?_
 refine ls 5 H<|sd ((aC fO iB rfl S (i:=2) G G))<|sd ((aC oB pW rfl S (i:=1) G G))<|sf fW rfl<|sl S 1 aF G G G<|sd (aO Ij G G)<|sE ?_;clear H a;intro a H
 refine aJ H rfl S mG ?_;clear H a S;intro b7 _ a hb7 hbw7 S H
 refine aD H S (i:=0) G G G G eE G G ?_
 clear H a S;intro _ a S H
 refine k2 _ _ ?_;clear k2 K2
 replace H:=H.keep [2,4,6,7] rfl
 refine aB fun K3 k3=>?_
 refine ls 4 H<|sf fW rfl<|sl S 2 aF G G G<|sr 1 rfl<|sd (aO Kw G G)<|sE ?_;clear H a;intro a H
 refine aJ H rfl S dW ?_;clear H a S;intro b8 _ a hb8 hbw8 S H
 refine aD H S (i:=0) G G G G cU G G ?_
 clear H a S;intro _ a S H
 refine k3 _ _ ?_;clear k3 K3
 refine wp_seq_k fun K4 k4=>?_
 refine wp_block ?_
 replace S:=S.newNil 3 1 (fun _ _=>undef)
 refine loop_st (X:=Int×Nat×Int×Option Addr×Nat×(Nat→Nat→Value)) (R0:=_) [2,6,7,8] H rfl (fun ⟨v,t,way,A',c',f'⟩=>[]) (fun ⟨v,t,way,A',c',f'⟩=>[boxM b7 120 [.bool up,.int .i64 empty,.int .i64 pull,.int .i64 drag,.int .i64 motor,.slice BA br.length bcp,.int .i64 sp,.int .i64 slo,.int .i64 shi,.int .i64 sfail,.int .i64 (v),.int .i64 (t:Int)],boxM b8 95 [.int .i64 way,.slice A' t c',.bool (decide (v=0))],ownM 3 1 A' t c' f']) (fun g ⟨v,t,way,A',c',f'⟩=>t≤100∧g+t=100∧(-(1000+50000000*(t:Int))≤v∧v≤1000+50000000*(t:Int))∧(-(6000000000*(t:Int))≤way∧way≤6000000000*(t:Int))∧way+(goI (⟨up,empty,pull,drag,motor,br⟩:Esc) (⟨sp,slo,shi,sfail⟩:Stp) most g v t).1=(goI (⟨up,empty,pull,drag,motor,br⟩:Esc) (⟨sp,slo,shi,sfail⟩:Stp) most 100 sp 0).1∧(goI (⟨up,empty,pull,drag,motor,br⟩:Esc) (⟨sp,slo,shi,sfail⟩:Stp) most g v t).2=(goI (⟨up,empty,pull,drag,motor,br⟩:Esc) (⟨sp,slo,shi,sfail⟩:Stp) most 100 sp 0).2) (100) (sp,0,0,none,0,fun _ _=>undef) ?_ (S.sel [2,1,0,3,4,5] G G) (H.keep [2,6,7,8] rfl) ?_
 · exact ⟨by omega,by omega,by omega,by omega,Int.zero_add _,rfl⟩
 clear H S a
 intro g1 x1 a w1 hp S H K5 k5
 obtain ⟨v,t,way,A',c',f'⟩:=x1
 dsimp only at hp S H
 refine wp_seq_k fun K6 k6=>?_
 refine sS H fun K7 k7=>sf lJ rfl<|sl S 1 lB G G G<|sr 2 rfl<|sg 3 3 21 24 true G G (fun hg4=>sy hg4<|sf cT rfl<|sy hg4<|sl S 0 aF G G G<|sy hg4<|sr 1 rfl<|sz 3 G G G)<|sa G G G<|sE ?_;clear H a;intro a H
 refine k7 _ ?_;clear k7 K7
 refine aQ H rfl (fun hc1=>?_) (fun hc1=>?_)
 ·skip
  try simp only [o1,o2,o3,o4,o5,o6,o7,o8,o9,oa] at hc1
  refine wp_skip ?_
  refine k6 _ _ ?_
  refine wp_block ?_
  have hxb:=Jr (m:=most) (v:=v) (t:=(t:Int)) (B:=1000+50000000*t) hesc hstp (by omega)
  replace H:=H.keep [2,6,7,8] rfl
  replace S:=S.drew
  refine iM 7 (.p 0 (.p 2 (.b2 1 (.e 3 (.e 4 (.e 5 (.p 6 (.e 7 .nil))))) 3 (.b2 1 (.e 4 (.e 5 (.p 6 (.e 7 .nil)))) 4 (.e 1 (.e 5 (.p 6 (.e 7 .nil)))))))) (by kernel_rfl) (by kernel_rfl) (S.sel [3,4,5] G G) fun K8 k8=>?_
  refine aP H G G (fun _=>(aE jX rfl)) ?_;clear H a;intro a H
  refine aP H G G (fun _=>aT rfl) ?_;clear H a;intro a H
  refine cZ G G ?_ ?_
  ·skip
   refine ls 1 H<|sl S 1 aZ G G G<|sE ?_;clear H a;intro a H
   refine wpList_nil (And.intro (Or.inr (S.sel [3,4,5] G G)) ?_)
   refine aK rfl ?_
   have S1:=(S.sel [0] G G)
   refine aA H G G Try.func55 G G (nB up empty pull drag motor br BA bcp sp slo shi sfail b7 v t most _ _ S1.startR (hb.nowR S1) hesc hstp (by omega) (by omega)) ?_;clear H a
   rintro _ _ a ⟨nl,rfl,S2⟩ H
   replace S:=(S.sel [0,1,2,3,4,5] G G).callR (M:=[_]) S2;clear S1 S2
   refine wpList_nil (And.intro (Or.inr (S.sel [3,4,5] G G)) ?_)
   refine aK rfl ?_
   refine aY H rfl S aN aX eF G G G G G G G G G ?_;clear H a S;intro A1 _ a hA1 S H
   refine wpList_nil (And.intro (Or.inr (S.sel [4,5,6] G G)) ?_)
   refine aK rfl ?_
   refine cI H rfl S aN aX eF lL G G (i:=3) G G G (ownM.inS S (i:=0) rfl) (kM (one rfl)) (by omega) (by omega) ?_;clear H a S;intro A2 c2 _ a S H
   refine wpList_nil (And.intro (Or.inr (S.sel [4,5,6] G G)) ?_)
   refine aP H G G (fun _=>(aE jX rfl)) ?_;clear H a;intro a H
   refine aK rfl ?_
   refine aD H S (i:=2) G G G G tH G G ?_
   clear H a S;intro _ a S H
   refine wpList_nil (And.intro (Or.inl rfl) ?_)
   refine bE ?_
   refine k8 _ _ ?_
   clear k8 K8
   replace H:=H.keep [2,6,7,8] rfl
   refine aB fun K9 k9=>?_
   refine ls 6 H<|sf gS rfl<|sl S 2 aF G G G<|sf bZ rfl<|sl S 1 aF G G G<|sd (aH G G (by unfold i64ok;omega))<|sf gS rfl<|sE ?_;clear H a;intro a H
   refine aD H S (i:=2) G G G G aX G G ?_
   clear H a S;intro _ a S H
   refine k9 _ _ ?_;clear k9 K9
   replace H:=H.keep [2,6,7,8] rfl
   refine bY ?_
   refine ls 4 H<|sf bZ rfl<|sl S 1 aF G G G<|sr 1 rfl<|sf lJ rfl<|sE ?_;clear H a;intro a H
   refine aD H S (i:=2) G G G G Bi G G ?_
   clear H a S;intro _ a S H
   have hgs:=sM (e:=(⟨up,empty,pull,drag,motor,br⟩:Esc)) (s:=(⟨sp,slo,shi,sfail⟩:Stp)) (m:=most) (g:=g1) (v:=v) (t:=(t:Int)) (by omega) (by omega)
   exact k5 (g1-1) (extI (⟨up,empty,pull,drag,motor,br⟩:Esc) (⟨sp,slo,shi,sfail⟩:Stp) most v (t:Int),t+1,way+extI (⟨up,empty,pull,drag,motor,br⟩:Esc) (⟨sp,slo,shi,sfail⟩:Stp) most v (t:Int),_,_,_) a _ (by omega) (⟨by omega,by omega,by omega,by omega,by have h9:=hp.2.2.2.2.1;rw [hgs] at h9;(try dsimp only at h9 ⊢);push_cast;omega,by have h9:=hp.2.2.2.2.2;rw [hgs] at h9;exact h9⟩) (S.sel [1,2,3,4,5,6] G G) (H.keep [2,6,7,8] rfl)
  ·skip
   have S1:=(S.sel [0] G G)
   refine aA H G G Try.func55 G G (nB up empty pull drag motor br BA bcp sp slo shi sfail b7 v t most _ _ S1.startR (hb.nowR S1) hesc hstp (by omega) (by omega)) ?_;clear H a
   rintro _ _ a ⟨nl,rfl,S2⟩ H
   replace S:=(S.sel [0,1,2,3,4,5] G G).callR (M:=[_]) S2;clear S1 S2
   refine wpList_nil (And.intro (Or.inr (S.sel [3,4,5] G G)) ?_)
   refine cZ G G ?_ ?_
   ·skip
    refine ls 1 H<|sl S 1 aZ G G G<|sE ?_;clear H a;intro a H
    refine wpList_nil (And.intro (Or.inr (S.sel [3,4,5] G G)) ?_)
    refine aK rfl ?_
    refine aY H rfl S aN aX eF G G G G G G G G G ?_;clear H a S;intro A3 _ a hA3 S H
    refine wpList_nil (And.intro (Or.inr (S.sel [4,5,6] G G)) ?_)
    refine aK rfl ?_
    refine cI H rfl S aN aX eF lL G G (i:=3) G G G (ownM.inS S (i:=0) rfl) (kM (one rfl)) (by omega) (by omega) ?_;clear H a S;intro A4 c4 _ a S H
    refine wpList_nil (And.intro (Or.inr (S.sel [4,5,6] G G)) ?_)
    refine aP H G G (fun _=>(aE jX rfl)) ?_;clear H a;intro a H
    refine aK rfl ?_
    refine aD H S (i:=2) G G G G tH G G ?_
    clear H a S;intro _ a S H
    refine wpList_nil (And.intro (Or.inl rfl) ?_)
    refine bE ?_
    refine k8 _ _ ?_
    clear k8 K8
    replace H:=H.keep [2,6,7,8] rfl
    refine aB fun K11 k11=>?_
    refine ls 6 H<|sf gS rfl<|sl S 2 aF G G G<|sf bZ rfl<|sl S 1 aF G G G<|sd (aH G G (by unfold i64ok;omega))<|sf gS rfl<|sE ?_;clear H a;intro a H
    refine aD H S (i:=2) G G G G aX G G ?_
    clear H a S;intro _ a S H
    refine k11 _ _ ?_;clear k11 K11
    replace H:=H.keep [2,6,7,8] rfl
    refine bY ?_
    refine ls 4 H<|sf bZ rfl<|sl S 1 aF G G G<|sr 1 rfl<|sf lJ rfl<|sE ?_;clear H a;intro a H
    refine aD H S (i:=2) G G G G Bi G G ?_
    clear H a S;intro _ a S H
    have hgs:=sM (e:=(⟨up,empty,pull,drag,motor,br⟩:Esc)) (s:=(⟨sp,slo,shi,sfail⟩:Stp)) (m:=most) (g:=g1) (v:=v) (t:=(t:Int)) (by omega) (by omega)
    exact k5 (g1-1) (extI (⟨up,empty,pull,drag,motor,br⟩:Esc) (⟨sp,slo,shi,sfail⟩:Stp) most v (t:Int),t+1,way+extI (⟨up,empty,pull,drag,motor,br⟩:Esc) (⟨sp,slo,shi,sfail⟩:Stp) most v (t:Int),_,_,_) a _ (by omega) (⟨by omega,by omega,by omega,by omega,by have h9:=hp.2.2.2.2.1;rw [hgs] at h9;(try dsimp only at h9 ⊢);push_cast;omega,by have h9:=hp.2.2.2.2.2;rw [hgs] at h9;exact h9⟩) (S.sel [1,2,3,4,5,6] G G) (H.keep [2,6,7,8] rfl)
   ·skip
    refine aY H rfl S aN aX eF G G G G G G G G G ?_;clear H a S;intro A5 _ a hA5 S H
    refine wpList_nil (And.intro (Or.inr (S.sel [4,5,6] G G)) ?_)
    refine aK rfl ?_
    refine ls 1 H<|sl S 2 aZ G G G<|sE ?_;clear H a;intro a H
    refine wpList_nil (And.intro (Or.inr (S.sel [4,5,6] G G)) ?_)
    refine aK rfl ?_
    refine cI H rfl S aN aX eF lL G G (i:=3) G G G (ownM.inS S (i:=0) rfl) (kM (one rfl)) (by omega) (by omega) ?_;clear H a S;intro A6 c6 _ a S H
    refine wpList_nil (And.intro (Or.inr (S.sel [4,5,6] G G)) ?_)
    refine aP H G G (fun _=>(aE jX rfl)) ?_;clear H a;intro a H
    refine aK rfl ?_
    refine aD H S (i:=2) G G G G tH G G ?_
    clear H a S;intro _ a S H
    refine wpList_nil (And.intro (Or.inl rfl) ?_)
    refine bE ?_
    refine k8 _ _ ?_
    clear k8 K8
    replace H:=H.keep [2,6,7,8] rfl
    refine aB fun K13 k13=>?_
    refine ls 6 H<|sf gS rfl<|sl S 2 aF G G G<|sf bZ rfl<|sl S 1 aF G G G<|sd (aH G G (by unfold i64ok;omega))<|sf gS rfl<|sE ?_;clear H a;intro a H
    refine aD H S (i:=2) G G G G aX G G ?_
    clear H a S;intro _ a S H
    refine k13 _ _ ?_;clear k13 K13
    replace H:=H.keep [2,6,7,8] rfl
    refine bY ?_
    refine ls 4 H<|sf bZ rfl<|sl S 1 aF G G G<|sr 1 rfl<|sf lJ rfl<|sE ?_;clear H a;intro a H
    refine aD H S (i:=2) G G G G Bi G G ?_
    clear H a S;intro _ a S H
    have hgs:=sM (e:=(⟨up,empty,pull,drag,motor,br⟩:Esc)) (s:=(⟨sp,slo,shi,sfail⟩:Stp)) (m:=most) (g:=g1) (v:=v) (t:=(t:Int)) (by omega) (by omega)
    exact k5 (g1-1) (extI (⟨up,empty,pull,drag,motor,br⟩:Esc) (⟨sp,slo,shi,sfail⟩:Stp) most v (t:Int),t+1,way+extI (⟨up,empty,pull,drag,motor,br⟩:Esc) (⟨sp,slo,shi,sfail⟩:Stp) most v (t:Int),_,_,_) a _ (by omega) (⟨by omega,by omega,by omega,by omega,by have h9:=hp.2.2.2.2.1;rw [hgs] at h9;(try dsimp only at h9 ⊢);push_cast;omega,by have h9:=hp.2.2.2.2.2;rw [hgs] at h9;exact h9⟩) (S.sel [1,2,3,4,5,6] G G) (H.keep [2,6,7,8] rfl)
 try simp only [o1,o2,o3,o4,o5,o6,o7,o8,o9,oa] at hc1
 refine wp_exit ?_
 refine k4 _ _ ?_
 refine aB fun K15 k15=>?_
 refine ls 1 H<|sd ((aC Bk cU rfl S (i:=1) G G))<|sE ?_;clear H a;intro a H
 refine aD H S (i:=3) G G G G cU G G ?_
 clear H a S;intro _ a S H
 refine k15 _ _ ?_;clear k15 K15
 refine wp_ret ?_
 refine retA (fn:=Try.f35) rfl H rfl Bk (by exact cU) (dH S (i:=3) rfl) ?_
 have hgs:=Gx (e:=(⟨up,empty,pull,drag,motor,br⟩:Esc)) (s:=(⟨sp,slo,shi,sfail⟩:Stp)) (m:=most) (g:=g1) (v:=v) (t:=(t:Int)) (by omega)
 rw [hgs] at hp
 have h8:=hp.2.2.2.2.1;have h9:=hp.2.2.2.2.2
 dsimp only at h8 h9
 rw [Int.add_zero] at h8
 rw [←h8,←h9]
 exact ⟨_,_,_,_,rfl,(S.sel [2] G G)⟩
end
section
theorem gH {e:Esc} {s:Stp} (h:¬ stopE e s=0):distI e s=(0,0,stopE e s):=by unfold distI;exact if_pos h
theorem fF {e:Esc} {s:Stp} (h:stopE e s=0) (h2:(goI e s true 100 s.speed 0).2=false):distI e s=(0,0,12):=by
  unfold distI
  rw [if_neg (by omega),if_neg (by rw [h2];simp)]
theorem iS {e:Esc} {s:Stp} (h:stopE e s=0) (h2:(goI e s true 100 s.speed 0).2=true):distI e s=((goI e s false 100 s.speed 0).1,(goI e s true 100 s.speed 0).1,0):=by
  unfold distI
  rw [if_neg (by omega),if_pos h2]
theorem cB (up:Bool) (empty pull drag motor:Int) (br:List Brake) (BA:Option Addr) (bcp:Nat) (sp slo shi sfail:Int) (w:World) (hb:InS w noF 2 BA br.length (bcell br)) (hbn:br.length≤9223372036854775807) :
    Calls Try.prog 19 [.agg [.bool up,.int .i64 empty,.int .i64 pull,.int .i64 drag,.int .i64 motor,.slice BA br.length bcp].toArray,.agg [.int .i64 sp,.int .i64 slo,.int .i64 shi,.int .i64 sfail].toArray].toArray w (Ret (fun u w'=>∃ tl th:Int,u = .tuple #[.agg [.int .i64 (distI (⟨up,empty,pull,drag,motor,br⟩:Esc) (⟨sp,slo,shi,sfail⟩:Stp)).1,.int .i64 (distI (⟨up,empty,pull,drag,motor,br⟩:Esc) (⟨sp,slo,shi,sfail⟩:Stp)).2.1].toArray,.agg [.int .i64 tl,.int .i64 th].toArray,.int .i64 (distI (⟨up,empty,pull,drag,motor,br⟩:Esc) (⟨sp,slo,shi,sfail⟩:Stp)).2.2]∧St w noF [] w')):=by
 refine enter Try.func19 rfl Try.ntmps19 rfl (fun a H=>?_)
 have S:=St.start w
 refine aB fun K1 k1=>?_
 refine aS H rfl S G G ?_;clear H a S;intro b2 _ a hb2 hbw2 S H
 refine aS H rfl S G G ?_;clear H a S;intro b3 _ a hb3 hbw3 S H
 refine aJ H rfl S dR ?_;clear H a S;intro b4 _ a hb4 hbw4 S H
 refine aJ H rfl S dR ?_;clear H a S;intro b5 _ a hb5 hbw5 S H
 refine ls 1 H<|sr 1 rfl<|sE ?_;clear H a;intro a H
 refine k1 _ _ ?_;clear k1 K1
 refine wp_seq_k fun K2 k2=>?_
 refine aB fun K3 k3=>?_
 refine ls 2 H<|sd ((aC fO iB rfl S (i:=3) G G))<|sd ((aC oB pW rfl S (i:=2) G G))<|sE ?_;clear H a;intro a H
 refine aA H G G Try.func34 G G (pR up empty pull drag motor br BA bcp sp slo shi sfail _ (hb.now S) hbn) ?_;clear H a
 rintro _ _ a ⟨rfl,S2⟩ H
 replace S:=S.call S2;clear S2
 refine ls 1 H<|sr 1 rfl<|sE ?_;clear H a;intro a H
 refine k3 _ _ ?_;clear k3 K3
 replace H:=H.keep [2,3,4,5,6] rfl
 refine sS H fun K4 k4=>sr 2 rfl<|sE ?_;clear H a;intro a H
 refine k4 _ ?_;clear k4 K4
 refine condN H rfl (fun hc1=>?_) (fun hc1=>?_)
 ·skip
  have hce:=hc1
  replace S:=S.drew
  refine iM 999999 (.p 2 (.b2 0 (.b2 1 (.e 3 (.e 4 (.p 5 .nil))) 3 (.e 1 (.e 4 (.p 5 .nil)))) 1 (.e 0 (.e 3 (.e 4 (.p 5 .nil)))))) (by kernel_rfl) (by kernel_rfl) (S.sel [2,3] G G) fun K5 k5=>?_
  refine aP H G G (fun _=>aT rfl) ?_;clear H a;intro a H
  refine cZ G G ?_ ?_
  ·skip
   refine ls 1 H<|sd ((aC bL bA rfl S (i:=1) G G))<|sE ?_;clear H a;intro a H
   refine wpList_nil (And.intro (Or.inr (S.sel [2,3] G G)) ?_)
   refine cZ G G ?_ ?_
   ·skip
    refine ls 1 H<|sd ((aC bL bA rfl S (i:=0) G G))<|sE ?_;clear H a;intro a H
    refine wpList_nil (And.intro (Or.inr (S.sel [2,3] G G)) ?_)
    refine aK rfl ?_
    refine aD H S (i:=1) G G G G bA G G ?_
    clear H a S;intro _ a S H
    refine wpList_nil (And.intro (Or.inr (S.sel [2,3] G G)) ?_)
    refine aK rfl ?_
    refine aD H S (i:=0) G G G G bA G G ?_
    clear H a S;intro _ a S H
    refine wpList_nil (And.intro (Or.inr (S.sel [2,3] G G)) ?_)
    refine aP H G G (fun _=>bF rfl) ?_;clear H a;intro a H
    refine bE ?_
    refine k5 _ _ ?_
    clear k5 K5
    refine wp_ret ?_
    refine kH (fn:=Try.f19) rfl H G G bL (by exact bA) (dH S (i:=1) rfl) bL (by exact bA) (dH S (i:=0) rfl) rfl ?_
    first|(rw [gH hce];exact ⟨_,_,rfl,(S.sel [] G G)⟩)|(rw [fF hce (by simpa using hcf)];exact ⟨_,_,rfl,(S.sel [] G G)⟩)|(rw [iS hce (by simpa using hcf)];exact ⟨_,_,rfl,(S.sel [] G G)⟩)
   ·skip
    refine aD H S (i:=1) G G G G bA G G ?_
    clear H a S;intro _ a S H
    refine wpList_nil (And.intro (Or.inr (S.sel [2,3] G G)) ?_)
    refine aK rfl ?_
    refine ls 1 H<|sd ((aC bL bA rfl S (i:=0) G G))<|sE ?_;clear H a;intro a H
    refine wpList_nil (And.intro (Or.inr (S.sel [2,3] G G)) ?_)
    refine aK rfl ?_
    refine aD H S (i:=0) G G G G bA G G ?_
    clear H a S;intro _ a S H
    refine wpList_nil (And.intro (Or.inr (S.sel [2,3] G G)) ?_)
    refine aP H G G (fun _=>bF rfl) ?_;clear H a;intro a H
    refine bE ?_
    refine k5 _ _ ?_
    clear k5 K5
    refine wp_ret ?_
    refine kH (fn:=Try.f19) rfl H G G bL (by exact bA) (dH S (i:=1) rfl) bL (by exact bA) (dH S (i:=0) rfl) rfl ?_
    first|(rw [gH hce];exact ⟨_,_,rfl,(S.sel [] G G)⟩)|(rw [fF hce (by simpa using hcf)];exact ⟨_,_,rfl,(S.sel [] G G)⟩)|(rw [iS hce (by simpa using hcf)];exact ⟨_,_,rfl,(S.sel [] G G)⟩)
  ·skip
   refine ls 1 H<|sd ((aC bL bA rfl S (i:=0) G G))<|sE ?_;clear H a;intro a H
   refine wpList_nil (And.intro (Or.inr (S.sel [2,3] G G)) ?_)
   refine aK rfl ?_
   refine ls 1 H<|sd ((aC bL bA rfl S (i:=1) G G))<|sE ?_;clear H a;intro a H
   refine wpList_nil (And.intro (Or.inr (S.sel [2,3] G G)) ?_)
   refine aK rfl ?_
   refine aD H S (i:=1) G G G G bA G G ?_
   clear H a S;intro _ a S H
   refine wpList_nil (And.intro (Or.inr (S.sel [2,3] G G)) ?_)
   refine aK rfl ?_
   refine aD H S (i:=0) G G G G bA G G ?_
   clear H a S;intro _ a S H
   refine wpList_nil (And.intro (Or.inr (S.sel [2,3] G G)) ?_)
   refine aP H G G (fun _=>bF rfl) ?_;clear H a;intro a H
   refine bE ?_
   refine k5 _ _ ?_
   clear k5 K5
   refine wp_ret ?_
   refine kH (fn:=Try.f19) rfl H G G bL (by exact bA) (dH S (i:=1) rfl) bL (by exact bA) (dH S (i:=0) rfl) rfl ?_
   first|(rw [gH hce];exact ⟨_,_,rfl,(S.sel [] G G)⟩)|(rw [fF hce (by simpa using hcf)];exact ⟨_,_,rfl,(S.sel [] G G)⟩)|(rw [iS hce (by simpa using hcf)];exact ⟨_,_,rfl,(S.sel [] G G)⟩)
 have hce:=hc1
 refine wp_skip ?_
 refine k2 _ _ ?_
 have SR:=(S.sel [0,1,2,3] G G)
 refine gK (X:=(Nat×Nat)×(Option Addr×Nat×Nat)×(Option Addr×Nat×Nat)) [4,5] H rfl (fun ⟨⟨b7,b8⟩,⟨A7,n7,c7⟩,A8,n8,c8⟩=>[(7,.pointer (some ⟨b7,0,none⟩)),(8,.pointer (some ⟨b8,0,none⟩))]) (fun ⟨⟨b7,b8⟩,⟨A7,n7,c7⟩,A8,n8,c8⟩=>[boxM b7 95 [.int .i64 (goI (⟨up,empty,pull,drag,motor,br⟩:Esc) (⟨sp,slo,shi,sfail⟩:Stp) true 100 sp 0).1,.slice A7 n7 c7,.bool (goI (⟨up,empty,pull,drag,motor,br⟩:Esc) (⟨sp,slo,shi,sfail⟩:Stp) true 100 sp 0).2],boxM b8 95 [.int .i64 (goI (⟨up,empty,pull,drag,motor,br⟩:Esc) (⟨sp,slo,shi,sfail⟩:Stp) false 100 sp 0).1,.slice A8 n8 c8,.bool (goI (⟨up,empty,pull,drag,motor,br⟩:Esc) (⟨sp,slo,shi,sfail⟩:Stp) false 100 sp 0).2]]) (fun ⟨⟨b7,b8⟩,⟨A7,n7,c7⟩,A8,n8,c8⟩=>True) SR (fun K6 k6=>?_) ?_
 ·skip
  obtain ⟨hesc,hstp⟩:=Gw hce
  replace H:=H.keep [2,3,4,5] rfl
  replace S:=S.drew
  refine qU 999999 (.q 0 (.q 1 (.q 3 (.q 4 (.b3 2 (.b3 5 (.b2 6 (.e 7 (.e 8 (.e 9 .nil))) 7 (.e 6 (.e 8 (.e 9 .nil)))) 6 (.b2 5 (.e 7 (.e 8 (.e 9 .nil))) 7 (.e 5 (.e 8 (.e 9 .nil)))) 7 (.b2 5 (.e 6 (.e 8 (.e 9 .nil))) 6 (.e 5 (.e 8 (.e 9 .nil))))) 6 (.b2 2 (.b2 5 (.e 7 (.e 8 (.e 9 .nil))) 7 (.e 5 (.e 8 (.e 9 .nil)))) 7 (.e 2 (.e 5 (.e 8 (.e 9 .nil))))) 7 (.b2 2 (.b2 5 (.e 6 (.e 8 (.e 9 .nil))) 6 (.e 5 (.e 8 (.e 9 .nil)))) 6 (.e 2 (.e 5 (.e 8 (.e 9 .nil)))))))))) (by kernel_rfl) (by kernel_rfl) (S.sel [0,1,2,3] G G) ?_
  refine aM H G G (fun _ S=>(aC fO iB rfl S (i:=3) G G)) ?_;clear H a;intro a H
  refine aM H G G (fun _ S=>(aC oB pW rfl S (i:=2) G G)) ?_;clear H a;intro a H
  refine aM H G G (fun _ S=>(aC fO iB rfl S (i:=3) G G)) ?_;clear H a;intro a H
  refine aM H G G (fun _ S=>(aC oB pW rfl S (i:=2) G G)) ?_;clear H a;intro a H
  refine tC G G G ?_ ?_ ?_
  ·skip
   refine aA H G G Try.func35 G G (cX up empty pull drag motor br BA bcp sp slo shi sfail true _ (hb.now S) hbn hesc hstp) ?_;clear H a
   rintro _ _ a ⟨A7,n7,c7,f7,rfl,S2⟩ H
   replace S:=S.call S2;clear S2
   refine wpList_nil (And.intro (Or.inr (S.sel [1,2,3,4] G G)) ?_)
   refine tC G G G ?_ ?_ ?_
   ·skip
    refine aA H G G Try.func35 G G (cX up empty pull drag motor br BA bcp sp slo shi sfail false _ (hb.now S) hbn hesc hstp) ?_;clear H a
    rintro _ _ a ⟨A8,n8,c8,f8,rfl,S2⟩ H
    replace S:=S.call S2;clear S2
    refine wpList_nil (And.intro (Or.inr (S.sel [2,3,4,5] G G)) ?_)
    refine cZ G G ?_ ?_
    ·skip
     refine aJ H rfl S dW ?_;clear H a S;intro b7 _ a hb7 hbw7 S H
     refine wpList_nil (And.intro (Or.inr (S.sel [3,4,5,6] G G)) ?_)
     refine aK rfl ?_
     refine aJ H rfl S dW ?_;clear H a S;intro b8 _ a hb8 hbw8 S H
     refine wpList_nil (And.intro (Or.inr (S.sel [4,5,6,7] G G)) ?_)
     refine aK rfl ?_
     refine aD H S (i:=1) G G G G cU G G ?_
     clear H a S;intro _ a S H
     refine wpList_nil (And.intro (Or.inr (S.sel [4,5,6,7] G G)) ?_)
     refine aK rfl ?_
     refine aD H S (i:=0) G G G G cU G G ?_
     clear H a S;intro _ a S H
     refine wpList_nil (And.intro (Or.inr (S.sel [4,5,6,7] G G)) ?_)
     refine bE ?_
     exact k6 ((b7,b8),(_,_,_),_,_,_) a _ (trivial) (S.sel [1,0,4,5,6,7] G G) (H.keep [7,8,4,5] rfl)
    ·skip
     refine aJ H rfl S dW ?_;clear H a S;intro b8 _ a hb8 hbw8 S H
     refine wpList_nil (And.intro (Or.inr (S.sel [3,4,5,6] G G)) ?_)
     refine aK rfl ?_
     refine aJ H rfl S dW ?_;clear H a S;intro b7 _ a hb7 hbw7 S H
     refine wpList_nil (And.intro (Or.inr (S.sel [4,5,6,7] G G)) ?_)
     refine aK rfl ?_
     refine aD H S (i:=0) G G G G cU G G ?_
     clear H a S;intro _ a S H
     refine wpList_nil (And.intro (Or.inr (S.sel [4,5,6,7] G G)) ?_)
     refine aK rfl ?_
     refine aD H S (i:=1) G G G G cU G G ?_
     clear H a S;intro _ a S H
     refine wpList_nil (And.intro (Or.inr (S.sel [4,5,6,7] G G)) ?_)
     refine bE ?_
     exact k6 ((b7,b8),(_,_,_),_,_,_) a _ (trivial) (S.sel [0,1,4,5,6,7] G G) (H.keep [7,8,4,5] rfl)
   ·skip
    refine aJ H rfl S dW ?_;clear H a S;intro b7 _ a hb7 hbw7 S H
    refine wpList_nil (And.intro (Or.inr (S.sel [2,3,4,5] G G)) ?_)
    refine cZ G G ?_ ?_
    ·skip
     refine aA H G G Try.func35 G G (cX up empty pull drag motor br BA bcp sp slo shi sfail false _ (hb.now S) hbn hesc hstp) ?_;clear H a
     rintro _ _ a ⟨A8,n8,c8,f8,rfl,S2⟩ H
     replace S:=S.call S2;clear S2
     refine wpList_nil (And.intro (Or.inr (S.sel [3,4,5,6] G G)) ?_)
     refine aK rfl ?_
     refine aJ H rfl S dW ?_;clear H a S;intro b8 _ a hb8 hbw8 S H
     refine wpList_nil (And.intro (Or.inr (S.sel [4,5,6,7] G G)) ?_)
     refine aK rfl ?_
     refine aD H S (i:=2) G G G G cU G G ?_
     clear H a S;intro _ a S H
     refine wpList_nil (And.intro (Or.inr (S.sel [4,5,6,7] G G)) ?_)
     refine aK rfl ?_
     refine aD H S (i:=0) G G G G cU G G ?_
     clear H a S;intro _ a S H
     refine wpList_nil (And.intro (Or.inr (S.sel [4,5,6,7] G G)) ?_)
     refine bE ?_
     exact k6 ((b7,b8),(_,_,_),_,_,_) a _ (trivial) (S.sel [2,0,4,5,6,7] G G) (H.keep [7,8,4,5] rfl)
    ·skip
     refine aJ H rfl S dW ?_;clear H a S;intro b8 _ a hb8 hbw8 S H
     refine wpList_nil (And.intro (Or.inr (S.sel [3,4,5,6] G G)) ?_)
     refine aK rfl ?_
     refine aA H G G Try.func35 G G (cX up empty pull drag motor br BA bcp sp slo shi sfail false _ (hb.now S) hbn hesc hstp) ?_;clear H a
     rintro _ _ a ⟨A8,n8,c8,f8,rfl,S2⟩ H
     replace S:=S.call S2;clear S2
     refine wpList_nil (And.intro (Or.inr (S.sel [4,5,6,7] G G)) ?_)
     refine aK rfl ?_
     refine aD H S (i:=2) G G G G cU G G ?_
     clear H a S;intro _ a S H
     refine wpList_nil (And.intro (Or.inr (S.sel [4,5,6,7] G G)) ?_)
     refine aK rfl ?_
     refine aD H S (i:=1) G G G G cU G G ?_
     clear H a S;intro _ a S H
     refine wpList_nil (And.intro (Or.inr (S.sel [4,5,6,7] G G)) ?_)
     refine bE ?_
     exact k6 ((b7,b8),(_,_,_),_,_,_) a _ (trivial) (S.sel [2,1,4,5,6,7] G G) (H.keep [7,8,4,5] rfl)
   ·skip
    refine aJ H rfl S dW ?_;clear H a S;intro b8 _ a hb8 hbw8 S H
    refine wpList_nil (And.intro (Or.inr (S.sel [2,3,4,5] G G)) ?_)
    refine cZ G G ?_ ?_
    ·skip
     refine aA H G G Try.func35 G G (cX up empty pull drag motor br BA bcp sp slo shi sfail false _ (hb.now S) hbn hesc hstp) ?_;clear H a
     rintro _ _ a ⟨A8,n8,c8,f8,rfl,S2⟩ H
     replace S:=S.call S2;clear S2
     refine wpList_nil (And.intro (Or.inr (S.sel [3,4,5,6] G G)) ?_)
     refine aK rfl ?_
     refine aJ H rfl S dW ?_;clear H a S;intro b7 _ a hb7 hbw7 S H
     refine wpList_nil (And.intro (Or.inr (S.sel [4,5,6,7] G G)) ?_)
     refine aK rfl ?_
     refine aD H S (i:=0) G G G G cU G G ?_
     clear H a S;intro _ a S H
     refine wpList_nil (And.intro (Or.inr (S.sel [4,5,6,7] G G)) ?_)
     refine aK rfl ?_
     refine aD H S (i:=2) G G G G cU G G ?_
     clear H a S;intro _ a S H
     refine wpList_nil (And.intro (Or.inr (S.sel [4,5,6,7] G G)) ?_)
     refine bE ?_
     exact k6 ((b7,b8),(_,_,_),_,_,_) a _ (trivial) (S.sel [0,2,4,5,6,7] G G) (H.keep [7,8,4,5] rfl)
    ·skip
     refine aJ H rfl S dW ?_;clear H a S;intro b7 _ a hb7 hbw7 S H
     refine wpList_nil (And.intro (Or.inr (S.sel [3,4,5,6] G G)) ?_)
     refine aK rfl ?_
     refine aA H G G Try.func35 G G (cX up empty pull drag motor br BA bcp sp slo shi sfail false _ (hb.now S) hbn hesc hstp) ?_;clear H a
     rintro _ _ a ⟨A8,n8,c8,f8,rfl,S2⟩ H
     replace S:=S.call S2;clear S2
     refine wpList_nil (And.intro (Or.inr (S.sel [4,5,6,7] G G)) ?_)
     refine aK rfl ?_
     refine aD H S (i:=1) G G G G cU G G ?_
     clear H a S;intro _ a S H
     refine wpList_nil (And.intro (Or.inr (S.sel [4,5,6,7] G G)) ?_)
     refine aK rfl ?_
     refine aD H S (i:=2) G G G G cU G G ?_
     clear H a S;intro _ a S H
     refine wpList_nil (And.intro (Or.inr (S.sel [4,5,6,7] G G)) ?_)
     refine bE ?_
     exact k6 ((b7,b8),(_,_,_),_,_,_) a _ (trivial) (S.sel [1,2,4,5,6,7] G G) (H.keep [7,8,4,5] rfl)
  ·skip
   refine aJ H rfl S dW ?_;clear H a S;intro b7 _ a hb7 hbw7 S H
   refine wpList_nil (And.intro (Or.inr (S.sel [1,2,3,4] G G)) ?_)
   refine cZ G G ?_ ?_
   ·skip
    refine aA H G G Try.func35 G G (cX up empty pull drag motor br BA bcp sp slo shi sfail true _ (hb.now S) hbn hesc hstp) ?_;clear H a
    rintro _ _ a ⟨A7,n7,c7,f7,rfl,S2⟩ H
    replace S:=S.call S2;clear S2
    refine wpList_nil (And.intro (Or.inr (S.sel [2,3,4,5] G G)) ?_)
    refine cZ G G ?_ ?_
    ·skip
     refine aA H G G Try.func35 G G (cX up empty pull drag motor br BA bcp sp slo shi sfail false _ (hb.now S) hbn hesc hstp) ?_;clear H a
     rintro _ _ a ⟨A8,n8,c8,f8,rfl,S2⟩ H
     replace S:=S.call S2;clear S2
     refine wpList_nil (And.intro (Or.inr (S.sel [3,4,5,6] G G)) ?_)
     refine aK rfl ?_
     refine aJ H rfl S dW ?_;clear H a S;intro b8 _ a hb8 hbw8 S H
     refine wpList_nil (And.intro (Or.inr (S.sel [4,5,6,7] G G)) ?_)
     refine aK rfl ?_
     refine aD H S (i:=3) G G G G cU G G ?_
     clear H a S;intro _ a S H
     refine wpList_nil (And.intro (Or.inr (S.sel [4,5,6,7] G G)) ?_)
     refine aK rfl ?_
     refine aD H S (i:=0) G G G G cU G G ?_
     clear H a S;intro _ a S H
     refine wpList_nil (And.intro (Or.inr (S.sel [4,5,6,7] G G)) ?_)
     refine bE ?_
     exact k6 ((b7,b8),(_,_,_),_,_,_) a _ (trivial) (S.sel [3,0,4,5,6,7] G G) (H.keep [7,8,4,5] rfl)
    ·skip
     refine aJ H rfl S dW ?_;clear H a S;intro b8 _ a hb8 hbw8 S H
     refine wpList_nil (And.intro (Or.inr (S.sel [3,4,5,6] G G)) ?_)
     refine aK rfl ?_
     refine aA H G G Try.func35 G G (cX up empty pull drag motor br BA bcp sp slo shi sfail false _ (hb.now S) hbn hesc hstp) ?_;clear H a
     rintro _ _ a ⟨A8,n8,c8,f8,rfl,S2⟩ H
     replace S:=S.call S2;clear S2
     refine wpList_nil (And.intro (Or.inr (S.sel [4,5,6,7] G G)) ?_)
     refine aK rfl ?_
     refine aD H S (i:=3) G G G G cU G G ?_
     clear H a S;intro _ a S H
     refine wpList_nil (And.intro (Or.inr (S.sel [4,5,6,7] G G)) ?_)
     refine aK rfl ?_
     refine aD H S (i:=1) G G G G cU G G ?_
     clear H a S;intro _ a S H
     refine wpList_nil (And.intro (Or.inr (S.sel [4,5,6,7] G G)) ?_)
     refine bE ?_
     exact k6 ((b7,b8),(_,_,_),_,_,_) a _ (trivial) (S.sel [3,1,4,5,6,7] G G) (H.keep [7,8,4,5] rfl)
   ·skip
    refine aJ H rfl S dW ?_;clear H a S;intro b8 _ a hb8 hbw8 S H
    refine wpList_nil (And.intro (Or.inr (S.sel [2,3,4,5] G G)) ?_)
    refine aK rfl ?_
    refine aA H G G Try.func35 G G (cX up empty pull drag motor br BA bcp sp slo shi sfail true _ (hb.now S) hbn hesc hstp) ?_;clear H a
    rintro _ _ a ⟨A7,n7,c7,f7,rfl,S2⟩ H
    replace S:=S.call S2;clear S2
    refine wpList_nil (And.intro (Or.inr (S.sel [3,4,5,6] G G)) ?_)
    refine aK rfl ?_
    refine aA H G G Try.func35 G G (cX up empty pull drag motor br BA bcp sp slo shi sfail false _ (hb.now S) hbn hesc hstp) ?_;clear H a
    rintro _ _ a ⟨A8,n8,c8,f8,rfl,S2⟩ H
    replace S:=S.call S2;clear S2
    refine wpList_nil (And.intro (Or.inr (S.sel [4,5,6,7] G G)) ?_)
    refine aK rfl ?_
    refine aD H S (i:=3) G G G G cU G G ?_
    clear H a S;intro _ a S H
    refine wpList_nil (And.intro (Or.inr (S.sel [4,5,6,7] G G)) ?_)
    refine aK rfl ?_
    refine aD H S (i:=2) G G G G cU G G ?_
    clear H a S;intro _ a S H
    refine wpList_nil (And.intro (Or.inr (S.sel [4,5,6,7] G G)) ?_)
    refine bE ?_
    exact k6 ((b7,b8),(_,_,_),_,_,_) a _ (trivial) (S.sel [3,2,4,5,6,7] G G) (H.keep [7,8,4,5] rfl)
  ·skip
   refine aJ H rfl S dW ?_;clear H a S;intro b8 _ a hb8 hbw8 S H
   refine wpList_nil (And.intro (Or.inr (S.sel [1,2,3,4] G G)) ?_)
   refine cZ G G ?_ ?_
   ·skip
    refine aA H G G Try.func35 G G (cX up empty pull drag motor br BA bcp sp slo shi sfail true _ (hb.now S) hbn hesc hstp) ?_;clear H a
    rintro _ _ a ⟨A7,n7,c7,f7,rfl,S2⟩ H
    replace S:=S.call S2;clear S2
    refine wpList_nil (And.intro (Or.inr (S.sel [2,3,4,5] G G)) ?_)
    refine cZ G G ?_ ?_
    ·skip
     refine aA H G G Try.func35 G G (cX up empty pull drag motor br BA bcp sp slo shi sfail false _ (hb.now S) hbn hesc hstp) ?_;clear H a
     rintro _ _ a ⟨A8,n8,c8,f8,rfl,S2⟩ H
     replace S:=S.call S2;clear S2
     refine wpList_nil (And.intro (Or.inr (S.sel [3,4,5,6] G G)) ?_)
     refine aK rfl ?_
     refine aJ H rfl S dW ?_;clear H a S;intro b7 _ a hb7 hbw7 S H
     refine wpList_nil (And.intro (Or.inr (S.sel [4,5,6,7] G G)) ?_)
     refine aK rfl ?_
     refine aD H S (i:=0) G G G G cU G G ?_
     clear H a S;intro _ a S H
     refine wpList_nil (And.intro (Or.inr (S.sel [4,5,6,7] G G)) ?_)
     refine aK rfl ?_
     refine aD H S (i:=3) G G G G cU G G ?_
     clear H a S;intro _ a S H
     refine wpList_nil (And.intro (Or.inr (S.sel [4,5,6,7] G G)) ?_)
     refine bE ?_
     exact k6 ((b7,b8),(_,_,_),_,_,_) a _ (trivial) (S.sel [0,3,4,5,6,7] G G) (H.keep [7,8,4,5] rfl)
    ·skip
     refine aJ H rfl S dW ?_;clear H a S;intro b7 _ a hb7 hbw7 S H
     refine wpList_nil (And.intro (Or.inr (S.sel [3,4,5,6] G G)) ?_)
     refine aK rfl ?_
     refine aA H G G Try.func35 G G (cX up empty pull drag motor br BA bcp sp slo shi sfail false _ (hb.now S) hbn hesc hstp) ?_;clear H a
     rintro _ _ a ⟨A8,n8,c8,f8,rfl,S2⟩ H
     replace S:=S.call S2;clear S2
     refine wpList_nil (And.intro (Or.inr (S.sel [4,5,6,7] G G)) ?_)
     refine aK rfl ?_
     refine aD H S (i:=1) G G G G cU G G ?_
     clear H a S;intro _ a S H
     refine wpList_nil (And.intro (Or.inr (S.sel [4,5,6,7] G G)) ?_)
     refine aK rfl ?_
     refine aD H S (i:=3) G G G G cU G G ?_
     clear H a S;intro _ a S H
     refine wpList_nil (And.intro (Or.inr (S.sel [4,5,6,7] G G)) ?_)
     refine bE ?_
     exact k6 ((b7,b8),(_,_,_),_,_,_) a _ (trivial) (S.sel [1,3,4,5,6,7] G G) (H.keep [7,8,4,5] rfl)
   ·skip
    refine aJ H rfl S dW ?_;clear H a S;intro b7 _ a hb7 hbw7 S H
    refine wpList_nil (And.intro (Or.inr (S.sel [2,3,4,5] G G)) ?_)
    refine aK rfl ?_
    refine aA H G G Try.func35 G G (cX up empty pull drag motor br BA bcp sp slo shi sfail true _ (hb.now S) hbn hesc hstp) ?_;clear H a
    rintro _ _ a ⟨A7,n7,c7,f7,rfl,S2⟩ H
    replace S:=S.call S2;clear S2
    refine wpList_nil (And.intro (Or.inr (S.sel [3,4,5,6] G G)) ?_)
    refine aK rfl ?_
    refine aA H G G Try.func35 G G (cX up empty pull drag motor br BA bcp sp slo shi sfail false _ (hb.now S) hbn hesc hstp) ?_;clear H a
    rintro _ _ a ⟨A8,n8,c8,f8,rfl,S2⟩ H
    replace S:=S.call S2;clear S2
    refine wpList_nil (And.intro (Or.inr (S.sel [4,5,6,7] G G)) ?_)
    refine aK rfl ?_
    refine aD H S (i:=2) G G G G cU G G ?_
    clear H a S;intro _ a S H
    refine wpList_nil (And.intro (Or.inr (S.sel [4,5,6,7] G G)) ?_)
    refine aK rfl ?_
    refine aD H S (i:=3) G G G G cU G G ?_
    clear H a S;intro _ a S H
    refine wpList_nil (And.intro (Or.inr (S.sel [4,5,6,7] G G)) ?_)
    refine bE ?_
    exact k6 ((b7,b8),(_,_,_),_,_,_) a _ (trivial) (S.sel [2,3,4,5,6,7] G G) (H.keep [7,8,4,5] rfl)
 clear SR H S a
 intro xm a wm hp S H
 obtain ⟨⟨b7,b8⟩,⟨A7,n7,c7⟩,A8,n8,c8⟩:=xm
 refine wp_seq_k fun K8 k8=>?_
 replace H:=H.keep [4,5,7,8] rfl
 refine sS H fun K9 k9=>sf lJ rfl<|sl S 0 lB G G G<|sr 1 rfl<|sE ?_;clear H a;intro a H
 refine k9 _ ?_;clear k9 K9
 refine aQ H rfl (fun hc2=>?_) (fun hc2=>?_)
 ·skip
  try simp only [o1,o2,o3,o4,o5,o6,o7,o8,o9,oa] at hc2
  have hcf:=hc2
  replace S:=S.drew
  refine iM 999999 (.b2 0 (.b2 1 (.e 2 (.e 3 (.p 4 .nil))) 2 (.e 1 (.e 3 (.p 4 .nil)))) 1 (.e 0 (.e 2 (.e 3 (.p 4 .nil))))) (by kernel_rfl) (by kernel_rfl) (S.sel [0,1,4,5] G G) fun K10 k10=>?_
  refine cZ G G ?_ ?_
  ·skip
   refine ls 1 H<|sd ((aC bL bA rfl S (i:=3) G G))<|sE ?_;clear H a;intro a H
   refine wpList_nil (And.intro (Or.inr (S.sel [0,1,4,5] G G)) ?_)
   refine cZ G G ?_ ?_
   ·skip
    refine ls 1 H<|sd ((aC bL bA rfl S (i:=2) G G))<|sE ?_;clear H a;intro a H
    refine wpList_nil (And.intro (Or.inr (S.sel [0,1,4,5] G G)) ?_)
    refine aK rfl ?_
    refine aD H S (i:=3) G G G G bA G G ?_
    clear H a S;intro _ a S H
    refine wpList_nil (And.intro (Or.inr (S.sel [0,1,4,5] G G)) ?_)
    refine aK rfl ?_
    refine aD H S (i:=2) G G G G bA G G ?_
    clear H a S;intro _ a S H
    refine wpList_nil (And.intro (Or.inr (S.sel [0,1,4,5] G G)) ?_)
    refine aP H G G (fun _=>bF rfl) ?_;clear H a;intro a H
    refine bE ?_
    refine k10 _ _ ?_
    clear k10 K10
    refine wp_ret ?_
    refine kH (fn:=Try.f19) rfl H G G bL (by exact bA) (dH S (i:=3) rfl) bL (by exact bA) (dH S (i:=2) rfl) rfl ?_
    first|(rw [gH hce];exact ⟨_,_,rfl,(S.sel [] G G)⟩)|(rw [fF hce (by simpa using hcf)];exact ⟨_,_,rfl,(S.sel [] G G)⟩)|(rw [iS hce (by simpa using hcf)];exact ⟨_,_,rfl,(S.sel [] G G)⟩)
   ·skip
    refine aD H S (i:=3) G G G G bA G G ?_
    clear H a S;intro _ a S H
    refine wpList_nil (And.intro (Or.inr (S.sel [0,1,4,5] G G)) ?_)
    refine aK rfl ?_
    refine ls 1 H<|sd ((aC bL bA rfl S (i:=2) G G))<|sE ?_;clear H a;intro a H
    refine wpList_nil (And.intro (Or.inr (S.sel [0,1,4,5] G G)) ?_)
    refine aK rfl ?_
    refine aD H S (i:=2) G G G G bA G G ?_
    clear H a S;intro _ a S H
    refine wpList_nil (And.intro (Or.inr (S.sel [0,1,4,5] G G)) ?_)
    refine aP H G G (fun _=>bF rfl) ?_;clear H a;intro a H
    refine bE ?_
    refine k10 _ _ ?_
    clear k10 K10
    refine wp_ret ?_
    refine kH (fn:=Try.f19) rfl H G G bL (by exact bA) (dH S (i:=3) rfl) bL (by exact bA) (dH S (i:=2) rfl) rfl ?_
    first|(rw [gH hce];exact ⟨_,_,rfl,(S.sel [] G G)⟩)|(rw [fF hce (by simpa using hcf)];exact ⟨_,_,rfl,(S.sel [] G G)⟩)|(rw [iS hce (by simpa using hcf)];exact ⟨_,_,rfl,(S.sel [] G G)⟩)
  ·skip
   refine ls 1 H<|sd ((aC bL bA rfl S (i:=2) G G))<|sE ?_;clear H a;intro a H
   refine wpList_nil (And.intro (Or.inr (S.sel [0,1,4,5] G G)) ?_)
   refine aK rfl ?_
   refine ls 1 H<|sd ((aC bL bA rfl S (i:=3) G G))<|sE ?_;clear H a;intro a H
   refine wpList_nil (And.intro (Or.inr (S.sel [0,1,4,5] G G)) ?_)
   refine aK rfl ?_
   refine aD H S (i:=3) G G G G bA G G ?_
   clear H a S;intro _ a S H
   refine wpList_nil (And.intro (Or.inr (S.sel [0,1,4,5] G G)) ?_)
   refine aK rfl ?_
   refine aD H S (i:=2) G G G G bA G G ?_
   clear H a S;intro _ a S H
   refine wpList_nil (And.intro (Or.inr (S.sel [0,1,4,5] G G)) ?_)
   refine aP H G G (fun _=>bF rfl) ?_;clear H a;intro a H
   refine bE ?_
   refine k10 _ _ ?_
   clear k10 K10
   refine wp_ret ?_
   refine kH (fn:=Try.f19) rfl H G G bL (by exact bA) (dH S (i:=3) rfl) bL (by exact bA) (dH S (i:=2) rfl) rfl ?_
   first|(rw [gH hce];exact ⟨_,_,rfl,(S.sel [] G G)⟩)|(rw [fF hce (by simpa using hcf)];exact ⟨_,_,rfl,(S.sel [] G G)⟩)|(rw [iS hce (by simpa using hcf)];exact ⟨_,_,rfl,(S.sel [] G G)⟩)
 try simp only [o1,o2,o3,o4,o5,o6,o7,o8,o9,oa] at hc2
 have hcf:=hc2
 refine wp_skip ?_
 refine k8 _ _ ?_
 replace H:=H.keep [4,5,7,8] rfl
 replace S:=S.drew
 refine iM 999999 (.q 0 (.q 1 (.q 2 (.q 3 (.q 4 (.q 5 (.q 6 (.q 7 (.q 8 (.q 9 (.q 10 (.q 11 (.e 12 (.e 13 (.q 14 .nil))))))))))))))) (by kernel_rfl) (by kernel_rfl) (S.sel [0,1,4,5] G G) fun K11 k11=>?_
 refine aM H G G (fun _ S=>(aE gS rfl)) ?_;clear H a;intro a H
 refine aM H G G (fun _ S=>aG aF rfl (boxM.rd S (i:=1) G G)) ?_;clear H a;intro a H
 refine aM H G G (fun _ S=>(aE gS rfl)) ?_;clear H a;intro a H
 refine aM H G G (fun _ S=>aG aF rfl (boxM.rd S (i:=0) G G)) ?_;clear H a;intro a H
 refine aM H G G (fun _ S=>aO fR G G) ?_;clear H a;intro a H
 refine aM H G G (fun _ S=>(aE jX rfl)) ?_;clear H a;intro a H
 refine aM H G G (fun _ S=>aG aZ rfl (boxM.rd S (i:=1) G G)) ?_;clear H a;intro a H
 refine aM H G G (fun _ S=>dD aN rfl) ?_;clear H a;intro a H
 refine aM H G G (fun _ S=>(aE jX rfl)) ?_;clear H a;intro a H
 refine aM H G G (fun _ S=>aG aZ rfl (boxM.rd S (i:=0) G G)) ?_;clear H a;intro a H
 refine aM H G G (fun _ S=>dD aN rfl) ?_;clear H a;intro a H
 refine aM H G G (fun _ S=>aO fR G G) ?_;clear H a;intro a H
 refine aK rfl ?_
 refine aD H S (i:=3) G G G G bA G G ?_
 clear H a S;intro _ a S H
 refine wpList_nil (And.intro (Or.inr (S.sel [0,1,4,5] G G)) ?_)
 refine aK rfl ?_
 refine aD H S (i:=2) G G G G bA G G ?_
 clear H a S;intro _ a S H
 refine wpList_nil (And.intro (Or.inr (S.sel [0,1,4,5] G G)) ?_)
 refine aM H G G (fun _ S=>bF rfl) ?_;clear H a;intro a H
 refine bE ?_
 refine k11 _ _ ?_
 clear k11 K11
 refine wp_ret ?_
 refine kH (fn:=Try.f19) rfl H G G bL (by exact bA) (dH S (i:=3) rfl) bL (by exact bA) (dH S (i:=2) rfl) rfl ?_
 first|(rw [gH hce];exact ⟨_,_,rfl,(S.sel [] G G)⟩)|(rw [fF hce (by simpa using hcf)];exact ⟨_,_,rfl,(S.sel [] G G)⟩)|(rw [iS hce (by simpa using hcf)];exact ⟨_,_,rfl,(S.sel [] G G)⟩)
end
section
def exBr:List Brake:=[⟨12000,1⟩,⟨16000,3⟩]
theorem eV:distI ⟨true,1000,20,2000,20000,exBr⟩ ⟨60,0,500,0⟩=(108,135,0):=by kernel_rfl
theorem eW (w:World) :
    Calls Try.prog 20 [].toArray w (Ret (fun v w'=>∃ A,v = .agg [.bool true,.int .i64 1000,.int .i64 20,.int .i64 2000,.int .i64 20000,.slice A 2 2].toArray∧St w noF [ownM 98 2 A 2 2 (bcell exBr)] w')):=by
 refine enter Try.func20 rfl Try.ntmps20 rfl (fun a H=>?_)
 have S:=St.start w
 refine aB fun K1 k1=>?_
 refine aJ H rfl S Hj ?_;clear H a S;intro b0 _ a hb0 hbw0 S H
 refine k1 _ _ ?_;clear k1 K1
 refine aB fun K2 k2=>?_
 refine ls 2 H<|sd (aO Hl G G)<|sd (aO Hl G G)<|sE ?_;clear H a;intro a H
 refine aY H rfl S lE mW wY G G G G G G G G G ?_;clear H a S;intro A1 _ a hA1 S H
 refine ls 1 H<|sd (aO Ku G G)<|sE ?_;clear H a;intro a H
 refine aD H S (i:=1) G G G G iB G G ?_
 clear H a S;intro _ a S H
 refine k2 _ _ ?_;clear k2 K2
 refine wp_ret ?_
 refine retA (fn:=Try.f20) rfl H rfl fO (by exact iB) (dH S (i:=1) rfl) ?_
 replace S:=S.recell (i:=0) rfl (cell':=bcell exBr) (Jo (two G G) (two G G))
 exact ⟨_,rfl,(S.sel [0] G G)⟩
theorem fY (w:World) :
    Calls Try.prog 9 [].toArray w (Ret (fun v w'=>v = .bool true∧St w noF [] w')):=by
 refine enter Try.func9 rfl Try.ntmps9 rfl (fun a H=>?_)
 have S:=St.start w
 refine sS H fun K1 k1=>sr 1 rfl<|sE ?_;clear H a;intro a H
 refine k1 _ ?_;clear k1 K1
 refine aB fun K2 k2=>?_
 refine ls 2 H<|sd (aO fR G G)<|sd (aO Kt G G)<|sE ?_;clear H a;intro a H
 refine aJ H rfl S Hi ?_;clear H a S;intro b1 _ a hb1 hbw1 S H
 refine aD H S (i:=0) G G G G pW G G ?_
 clear H a S;intro _ a S H
 refine k2 _ _ ?_;clear k2 K2
 replace H:=H.keep [1] rfl
 replace S:=S.drew
 refine iM 999999 (.q 1 (.b3 0 (.b3 2 (.q 3 (.q 4 (.q 5 (.q 6 (.b2 7 (.e 8 (.e 9 (.e 10 (.q 11 .nil)))) 8 (.e 7 (.e 9 (.e 10 (.q 11 .nil))))))))) 7 (.b2 2 (.q 3 (.q 4 (.q 5 (.q 6 (.e 8 (.e 9 (.e 10 (.q 11 .nil)))))))) 8 (.e 2 (.q 3 (.q 4 (.q 5 (.q 6 (.e 9 (.e 10 (.q 11 .nil))))))))) 8 (.b2 2 (.q 3 (.q 4 (.q 5 (.q 6 (.e 7 (.e 9 (.e 10 (.q 11 .nil)))))))) 7 (.e 2 (.q 3 (.q 4 (.q 5 (.q 6 (.e 9 (.e 10 (.q 11 .nil)))))))))) 7 (.b2 0 (.b2 2 (.q 3 (.q 4 (.q 5 (.q 6 (.e 8 (.e 9 (.e 10 (.q 11 .nil)))))))) 8 (.e 2 (.q 3 (.q 4 (.q 5 (.q 6 (.e 9 (.e 10 (.q 11 .nil))))))))) 8 (.e 0 (.e 2 (.q 3 (.q 4 (.q 5 (.q 6 (.e 9 (.e 10 (.q 11 .nil)))))))))) 8 (.b2 0 (.b2 2 (.q 3 (.q 4 (.q 5 (.q 6 (.e 7 (.e 9 (.e 10 (.q 11 .nil)))))))) 7 (.e 2 (.q 3 (.q 4 (.q 5 (.q 6 (.e 9 (.e 10 (.q 11 .nil))))))))) 7 (.e 0 (.e 2 (.q 3 (.q 4 (.q 5 (.q 6 (.e 9 (.e 10 (.q 11 .nil)))))))))))) (by kernel_rfl) (by kernel_rfl) (S.sel [0] G G) fun K3 k3=>?_
 refine aM H G G (fun _ S=>(aC oB pW rfl S (i:=0) G G)) ?_;clear H a;intro a H
 refine tC G G G ?_ ?_ ?_
 ·skip
  refine aA H G G Try.func20 G G (eW _) ?_;clear H a
  rintro _ _ a ⟨A4,rfl,S2⟩ H
  replace S:=S.call S2;clear S2
  refine wpList_nil (And.intro (Or.inr (S.sel [1] G G)) ?_)
  refine tC G G G ?_ ?_ ?_
  ·skip
   refine aA H G G Try.func19 G G (cB true 1000 20 2000 20000 exBr A4 2 60 0 500 0 _ (ownM.inS S (i:=0) rfl) (by decide)) ?_;clear H a
   rintro _ _ a ⟨tl,th,rfl,S2⟩ H
   replace S:=S.call S2;clear S2
   rw [eV] at H
   refine wpList_nil (And.intro (Or.inr (S.sel [1] G G)) ?_)
   refine aM H G G (fun _ S=>aT rfl) ?_;clear H a;intro a H
   refine aM H G G (fun _ S=>aR G G) ?_;clear H a;intro a H
   refine aM H G G (fun _ S=>aR G G) ?_;clear H a;intro a H
   refine aM H G G (fun _ S=>aR G G) ?_;clear H a;intro a H
   refine cZ G G ?_ ?_
   ·skip
    refine aJ H rfl S dR ?_;clear H a S;intro b2 _ a hb2 hbw2 S H
    refine wpList_nil (And.intro (Or.inr (S.sel [2] G G)) ?_)
    refine aK rfl ?_
    refine aJ H rfl S dR ?_;clear H a S;intro b3 _ a hb3 hbw3 S H
    refine wpList_nil (And.intro (Or.inr (S.sel [3] G G)) ?_)
    refine aK rfl ?_
    refine aD H S (i:=1) G G G G bA G G ?_
    clear H a S;intro _ a S H
    refine wpList_nil (And.intro (Or.inr (S.sel [3] G G)) ?_)
    refine aK rfl ?_
    refine aD H S (i:=0) G G G G bA G G ?_
    clear H a S;intro _ a S H
    refine wpList_nil (And.intro (Or.inr (S.sel [3] G G)) ?_)
    refine aM H G G (fun _ S=>bF rfl) ?_;clear H a;intro a H
    refine bE ?_
    refine k3 _ _ ?_
    clear k3 K3
    replace H:=H.keep [2,4] rfl
    refine aB fun K4 k4=>?_
    refine aA H G G Try.func21 G G (bW _) ?_;clear H a
    rintro _ _ a ⟨SA,B0,B1,B2,B3,B4,QA,TA,rfl,S2⟩ H
    replace S:=S.call S2;clear S2
    refine ls 3 H<|sr 3 rfl<|sE ?_;clear H a;intro a H
    refine aJ H rfl S gE ?_;clear H a S;intro b5 _ a hb5 hbw5 S H
    refine aD H S (i:=0) G G G G cM G G ?_
    clear H a S;intro _ a S H
    refine ls 1 H<|sr 1 rfl<|sE ?_;clear H a;intro a H
    refine k4 _ _ ?_;clear k4 K4
    replace H:=H.keep [2,4,5] rfl
    refine aB fun K5 k5=>?_
    refine ls 1 H<|sd ((aC dB cM rfl S (i:=0) G G))<|sE ?_;clear H a;intro a H
    refine aA H G G Try.func22 G G (cR 2 exSw SA 4 exWs QA 5 (exOA B0 B1 B2 B3 B4) exOc _ (ownM.inS S (i:=1) rfl) (ownM.inS S (i:=7) rfl) (fun k hk=>by
      rcases k with _|_|_|_|_|k
      · exact ownM.inS S (i:=2) rfl
      · exact ownM.inS S (i:=3) rfl
      · exact ownM.inS S (i:=4) rfl
      · exact ownM.inS S (i:=5) rfl
      · exact ownM.inS S (i:=6) rfl
      · exact absurd hk (by simp [exWs])
    ) exCir) ?_;clear H a
    rintro _ _ a ⟨A6,c6,rfl,S2⟩ H
    replace S:=S.call S2;clear S2
    rw [eC] at H
    refine ls 5 H<|sr 5 rfl<|sE ?_;clear H a;intro a H
    refine k5 _ _ ?_;clear k5 K5
    replace H:=H.keep [2,4,7,8] rfl
    refine sS H fun K6 k6=>sr 3 rfl<|sg 2 2 29 31 true G G (fun hg3=>sy hg3<|sr 1 rfl<|sy hg3<|sr 1 rfl<|sz 2 G G G)<|sa G G G<|sr 1 rfl<|sg 3 6 33 36 true G G (fun hg7=>sy hg7<|sd ((aC bL bA rfl S (i:=9) G G))<|sy hg7<|sd (aO fR G G)<|sy hg7<|sd (bN G G)<|sz 3 G G G)<|sa G G G<|sr 1 rfl<|sg 3 11 38 41 true G G (fun hg12=>sy hg12<|sr 1 rfl<|sy hg12<|sL gP rfl<|sy hg12<|sr 1 rfl<|sz 3 G G G)<|sa G G G<|sr 1 rfl<|sE ?_;clear H a;intro a H
    refine k6 _ ?_;clear k6 K6
    refine wp_ret ?_
    refine ret1 (fn:=Try.f9) rfl H rfl ?_
    exact ⟨rfl,(S.sel [] G G)⟩
   ·skip
    refine aJ H rfl S dR ?_;clear H a S;intro b3 _ a hb3 hbw3 S H
    refine wpList_nil (And.intro (Or.inr (S.sel [2] G G)) ?_)
    refine aK rfl ?_
    refine aJ H rfl S dR ?_;clear H a S;intro b2 _ a hb2 hbw2 S H
    refine wpList_nil (And.intro (Or.inr (S.sel [3] G G)) ?_)
    refine aK rfl ?_
    refine aD H S (i:=0) G G G G bA G G ?_
    clear H a S;intro _ a S H
    refine wpList_nil (And.intro (Or.inr (S.sel [3] G G)) ?_)
    refine aK rfl ?_
    refine aD H S (i:=1) G G G G bA G G ?_
    clear H a S;intro _ a S H
    refine wpList_nil (And.intro (Or.inr (S.sel [3] G G)) ?_)
    refine aM H G G (fun _ S=>bF rfl) ?_;clear H a;intro a H
    refine bE ?_
    refine k3 _ _ ?_
    clear k3 K3
    replace H:=H.keep [2,4] rfl
    refine aB fun K7 k7=>?_
    refine aA H G G Try.func21 G G (bW _) ?_;clear H a
    rintro _ _ a ⟨SA,B0,B1,B2,B3,B4,QA,TA,rfl,S2⟩ H
    replace S:=S.call S2;clear S2
    refine ls 3 H<|sr 3 rfl<|sE ?_;clear H a;intro a H
    refine aJ H rfl S gE ?_;clear H a S;intro b5 _ a hb5 hbw5 S H
    refine aD H S (i:=0) G G G G cM G G ?_
    clear H a S;intro _ a S H
    refine ls 1 H<|sr 1 rfl<|sE ?_;clear H a;intro a H
    refine k7 _ _ ?_;clear k7 K7
    replace H:=H.keep [2,4,5] rfl
    refine aB fun K8 k8=>?_
    refine ls 1 H<|sd ((aC dB cM rfl S (i:=0) G G))<|sE ?_;clear H a;intro a H
    refine aA H G G Try.func22 G G (cR 2 exSw SA 4 exWs QA 5 (exOA B0 B1 B2 B3 B4) exOc _ (ownM.inS S (i:=1) rfl) (ownM.inS S (i:=7) rfl) (fun k hk=>by
      rcases k with _|_|_|_|_|k
      · exact ownM.inS S (i:=2) rfl
      · exact ownM.inS S (i:=3) rfl
      · exact ownM.inS S (i:=4) rfl
      · exact ownM.inS S (i:=5) rfl
      · exact ownM.inS S (i:=6) rfl
      · exact absurd hk (by simp [exWs])
    ) exCir) ?_;clear H a
    rintro _ _ a ⟨A6,c6,rfl,S2⟩ H
    replace S:=S.call S2;clear S2
    rw [eC] at H
    refine ls 5 H<|sr 5 rfl<|sE ?_;clear H a;intro a H
    refine k8 _ _ ?_;clear k8 K8
    replace H:=H.keep [2,4,7,8] rfl
    refine sS H fun K9 k9=>sr 3 rfl<|sg 2 2 29 31 true G G (fun hg3=>sy hg3<|sr 1 rfl<|sy hg3<|sr 1 rfl<|sz 2 G G G)<|sa G G G<|sr 1 rfl<|sg 3 6 33 36 true G G (fun hg7=>sy hg7<|sd ((aC bL bA rfl S (i:=8) G G))<|sy hg7<|sd (aO fR G G)<|sy hg7<|sd (bN G G)<|sz 3 G G G)<|sa G G G<|sr 1 rfl<|sg 3 11 38 41 true G G (fun hg12=>sy hg12<|sr 1 rfl<|sy hg12<|sL gP rfl<|sy hg12<|sr 1 rfl<|sz 3 G G G)<|sa G G G<|sr 1 rfl<|sE ?_;clear H a;intro a H
    refine k9 _ ?_;clear k9 K9
    refine wp_ret ?_
    refine ret1 (fn:=Try.f9) rfl H rfl ?_
    exact ⟨rfl,(S.sel [] G G)⟩
  ·skip
   refine aJ H rfl S dR ?_;clear H a S;intro b2 _ a hb2 hbw2 S H
   refine wpList_nil (And.intro (Or.inr (S.sel [2] G G)) ?_)
   refine cZ G G ?_ ?_
   ·skip
    refine aA H G G Try.func19 G G (cB true 1000 20 2000 20000 exBr A4 2 60 0 500 0 _ (ownM.inS S (i:=1) rfl) (by decide)) ?_;clear H a
    rintro _ _ a ⟨tl,th,rfl,S2⟩ H
    replace S:=S.call S2;clear S2
    rw [eV] at H
    refine wpList_nil (And.intro (Or.inr (S.sel [2] G G)) ?_)
    refine aM H G G (fun _ S=>aT rfl) ?_;clear H a;intro a H
    refine aM H G G (fun _ S=>aR G G) ?_;clear H a;intro a H
    refine aM H G G (fun _ S=>aR G G) ?_;clear H a;intro a H
    refine aM H G G (fun _ S=>aR G G) ?_;clear H a;intro a H
    refine aK rfl ?_
    refine aJ H rfl S dR ?_;clear H a S;intro b3 _ a hb3 hbw3 S H
    refine wpList_nil (And.intro (Or.inr (S.sel [3] G G)) ?_)
    refine aK rfl ?_
    refine aD H S (i:=1) G G G G bA G G ?_
    clear H a S;intro _ a S H
    refine wpList_nil (And.intro (Or.inr (S.sel [3] G G)) ?_)
    refine aK rfl ?_
    refine aD H S (i:=0) G G G G bA G G ?_
    clear H a S;intro _ a S H
    refine wpList_nil (And.intro (Or.inr (S.sel [3] G G)) ?_)
    refine aM H G G (fun _ S=>bF rfl) ?_;clear H a;intro a H
    refine bE ?_
    refine k3 _ _ ?_
    clear k3 K3
    replace H:=H.keep [2,4] rfl
    refine aB fun K10 k10=>?_
    refine aA H G G Try.func21 G G (bW _) ?_;clear H a
    rintro _ _ a ⟨SA,B0,B1,B2,B3,B4,QA,TA,rfl,S2⟩ H
    replace S:=S.call S2;clear S2
    refine ls 3 H<|sr 3 rfl<|sE ?_;clear H a;intro a H
    refine aJ H rfl S gE ?_;clear H a S;intro b5 _ a hb5 hbw5 S H
    refine aD H S (i:=0) G G G G cM G G ?_
    clear H a S;intro _ a S H
    refine ls 1 H<|sr 1 rfl<|sE ?_;clear H a;intro a H
    refine k10 _ _ ?_;clear k10 K10
    replace H:=H.keep [2,4,5] rfl
    refine aB fun K11 k11=>?_
    refine ls 1 H<|sd ((aC dB cM rfl S (i:=0) G G))<|sE ?_;clear H a;intro a H
    refine aA H G G Try.func22 G G (cR 2 exSw SA 4 exWs QA 5 (exOA B0 B1 B2 B3 B4) exOc _ (ownM.inS S (i:=1) rfl) (ownM.inS S (i:=7) rfl) (fun k hk=>by
      rcases k with _|_|_|_|_|k
      · exact ownM.inS S (i:=2) rfl
      · exact ownM.inS S (i:=3) rfl
      · exact ownM.inS S (i:=4) rfl
      · exact ownM.inS S (i:=5) rfl
      · exact ownM.inS S (i:=6) rfl
      · exact absurd hk (by simp [exWs])
    ) exCir) ?_;clear H a
    rintro _ _ a ⟨A6,c6,rfl,S2⟩ H
    replace S:=S.call S2;clear S2
    rw [eC] at H
    refine ls 5 H<|sr 5 rfl<|sE ?_;clear H a;intro a H
    refine k11 _ _ ?_;clear k11 K11
    replace H:=H.keep [2,4,7,8] rfl
    refine sS H fun K12 k12=>sr 3 rfl<|sg 2 2 29 31 true G G (fun hg3=>sy hg3<|sr 1 rfl<|sy hg3<|sr 1 rfl<|sz 2 G G G)<|sa G G G<|sr 1 rfl<|sg 3 6 33 36 true G G (fun hg7=>sy hg7<|sd ((aC bL bA rfl S (i:=9) G G))<|sy hg7<|sd (aO fR G G)<|sy hg7<|sd (bN G G)<|sz 3 G G G)<|sa G G G<|sr 1 rfl<|sg 3 11 38 41 true G G (fun hg12=>sy hg12<|sr 1 rfl<|sy hg12<|sL gP rfl<|sy hg12<|sr 1 rfl<|sz 3 G G G)<|sa G G G<|sr 1 rfl<|sE ?_;clear H a;intro a H
    refine k12 _ ?_;clear k12 K12
    refine wp_ret ?_
    refine ret1 (fn:=Try.f9) rfl H rfl ?_
    exact ⟨rfl,(S.sel [] G G)⟩
   ·skip
    refine aJ H rfl S dR ?_;clear H a S;intro b3 _ a hb3 hbw3 S H
    refine wpList_nil (And.intro (Or.inr (S.sel [3] G G)) ?_)
    refine aK rfl ?_
    refine aA H G G Try.func19 G G (cB true 1000 20 2000 20000 exBr A4 2 60 0 500 0 _ (ownM.inS S (i:=2) rfl) (by decide)) ?_;clear H a
    rintro _ _ a ⟨tl,th,rfl,S2⟩ H
    replace S:=S.call S2;clear S2
    rw [eV] at H
    refine wpList_nil (And.intro (Or.inr (S.sel [3] G G)) ?_)
    refine aM H G G (fun _ S=>aT rfl) ?_;clear H a;intro a H
    refine aM H G G (fun _ S=>aR G G) ?_;clear H a;intro a H
    refine aM H G G (fun _ S=>aR G G) ?_;clear H a;intro a H
    refine aM H G G (fun _ S=>aR G G) ?_;clear H a;intro a H
    refine aK rfl ?_
    refine aD H S (i:=1) G G G G bA G G ?_
    clear H a S;intro _ a S H
    refine wpList_nil (And.intro (Or.inr (S.sel [3] G G)) ?_)
    refine aK rfl ?_
    refine aD H S (i:=0) G G G G bA G G ?_
    clear H a S;intro _ a S H
    refine wpList_nil (And.intro (Or.inr (S.sel [3] G G)) ?_)
    refine aM H G G (fun _ S=>bF rfl) ?_;clear H a;intro a H
    refine bE ?_
    refine k3 _ _ ?_
    clear k3 K3
    replace H:=H.keep [2,4] rfl
    refine aB fun K13 k13=>?_
    refine aA H G G Try.func21 G G (bW _) ?_;clear H a
    rintro _ _ a ⟨SA,B0,B1,B2,B3,B4,QA,TA,rfl,S2⟩ H
    replace S:=S.call S2;clear S2
    refine ls 3 H<|sr 3 rfl<|sE ?_;clear H a;intro a H
    refine aJ H rfl S gE ?_;clear H a S;intro b5 _ a hb5 hbw5 S H
    refine aD H S (i:=0) G G G G cM G G ?_
    clear H a S;intro _ a S H
    refine ls 1 H<|sr 1 rfl<|sE ?_;clear H a;intro a H
    refine k13 _ _ ?_;clear k13 K13
    replace H:=H.keep [2,4,5] rfl
    refine aB fun K14 k14=>?_
    refine ls 1 H<|sd ((aC dB cM rfl S (i:=0) G G))<|sE ?_;clear H a;intro a H
    refine aA H G G Try.func22 G G (cR 2 exSw SA 4 exWs QA 5 (exOA B0 B1 B2 B3 B4) exOc _ (ownM.inS S (i:=1) rfl) (ownM.inS S (i:=7) rfl) (fun k hk=>by
      rcases k with _|_|_|_|_|k
      · exact ownM.inS S (i:=2) rfl
      · exact ownM.inS S (i:=3) rfl
      · exact ownM.inS S (i:=4) rfl
      · exact ownM.inS S (i:=5) rfl
      · exact ownM.inS S (i:=6) rfl
      · exact absurd hk (by simp [exWs])
    ) exCir) ?_;clear H a
    rintro _ _ a ⟨A6,c6,rfl,S2⟩ H
    replace S:=S.call S2;clear S2
    rw [eC] at H
    refine ls 5 H<|sr 5 rfl<|sE ?_;clear H a;intro a H
    refine k14 _ _ ?_;clear k14 K14
    replace H:=H.keep [2,4,7,8] rfl
    refine sS H fun K15 k15=>sr 3 rfl<|sg 2 2 29 31 true G G (fun hg3=>sy hg3<|sr 1 rfl<|sy hg3<|sr 1 rfl<|sz 2 G G G)<|sa G G G<|sr 1 rfl<|sg 3 6 33 36 true G G (fun hg7=>sy hg7<|sd ((aC bL bA rfl S (i:=9) G G))<|sy hg7<|sd (aO fR G G)<|sy hg7<|sd (bN G G)<|sz 3 G G G)<|sa G G G<|sr 1 rfl<|sg 3 11 38 41 true G G (fun hg12=>sy hg12<|sr 1 rfl<|sy hg12<|sL gP rfl<|sy hg12<|sr 1 rfl<|sz 3 G G G)<|sa G G G<|sr 1 rfl<|sE ?_;clear H a;intro a H
    refine k15 _ ?_;clear k15 K15
    refine wp_ret ?_
    refine ret1 (fn:=Try.f9) rfl H rfl ?_
    exact ⟨rfl,(S.sel [] G G)⟩
  ·skip
   refine aJ H rfl S dR ?_;clear H a S;intro b3 _ a hb3 hbw3 S H
   refine wpList_nil (And.intro (Or.inr (S.sel [2] G G)) ?_)
   refine cZ G G ?_ ?_
   ·skip
    refine aA H G G Try.func19 G G (cB true 1000 20 2000 20000 exBr A4 2 60 0 500 0 _ (ownM.inS S (i:=1) rfl) (by decide)) ?_;clear H a
    rintro _ _ a ⟨tl,th,rfl,S2⟩ H
    replace S:=S.call S2;clear S2
    rw [eV] at H
    refine wpList_nil (And.intro (Or.inr (S.sel [2] G G)) ?_)
    refine aM H G G (fun _ S=>aT rfl) ?_;clear H a;intro a H
    refine aM H G G (fun _ S=>aR G G) ?_;clear H a;intro a H
    refine aM H G G (fun _ S=>aR G G) ?_;clear H a;intro a H
    refine aM H G G (fun _ S=>aR G G) ?_;clear H a;intro a H
    refine aK rfl ?_
    refine aJ H rfl S dR ?_;clear H a S;intro b2 _ a hb2 hbw2 S H
    refine wpList_nil (And.intro (Or.inr (S.sel [3] G G)) ?_)
    refine aK rfl ?_
    refine aD H S (i:=0) G G G G bA G G ?_
    clear H a S;intro _ a S H
    refine wpList_nil (And.intro (Or.inr (S.sel [3] G G)) ?_)
    refine aK rfl ?_
    refine aD H S (i:=1) G G G G bA G G ?_
    clear H a S;intro _ a S H
    refine wpList_nil (And.intro (Or.inr (S.sel [3] G G)) ?_)
    refine aM H G G (fun _ S=>bF rfl) ?_;clear H a;intro a H
    refine bE ?_
    refine k3 _ _ ?_
    clear k3 K3
    replace H:=H.keep [2,4] rfl
    refine aB fun K16 k16=>?_
    refine aA H G G Try.func21 G G (bW _) ?_;clear H a
    rintro _ _ a ⟨SA,B0,B1,B2,B3,B4,QA,TA,rfl,S2⟩ H
    replace S:=S.call S2;clear S2
    refine ls 3 H<|sr 3 rfl<|sE ?_;clear H a;intro a H
    refine aJ H rfl S gE ?_;clear H a S;intro b5 _ a hb5 hbw5 S H
    refine aD H S (i:=0) G G G G cM G G ?_
    clear H a S;intro _ a S H
    refine ls 1 H<|sr 1 rfl<|sE ?_;clear H a;intro a H
    refine k16 _ _ ?_;clear k16 K16
    replace H:=H.keep [2,4,5] rfl
    refine aB fun K17 k17=>?_
    refine ls 1 H<|sd ((aC dB cM rfl S (i:=0) G G))<|sE ?_;clear H a;intro a H
    refine aA H G G Try.func22 G G (cR 2 exSw SA 4 exWs QA 5 (exOA B0 B1 B2 B3 B4) exOc _ (ownM.inS S (i:=1) rfl) (ownM.inS S (i:=7) rfl) (fun k hk=>by
      rcases k with _|_|_|_|_|k
      · exact ownM.inS S (i:=2) rfl
      · exact ownM.inS S (i:=3) rfl
      · exact ownM.inS S (i:=4) rfl
      · exact ownM.inS S (i:=5) rfl
      · exact ownM.inS S (i:=6) rfl
      · exact absurd hk (by simp [exWs])
    ) exCir) ?_;clear H a
    rintro _ _ a ⟨A6,c6,rfl,S2⟩ H
    replace S:=S.call S2;clear S2
    rw [eC] at H
    refine ls 5 H<|sr 5 rfl<|sE ?_;clear H a;intro a H
    refine k17 _ _ ?_;clear k17 K17
    replace H:=H.keep [2,4,7,8] rfl
    refine sS H fun K18 k18=>sr 3 rfl<|sg 2 2 29 31 true G G (fun hg3=>sy hg3<|sr 1 rfl<|sy hg3<|sr 1 rfl<|sz 2 G G G)<|sa G G G<|sr 1 rfl<|sg 3 6 33 36 true G G (fun hg7=>sy hg7<|sd ((aC bL bA rfl S (i:=8) G G))<|sy hg7<|sd (aO fR G G)<|sy hg7<|sd (bN G G)<|sz 3 G G G)<|sa G G G<|sr 1 rfl<|sg 3 11 38 41 true G G (fun hg12=>sy hg12<|sr 1 rfl<|sy hg12<|sL gP rfl<|sy hg12<|sr 1 rfl<|sz 3 G G G)<|sa G G G<|sr 1 rfl<|sE ?_;clear H a;intro a H
    refine k18 _ ?_;clear k18 K18
    refine wp_ret ?_
    refine ret1 (fn:=Try.f9) rfl H rfl ?_
    exact ⟨rfl,(S.sel [] G G)⟩
   ·skip
    refine aJ H rfl S dR ?_;clear H a S;intro b2 _ a hb2 hbw2 S H
    refine wpList_nil (And.intro (Or.inr (S.sel [3] G G)) ?_)
    refine aK rfl ?_
    refine aA H G G Try.func19 G G (cB true 1000 20 2000 20000 exBr A4 2 60 0 500 0 _ (ownM.inS S (i:=2) rfl) (by decide)) ?_;clear H a
    rintro _ _ a ⟨tl,th,rfl,S2⟩ H
    replace S:=S.call S2;clear S2
    rw [eV] at H
    refine wpList_nil (And.intro (Or.inr (S.sel [3] G G)) ?_)
    refine aM H G G (fun _ S=>aT rfl) ?_;clear H a;intro a H
    refine aM H G G (fun _ S=>aR G G) ?_;clear H a;intro a H
    refine aM H G G (fun _ S=>aR G G) ?_;clear H a;intro a H
    refine aM H G G (fun _ S=>aR G G) ?_;clear H a;intro a H
    refine aK rfl ?_
    refine aD H S (i:=0) G G G G bA G G ?_
    clear H a S;intro _ a S H
    refine wpList_nil (And.intro (Or.inr (S.sel [3] G G)) ?_)
    refine aK rfl ?_
    refine aD H S (i:=1) G G G G bA G G ?_
    clear H a S;intro _ a S H
    refine wpList_nil (And.intro (Or.inr (S.sel [3] G G)) ?_)
    refine aM H G G (fun _ S=>bF rfl) ?_;clear H a;intro a H
    refine bE ?_
    refine k3 _ _ ?_
    clear k3 K3
    replace H:=H.keep [2,4] rfl
    refine aB fun K19 k19=>?_
    refine aA H G G Try.func21 G G (bW _) ?_;clear H a
    rintro _ _ a ⟨SA,B0,B1,B2,B3,B4,QA,TA,rfl,S2⟩ H
    replace S:=S.call S2;clear S2
    refine ls 3 H<|sr 3 rfl<|sE ?_;clear H a;intro a H
    refine aJ H rfl S gE ?_;clear H a S;intro b5 _ a hb5 hbw5 S H
    refine aD H S (i:=0) G G G G cM G G ?_
    clear H a S;intro _ a S H
    refine ls 1 H<|sr 1 rfl<|sE ?_;clear H a;intro a H
    refine k19 _ _ ?_;clear k19 K19
    replace H:=H.keep [2,4,5] rfl
    refine aB fun K20 k20=>?_
    refine ls 1 H<|sd ((aC dB cM rfl S (i:=0) G G))<|sE ?_;clear H a;intro a H
    refine aA H G G Try.func22 G G (cR 2 exSw SA 4 exWs QA 5 (exOA B0 B1 B2 B3 B4) exOc _ (ownM.inS S (i:=1) rfl) (ownM.inS S (i:=7) rfl) (fun k hk=>by
      rcases k with _|_|_|_|_|k
      · exact ownM.inS S (i:=2) rfl
      · exact ownM.inS S (i:=3) rfl
      · exact ownM.inS S (i:=4) rfl
      · exact ownM.inS S (i:=5) rfl
      · exact ownM.inS S (i:=6) rfl
      · exact absurd hk (by simp [exWs])
    ) exCir) ?_;clear H a
    rintro _ _ a ⟨A6,c6,rfl,S2⟩ H
    replace S:=S.call S2;clear S2
    rw [eC] at H
    refine ls 5 H<|sr 5 rfl<|sE ?_;clear H a;intro a H
    refine k20 _ _ ?_;clear k20 K20
    replace H:=H.keep [2,4,7,8] rfl
    refine sS H fun K21 k21=>sr 3 rfl<|sg 2 2 29 31 true G G (fun hg3=>sy hg3<|sr 1 rfl<|sy hg3<|sr 1 rfl<|sz 2 G G G)<|sa G G G<|sr 1 rfl<|sg 3 6 33 36 true G G (fun hg7=>sy hg7<|sd ((aC bL bA rfl S (i:=8) G G))<|sy hg7<|sd (aO fR G G)<|sy hg7<|sd (bN G G)<|sz 3 G G G)<|sa G G G<|sr 1 rfl<|sg 3 11 38 41 true G G (fun hg12=>sy hg12<|sr 1 rfl<|sy hg12<|sL gP rfl<|sy hg12<|sr 1 rfl<|sz 3 G G G)<|sa G G G<|sr 1 rfl<|sE ?_;clear H a;intro a H
    refine k21 _ ?_;clear k21 K21
    refine wp_ret ?_
    refine ret1 (fn:=Try.f9) rfl H rfl ?_
    exact ⟨rfl,(S.sel [] G G)⟩
 ·skip
  refine aJ H rfl S dR ?_;clear H a S;intro b2 _ a hb2 hbw2 S H
  refine wpList_nil (And.intro (Or.inr (S.sel [1] G G)) ?_)
  refine cZ G G ?_ ?_
  ·skip
   refine aA H G G Try.func20 G G (eW _) ?_;clear H a
   rintro _ _ a ⟨A4,rfl,S2⟩ H
   replace S:=S.call S2;clear S2
   refine wpList_nil (And.intro (Or.inr (S.sel [2] G G)) ?_)
   refine cZ G G ?_ ?_
   ·skip
    refine aA H G G Try.func19 G G (cB true 1000 20 2000 20000 exBr A4 2 60 0 500 0 _ (ownM.inS S (i:=0) rfl) (by decide)) ?_;clear H a
    rintro _ _ a ⟨tl,th,rfl,S2⟩ H
    replace S:=S.call S2;clear S2
    rw [eV] at H
    refine wpList_nil (And.intro (Or.inr (S.sel [2] G G)) ?_)
    refine aM H G G (fun _ S=>aT rfl) ?_;clear H a;intro a H
    refine aM H G G (fun _ S=>aR G G) ?_;clear H a;intro a H
    refine aM H G G (fun _ S=>aR G G) ?_;clear H a;intro a H
    refine aM H G G (fun _ S=>aR G G) ?_;clear H a;intro a H
    refine aK rfl ?_
    refine aJ H rfl S dR ?_;clear H a S;intro b3 _ a hb3 hbw3 S H
    refine wpList_nil (And.intro (Or.inr (S.sel [3] G G)) ?_)
    refine aK rfl ?_
    refine aD H S (i:=2) G G G G bA G G ?_
    clear H a S;intro _ a S H
    refine wpList_nil (And.intro (Or.inr (S.sel [3] G G)) ?_)
    refine aK rfl ?_
    refine aD H S (i:=0) G G G G bA G G ?_
    clear H a S;intro _ a S H
    refine wpList_nil (And.intro (Or.inr (S.sel [3] G G)) ?_)
    refine aM H G G (fun _ S=>bF rfl) ?_;clear H a;intro a H
    refine bE ?_
    refine k3 _ _ ?_
    clear k3 K3
    replace H:=H.keep [2,4] rfl
    refine aB fun K22 k22=>?_
    refine aA H G G Try.func21 G G (bW _) ?_;clear H a
    rintro _ _ a ⟨SA,B0,B1,B2,B3,B4,QA,TA,rfl,S2⟩ H
    replace S:=S.call S2;clear S2
    refine ls 3 H<|sr 3 rfl<|sE ?_;clear H a;intro a H
    refine aJ H rfl S gE ?_;clear H a S;intro b5 _ a hb5 hbw5 S H
    refine aD H S (i:=0) G G G G cM G G ?_
    clear H a S;intro _ a S H
    refine ls 1 H<|sr 1 rfl<|sE ?_;clear H a;intro a H
    refine k22 _ _ ?_;clear k22 K22
    replace H:=H.keep [2,4,5] rfl
    refine aB fun K23 k23=>?_
    refine ls 1 H<|sd ((aC dB cM rfl S (i:=0) G G))<|sE ?_;clear H a;intro a H
    refine aA H G G Try.func22 G G (cR 2 exSw SA 4 exWs QA 5 (exOA B0 B1 B2 B3 B4) exOc _ (ownM.inS S (i:=1) rfl) (ownM.inS S (i:=7) rfl) (fun k hk=>by
      rcases k with _|_|_|_|_|k
      · exact ownM.inS S (i:=2) rfl
      · exact ownM.inS S (i:=3) rfl
      · exact ownM.inS S (i:=4) rfl
      · exact ownM.inS S (i:=5) rfl
      · exact ownM.inS S (i:=6) rfl
      · exact absurd hk (by simp [exWs])
    ) exCir) ?_;clear H a
    rintro _ _ a ⟨A6,c6,rfl,S2⟩ H
    replace S:=S.call S2;clear S2
    rw [eC] at H
    refine ls 5 H<|sr 5 rfl<|sE ?_;clear H a;intro a H
    refine k23 _ _ ?_;clear k23 K23
    replace H:=H.keep [2,4,7,8] rfl
    refine sS H fun K24 k24=>sr 3 rfl<|sg 2 2 29 31 true G G (fun hg3=>sy hg3<|sr 1 rfl<|sy hg3<|sr 1 rfl<|sz 2 G G G)<|sa G G G<|sr 1 rfl<|sg 3 6 33 36 true G G (fun hg7=>sy hg7<|sd ((aC bL bA rfl S (i:=10) G G))<|sy hg7<|sd (aO fR G G)<|sy hg7<|sd (bN G G)<|sz 3 G G G)<|sa G G G<|sr 1 rfl<|sg 3 11 38 41 true G G (fun hg12=>sy hg12<|sr 1 rfl<|sy hg12<|sL gP rfl<|sy hg12<|sr 1 rfl<|sz 3 G G G)<|sa G G G<|sr 1 rfl<|sE ?_;clear H a;intro a H
    refine k24 _ ?_;clear k24 K24
    refine wp_ret ?_
    refine ret1 (fn:=Try.f9) rfl H rfl ?_
    exact ⟨rfl,(S.sel [] G G)⟩
   ·skip
    refine aJ H rfl S dR ?_;clear H a S;intro b3 _ a hb3 hbw3 S H
    refine wpList_nil (And.intro (Or.inr (S.sel [3] G G)) ?_)
    refine aK rfl ?_
    refine aA H G G Try.func19 G G (cB true 1000 20 2000 20000 exBr A4 2 60 0 500 0 _ (ownM.inS S (i:=1) rfl) (by decide)) ?_;clear H a
    rintro _ _ a ⟨tl,th,rfl,S2⟩ H
    replace S:=S.call S2;clear S2
    rw [eV] at H
    refine wpList_nil (And.intro (Or.inr (S.sel [3] G G)) ?_)
    refine aM H G G (fun _ S=>aT rfl) ?_;clear H a;intro a H
    refine aM H G G (fun _ S=>aR G G) ?_;clear H a;intro a H
    refine aM H G G (fun _ S=>aR G G) ?_;clear H a;intro a H
    refine aM H G G (fun _ S=>aR G G) ?_;clear H a;intro a H
    refine aK rfl ?_
    refine aD H S (i:=2) G G G G bA G G ?_
    clear H a S;intro _ a S H
    refine wpList_nil (And.intro (Or.inr (S.sel [3] G G)) ?_)
    refine aK rfl ?_
    refine aD H S (i:=0) G G G G bA G G ?_
    clear H a S;intro _ a S H
    refine wpList_nil (And.intro (Or.inr (S.sel [3] G G)) ?_)
    refine aM H G G (fun _ S=>bF rfl) ?_;clear H a;intro a H
    refine bE ?_
    refine k3 _ _ ?_
    clear k3 K3
    replace H:=H.keep [2,4] rfl
    refine aB fun K25 k25=>?_
    refine aA H G G Try.func21 G G (bW _) ?_;clear H a
    rintro _ _ a ⟨SA,B0,B1,B2,B3,B4,QA,TA,rfl,S2⟩ H
    replace S:=S.call S2;clear S2
    refine ls 3 H<|sr 3 rfl<|sE ?_;clear H a;intro a H
    refine aJ H rfl S gE ?_;clear H a S;intro b5 _ a hb5 hbw5 S H
    refine aD H S (i:=0) G G G G cM G G ?_
    clear H a S;intro _ a S H
    refine ls 1 H<|sr 1 rfl<|sE ?_;clear H a;intro a H
    refine k25 _ _ ?_;clear k25 K25
    replace H:=H.keep [2,4,5] rfl
    refine aB fun K26 k26=>?_
    refine ls 1 H<|sd ((aC dB cM rfl S (i:=0) G G))<|sE ?_;clear H a;intro a H
    refine aA H G G Try.func22 G G (cR 2 exSw SA 4 exWs QA 5 (exOA B0 B1 B2 B3 B4) exOc _ (ownM.inS S (i:=1) rfl) (ownM.inS S (i:=7) rfl) (fun k hk=>by
      rcases k with _|_|_|_|_|k
      · exact ownM.inS S (i:=2) rfl
      · exact ownM.inS S (i:=3) rfl
      · exact ownM.inS S (i:=4) rfl
      · exact ownM.inS S (i:=5) rfl
      · exact ownM.inS S (i:=6) rfl
      · exact absurd hk (by simp [exWs])
    ) exCir) ?_;clear H a
    rintro _ _ a ⟨A6,c6,rfl,S2⟩ H
    replace S:=S.call S2;clear S2
    rw [eC] at H
    refine ls 5 H<|sr 5 rfl<|sE ?_;clear H a;intro a H
    refine k26 _ _ ?_;clear k26 K26
    replace H:=H.keep [2,4,7,8] rfl
    refine sS H fun K27 k27=>sr 3 rfl<|sg 2 2 29 31 true G G (fun hg3=>sy hg3<|sr 1 rfl<|sy hg3<|sr 1 rfl<|sz 2 G G G)<|sa G G G<|sr 1 rfl<|sg 3 6 33 36 true G G (fun hg7=>sy hg7<|sd ((aC bL bA rfl S (i:=10) G G))<|sy hg7<|sd (aO fR G G)<|sy hg7<|sd (bN G G)<|sz 3 G G G)<|sa G G G<|sr 1 rfl<|sg 3 11 38 41 true G G (fun hg12=>sy hg12<|sr 1 rfl<|sy hg12<|sL gP rfl<|sy hg12<|sr 1 rfl<|sz 3 G G G)<|sa G G G<|sr 1 rfl<|sE ?_;clear H a;intro a H
    refine k27 _ ?_;clear k27 K27
    refine wp_ret ?_
    refine ret1 (fn:=Try.f9) rfl H rfl ?_
    exact ⟨rfl,(S.sel [] G G)⟩
  ·skip
   refine aJ H rfl S dR ?_;clear H a S;intro b3 _ a hb3 hbw3 S H
   refine wpList_nil (And.intro (Or.inr (S.sel [2] G G)) ?_)
   refine aK rfl ?_
   refine aA H G G Try.func20 G G (eW _) ?_;clear H a
   rintro _ _ a ⟨A4,rfl,S2⟩ H
   replace S:=S.call S2;clear S2
   refine wpList_nil (And.intro (Or.inr (S.sel [3] G G)) ?_)
   refine aK rfl ?_
   refine aA H G G Try.func19 G G (cB true 1000 20 2000 20000 exBr A4 2 60 0 500 0 _ (ownM.inS S (i:=0) rfl) (by decide)) ?_;clear H a
   rintro _ _ a ⟨tl,th,rfl,S2⟩ H
   replace S:=S.call S2;clear S2
   rw [eV] at H
   refine wpList_nil (And.intro (Or.inr (S.sel [3] G G)) ?_)
   refine aM H G G (fun _ S=>aT rfl) ?_;clear H a;intro a H
   refine aM H G G (fun _ S=>aR G G) ?_;clear H a;intro a H
   refine aM H G G (fun _ S=>aR G G) ?_;clear H a;intro a H
   refine aM H G G (fun _ S=>aR G G) ?_;clear H a;intro a H
   refine aK rfl ?_
   refine aD H S (i:=2) G G G G bA G G ?_
   clear H a S;intro _ a S H
   refine wpList_nil (And.intro (Or.inr (S.sel [3] G G)) ?_)
   refine aK rfl ?_
   refine aD H S (i:=1) G G G G bA G G ?_
   clear H a S;intro _ a S H
   refine wpList_nil (And.intro (Or.inr (S.sel [3] G G)) ?_)
   refine aM H G G (fun _ S=>bF rfl) ?_;clear H a;intro a H
   refine bE ?_
   refine k3 _ _ ?_
   clear k3 K3
   replace H:=H.keep [2,4] rfl
   refine aB fun K28 k28=>?_
   refine aA H G G Try.func21 G G (bW _) ?_;clear H a
   rintro _ _ a ⟨SA,B0,B1,B2,B3,B4,QA,TA,rfl,S2⟩ H
   replace S:=S.call S2;clear S2
   refine ls 3 H<|sr 3 rfl<|sE ?_;clear H a;intro a H
   refine aJ H rfl S gE ?_;clear H a S;intro b5 _ a hb5 hbw5 S H
   refine aD H S (i:=0) G G G G cM G G ?_
   clear H a S;intro _ a S H
   refine ls 1 H<|sr 1 rfl<|sE ?_;clear H a;intro a H
   refine k28 _ _ ?_;clear k28 K28
   replace H:=H.keep [2,4,5] rfl
   refine aB fun K29 k29=>?_
   refine ls 1 H<|sd ((aC dB cM rfl S (i:=0) G G))<|sE ?_;clear H a;intro a H
   refine aA H G G Try.func22 G G (cR 2 exSw SA 4 exWs QA 5 (exOA B0 B1 B2 B3 B4) exOc _ (ownM.inS S (i:=1) rfl) (ownM.inS S (i:=7) rfl) (fun k hk=>by
     rcases k with _|_|_|_|_|k
     · exact ownM.inS S (i:=2) rfl
     · exact ownM.inS S (i:=3) rfl
     · exact ownM.inS S (i:=4) rfl
     · exact ownM.inS S (i:=5) rfl
     · exact ownM.inS S (i:=6) rfl
     · exact absurd hk (by simp [exWs])
   ) exCir) ?_;clear H a
   rintro _ _ a ⟨A6,c6,rfl,S2⟩ H
   replace S:=S.call S2;clear S2
   rw [eC] at H
   refine ls 5 H<|sr 5 rfl<|sE ?_;clear H a;intro a H
   refine k29 _ _ ?_;clear k29 K29
   replace H:=H.keep [2,4,7,8] rfl
   refine sS H fun K30 k30=>sr 3 rfl<|sg 2 2 29 31 true G G (fun hg3=>sy hg3<|sr 1 rfl<|sy hg3<|sr 1 rfl<|sz 2 G G G)<|sa G G G<|sr 1 rfl<|sg 3 6 33 36 true G G (fun hg7=>sy hg7<|sd ((aC bL bA rfl S (i:=10) G G))<|sy hg7<|sd (aO fR G G)<|sy hg7<|sd (bN G G)<|sz 3 G G G)<|sa G G G<|sr 1 rfl<|sg 3 11 38 41 true G G (fun hg12=>sy hg12<|sr 1 rfl<|sy hg12<|sL gP rfl<|sy hg12<|sr 1 rfl<|sz 3 G G G)<|sa G G G<|sr 1 rfl<|sE ?_;clear H a;intro a H
   refine k30 _ ?_;clear k30 K30
   refine wp_ret ?_
   refine ret1 (fn:=Try.f9) rfl H rfl ?_
   exact ⟨rfl,(S.sel [] G G)⟩
 ·skip
  refine aJ H rfl S dR ?_;clear H a S;intro b3 _ a hb3 hbw3 S H
  refine wpList_nil (And.intro (Or.inr (S.sel [1] G G)) ?_)
  refine cZ G G ?_ ?_
  ·skip
   refine aA H G G Try.func20 G G (eW _) ?_;clear H a
   rintro _ _ a ⟨A4,rfl,S2⟩ H
   replace S:=S.call S2;clear S2
   refine wpList_nil (And.intro (Or.inr (S.sel [2] G G)) ?_)
   refine cZ G G ?_ ?_
   ·skip
    refine aA H G G Try.func19 G G (cB true 1000 20 2000 20000 exBr A4 2 60 0 500 0 _ (ownM.inS S (i:=0) rfl) (by decide)) ?_;clear H a
    rintro _ _ a ⟨tl,th,rfl,S2⟩ H
    replace S:=S.call S2;clear S2
    rw [eV] at H
    refine wpList_nil (And.intro (Or.inr (S.sel [2] G G)) ?_)
    refine aM H G G (fun _ S=>aT rfl) ?_;clear H a;intro a H
    refine aM H G G (fun _ S=>aR G G) ?_;clear H a;intro a H
    refine aM H G G (fun _ S=>aR G G) ?_;clear H a;intro a H
    refine aM H G G (fun _ S=>aR G G) ?_;clear H a;intro a H
    refine aK rfl ?_
    refine aJ H rfl S dR ?_;clear H a S;intro b2 _ a hb2 hbw2 S H
    refine wpList_nil (And.intro (Or.inr (S.sel [3] G G)) ?_)
    refine aK rfl ?_
    refine aD H S (i:=0) G G G G bA G G ?_
    clear H a S;intro _ a S H
    refine wpList_nil (And.intro (Or.inr (S.sel [3] G G)) ?_)
    refine aK rfl ?_
    refine aD H S (i:=2) G G G G bA G G ?_
    clear H a S;intro _ a S H
    refine wpList_nil (And.intro (Or.inr (S.sel [3] G G)) ?_)
    refine aM H G G (fun _ S=>bF rfl) ?_;clear H a;intro a H
    refine bE ?_
    refine k3 _ _ ?_
    clear k3 K3
    replace H:=H.keep [2,4] rfl
    refine aB fun K31 k31=>?_
    refine aA H G G Try.func21 G G (bW _) ?_;clear H a
    rintro _ _ a ⟨SA,B0,B1,B2,B3,B4,QA,TA,rfl,S2⟩ H
    replace S:=S.call S2;clear S2
    refine ls 3 H<|sr 3 rfl<|sE ?_;clear H a;intro a H
    refine aJ H rfl S gE ?_;clear H a S;intro b5 _ a hb5 hbw5 S H
    refine aD H S (i:=0) G G G G cM G G ?_
    clear H a S;intro _ a S H
    refine ls 1 H<|sr 1 rfl<|sE ?_;clear H a;intro a H
    refine k31 _ _ ?_;clear k31 K31
    replace H:=H.keep [2,4,5] rfl
    refine aB fun K32 k32=>?_
    refine ls 1 H<|sd ((aC dB cM rfl S (i:=0) G G))<|sE ?_;clear H a;intro a H
    refine aA H G G Try.func22 G G (cR 2 exSw SA 4 exWs QA 5 (exOA B0 B1 B2 B3 B4) exOc _ (ownM.inS S (i:=1) rfl) (ownM.inS S (i:=7) rfl) (fun k hk=>by
      rcases k with _|_|_|_|_|k
      · exact ownM.inS S (i:=2) rfl
      · exact ownM.inS S (i:=3) rfl
      · exact ownM.inS S (i:=4) rfl
      · exact ownM.inS S (i:=5) rfl
      · exact ownM.inS S (i:=6) rfl
      · exact absurd hk (by simp [exWs])
    ) exCir) ?_;clear H a
    rintro _ _ a ⟨A6,c6,rfl,S2⟩ H
    replace S:=S.call S2;clear S2
    rw [eC] at H
    refine ls 5 H<|sr 5 rfl<|sE ?_;clear H a;intro a H
    refine k32 _ _ ?_;clear k32 K32
    replace H:=H.keep [2,4,7,8] rfl
    refine sS H fun K33 k33=>sr 3 rfl<|sg 2 2 29 31 true G G (fun hg3=>sy hg3<|sr 1 rfl<|sy hg3<|sr 1 rfl<|sz 2 G G G)<|sa G G G<|sr 1 rfl<|sg 3 6 33 36 true G G (fun hg7=>sy hg7<|sd ((aC bL bA rfl S (i:=8) G G))<|sy hg7<|sd (aO fR G G)<|sy hg7<|sd (bN G G)<|sz 3 G G G)<|sa G G G<|sr 1 rfl<|sg 3 11 38 41 true G G (fun hg12=>sy hg12<|sr 1 rfl<|sy hg12<|sL gP rfl<|sy hg12<|sr 1 rfl<|sz 3 G G G)<|sa G G G<|sr 1 rfl<|sE ?_;clear H a;intro a H
    refine k33 _ ?_;clear k33 K33
    refine wp_ret ?_
    refine ret1 (fn:=Try.f9) rfl H rfl ?_
    exact ⟨rfl,(S.sel [] G G)⟩
   ·skip
    refine aJ H rfl S dR ?_;clear H a S;intro b2 _ a hb2 hbw2 S H
    refine wpList_nil (And.intro (Or.inr (S.sel [3] G G)) ?_)
    refine aK rfl ?_
    refine aA H G G Try.func19 G G (cB true 1000 20 2000 20000 exBr A4 2 60 0 500 0 _ (ownM.inS S (i:=1) rfl) (by decide)) ?_;clear H a
    rintro _ _ a ⟨tl,th,rfl,S2⟩ H
    replace S:=S.call S2;clear S2
    rw [eV] at H
    refine wpList_nil (And.intro (Or.inr (S.sel [3] G G)) ?_)
    refine aM H G G (fun _ S=>aT rfl) ?_;clear H a;intro a H
    refine aM H G G (fun _ S=>aR G G) ?_;clear H a;intro a H
    refine aM H G G (fun _ S=>aR G G) ?_;clear H a;intro a H
    refine aM H G G (fun _ S=>aR G G) ?_;clear H a;intro a H
    refine aK rfl ?_
    refine aD H S (i:=0) G G G G bA G G ?_
    clear H a S;intro _ a S H
    refine wpList_nil (And.intro (Or.inr (S.sel [3] G G)) ?_)
    refine aK rfl ?_
    refine aD H S (i:=2) G G G G bA G G ?_
    clear H a S;intro _ a S H
    refine wpList_nil (And.intro (Or.inr (S.sel [3] G G)) ?_)
    refine aM H G G (fun _ S=>bF rfl) ?_;clear H a;intro a H
    refine bE ?_
    refine k3 _ _ ?_
    clear k3 K3
    replace H:=H.keep [2,4] rfl
    refine aB fun K34 k34=>?_
    refine aA H G G Try.func21 G G (bW _) ?_;clear H a
    rintro _ _ a ⟨SA,B0,B1,B2,B3,B4,QA,TA,rfl,S2⟩ H
    replace S:=S.call S2;clear S2
    refine ls 3 H<|sr 3 rfl<|sE ?_;clear H a;intro a H
    refine aJ H rfl S gE ?_;clear H a S;intro b5 _ a hb5 hbw5 S H
    refine aD H S (i:=0) G G G G cM G G ?_
    clear H a S;intro _ a S H
    refine ls 1 H<|sr 1 rfl<|sE ?_;clear H a;intro a H
    refine k34 _ _ ?_;clear k34 K34
    replace H:=H.keep [2,4,5] rfl
    refine aB fun K35 k35=>?_
    refine ls 1 H<|sd ((aC dB cM rfl S (i:=0) G G))<|sE ?_;clear H a;intro a H
    refine aA H G G Try.func22 G G (cR 2 exSw SA 4 exWs QA 5 (exOA B0 B1 B2 B3 B4) exOc _ (ownM.inS S (i:=1) rfl) (ownM.inS S (i:=7) rfl) (fun k hk=>by
      rcases k with _|_|_|_|_|k
      · exact ownM.inS S (i:=2) rfl
      · exact ownM.inS S (i:=3) rfl
      · exact ownM.inS S (i:=4) rfl
      · exact ownM.inS S (i:=5) rfl
      · exact ownM.inS S (i:=6) rfl
      · exact absurd hk (by simp [exWs])
    ) exCir) ?_;clear H a
    rintro _ _ a ⟨A6,c6,rfl,S2⟩ H
    replace S:=S.call S2;clear S2
    rw [eC] at H
    refine ls 5 H<|sr 5 rfl<|sE ?_;clear H a;intro a H
    refine k35 _ _ ?_;clear k35 K35
    replace H:=H.keep [2,4,7,8] rfl
    refine sS H fun K36 k36=>sr 3 rfl<|sg 2 2 29 31 true G G (fun hg3=>sy hg3<|sr 1 rfl<|sy hg3<|sr 1 rfl<|sz 2 G G G)<|sa G G G<|sr 1 rfl<|sg 3 6 33 36 true G G (fun hg7=>sy hg7<|sd ((aC bL bA rfl S (i:=8) G G))<|sy hg7<|sd (aO fR G G)<|sy hg7<|sd (bN G G)<|sz 3 G G G)<|sa G G G<|sr 1 rfl<|sg 3 11 38 41 true G G (fun hg12=>sy hg12<|sr 1 rfl<|sy hg12<|sL gP rfl<|sy hg12<|sr 1 rfl<|sz 3 G G G)<|sa G G G<|sr 1 rfl<|sE ?_;clear H a;intro a H
    refine k36 _ ?_;clear k36 K36
    refine wp_ret ?_
    refine ret1 (fn:=Try.f9) rfl H rfl ?_
    exact ⟨rfl,(S.sel [] G G)⟩
  ·skip
   refine aJ H rfl S dR ?_;clear H a S;intro b2 _ a hb2 hbw2 S H
   refine wpList_nil (And.intro (Or.inr (S.sel [2] G G)) ?_)
   refine aK rfl ?_
   refine aA H G G Try.func20 G G (eW _) ?_;clear H a
   rintro _ _ a ⟨A4,rfl,S2⟩ H
   replace S:=S.call S2;clear S2
   refine wpList_nil (And.intro (Or.inr (S.sel [3] G G)) ?_)
   refine aK rfl ?_
   refine aA H G G Try.func19 G G (cB true 1000 20 2000 20000 exBr A4 2 60 0 500 0 _ (ownM.inS S (i:=0) rfl) (by decide)) ?_;clear H a
   rintro _ _ a ⟨tl,th,rfl,S2⟩ H
   replace S:=S.call S2;clear S2
   rw [eV] at H
   refine wpList_nil (And.intro (Or.inr (S.sel [3] G G)) ?_)
   refine aM H G G (fun _ S=>aT rfl) ?_;clear H a;intro a H
   refine aM H G G (fun _ S=>aR G G) ?_;clear H a;intro a H
   refine aM H G G (fun _ S=>aR G G) ?_;clear H a;intro a H
   refine aM H G G (fun _ S=>aR G G) ?_;clear H a;intro a H
   refine aK rfl ?_
   refine aD H S (i:=1) G G G G bA G G ?_
   clear H a S;intro _ a S H
   refine wpList_nil (And.intro (Or.inr (S.sel [3] G G)) ?_)
   refine aK rfl ?_
   refine aD H S (i:=2) G G G G bA G G ?_
   clear H a S;intro _ a S H
   refine wpList_nil (And.intro (Or.inr (S.sel [3] G G)) ?_)
   refine aM H G G (fun _ S=>bF rfl) ?_;clear H a;intro a H
   refine bE ?_
   refine k3 _ _ ?_
   clear k3 K3
   replace H:=H.keep [2,4] rfl
   refine aB fun K37 k37=>?_
   refine aA H G G Try.func21 G G (bW _) ?_;clear H a
   rintro _ _ a ⟨SA,B0,B1,B2,B3,B4,QA,TA,rfl,S2⟩ H
   replace S:=S.call S2;clear S2
   refine ls 3 H<|sr 3 rfl<|sE ?_;clear H a;intro a H
   refine aJ H rfl S gE ?_;clear H a S;intro b5 _ a hb5 hbw5 S H
   refine aD H S (i:=0) G G G G cM G G ?_
   clear H a S;intro _ a S H
   refine ls 1 H<|sr 1 rfl<|sE ?_;clear H a;intro a H
   refine k37 _ _ ?_;clear k37 K37
   replace H:=H.keep [2,4,5] rfl
   refine aB fun K38 k38=>?_
   refine ls 1 H<|sd ((aC dB cM rfl S (i:=0) G G))<|sE ?_;clear H a;intro a H
   refine aA H G G Try.func22 G G (cR 2 exSw SA 4 exWs QA 5 (exOA B0 B1 B2 B3 B4) exOc _ (ownM.inS S (i:=1) rfl) (ownM.inS S (i:=7) rfl) (fun k hk=>by
     rcases k with _|_|_|_|_|k
     · exact ownM.inS S (i:=2) rfl
     · exact ownM.inS S (i:=3) rfl
     · exact ownM.inS S (i:=4) rfl
     · exact ownM.inS S (i:=5) rfl
     · exact ownM.inS S (i:=6) rfl
     · exact absurd hk (by simp [exWs])
   ) exCir) ?_;clear H a
   rintro _ _ a ⟨A6,c6,rfl,S2⟩ H
   replace S:=S.call S2;clear S2
   rw [eC] at H
   refine ls 5 H<|sr 5 rfl<|sE ?_;clear H a;intro a H
   refine k38 _ _ ?_;clear k38 K38
   replace H:=H.keep [2,4,7,8] rfl
   refine sS H fun K39 k39=>sr 3 rfl<|sg 2 2 29 31 true G G (fun hg3=>sy hg3<|sr 1 rfl<|sy hg3<|sr 1 rfl<|sz 2 G G G)<|sa G G G<|sr 1 rfl<|sg 3 6 33 36 true G G (fun hg7=>sy hg7<|sd ((aC bL bA rfl S (i:=9) G G))<|sy hg7<|sd (aO fR G G)<|sy hg7<|sd (bN G G)<|sz 3 G G G)<|sa G G G<|sr 1 rfl<|sg 3 11 38 41 true G G (fun hg12=>sy hg12<|sr 1 rfl<|sy hg12<|sL gP rfl<|sy hg12<|sr 1 rfl<|sz 3 G G G)<|sa G G G<|sr 1 rfl<|sE ?_;clear H a;intro a H
   refine k39 _ ?_;clear k39 K39
   refine wp_ret ?_
   refine ret1 (fn:=Try.f9) rfl H rfl ?_
   exact ⟨rfl,(S.sel [] G G)⟩
end
section
theorem xZ {h:Hq} {A:Option Addr} {c:Nat} {vs:List Value} (h0:vs.getD 0 undef = .int .i64 h.out) (h1:vs.getD 1 undef = .bool h.help) (h2:vs.getD 2 undef = .slice A h.pe.length c):∀ k j,k<1→j<3→([vs].getD k []).getD j undef=hcl [h] (fun _=>A) (fun _=>c) k j:=fun k j hk hj=>by
  obtain rfl:k=0:=by omega
  match j,hj with
  | 0,_=>exact h0
  | 1,_=>exact h1
  | 2,_=>exact h2
section
variable {pl:Int} {ps:List Psg} {xs pe:List Int} {T0 out:Int} {hlp:Bool} {prs:List Prm}
noncomputable def kepW (pl:Int) (ps:List Psg) (xs pe:List Int) (hlp:Bool) (T0:Int) (prs:List Prm) (out:Int):Bool:=(safeV pl ps xs [⟨out,hlp,pe⟩] T0).2.1&&(keptV pl ps xs [⟨out,hlp,pe⟩] prs).2.2.1
theorem Js (h:keptE pl ps xs [⟨0,false,pe⟩] prs=0) (ho:0≤out∧out≤4095):dayE pl ps xs [⟨out,hlp,pe⟩]=0∧keptE pl ps xs [⟨out,hlp,pe⟩] prs=0:=by
  obtain ⟨h1,h2,h3⟩:=Dp h
  obtain ⟨h4,h5⟩:=xP h1
  have h6:=(oX h5).2 0 (show 0<1 by decide)
  have hd:dayE pl ps xs [⟨out,hlp,pe⟩]=0:=by
    unfold dayE
    rw [if_neg (by omega),if_pos]
    unfold dayOk
    rw [Bool.and_eq_true,decide_eq_true_eq,bX]
    refine ⟨fun k hk=>?_,show 1≤48 by decide⟩
    obtain rfl:k=0:=by have h9:k<1:=hk;omega
    unfold hqOk
    rw [Bool.and_eq_true,decide_eq_true_eq]
    exact ⟨ho,h6.2⟩
  refine ⟨hd,?_⟩
  unfold keptE
  rw [if_neg (by omega),if_pos]
  unfold prsOk
  rw [Bool.and_eq_true,decide_eq_true_eq,bX]
  exact ⟨h3,h2⟩
theorem Gy (h:dayE pl ps xs [⟨out,hlp,pe⟩]=0) (hT:0≤T0∧T0≤60):(safeV pl ps xs [⟨out,hlp,pe⟩] T0).2.2=0:=by
  unfold safeV
  rw [if_neg (by omega),if_neg (fun h9=>h9 hT)]
  split <;> rfl
theorem Gz (h:keptE pl ps xs [⟨out,hlp,pe⟩] prs=0):(keptV pl ps xs [⟨out,hlp,pe⟩] prs).2.2.2=0:=by
  unfold keptV
  rw [if_neg (by omega)]
  split <;> rfl
end
def nvN (K:Int→Bool):Nat→List Int
  | 0=>[]
  | o+1=>if K (o:Int)=true then nvN K o else nvN K o++[(o:Int)]
section
variable {K:Int→Bool} {o q:Nat} {mm cr un:Int} {js:List Jq} {st:List Int}
theorem Lf (h:K (o:Int)=true):nvN K o=nvN K (o+1):=by rw [nvN,if_pos h]
theorem Lg (h:K (o:Int)=false):nvN K o++[(o:Int)]=nvN K (o+1):=by rw [nvN,if_neg (by rw [h];simp)]
theorem yA:∀ o,(nvN K o).length≤o:=by
  intro o
  induction o with
  | zero=>exact Nat.le_refl 0
  | succ o ih=>
    rw [nvN]
    split
    · omega
    · rw [List.length_append];show _+1≤_;omega
theorem yB {x:Int}:∀ {o},x ∈ nvN K o↔∃ k:Nat,k<o∧x=(k:Int)∧K x=false:=by
  intro o
  induction o with
  | zero=>exact ⟨(fun h=>by cases h),fun ⟨k,h,_⟩=>absurd h (Nat.not_lt_zero k)⟩
  | succ o ih=>
    rw [nvN]
    by_cases h:K (o:Int)=true
    · rw [if_pos h,ih]
      constructor
      · rintro ⟨k,h1,h2⟩;exact ⟨k,by omega,h2⟩
      · rintro ⟨k,h1,h2,h3⟩
        by_cases e:k=o
        · subst e;rw [h2,h] at h3;cases h3
        · exact ⟨k,by omega,h2,h3⟩
    · rw [if_neg h,List.mem_append,ih,List.mem_singleton]
      constructor
      · rintro (⟨k,h1,h2⟩|h1)
        · exact ⟨k,by omega,h2⟩
        · exact ⟨o,by omega,h1,by rw [h1];simpa using h⟩
      · rintro ⟨k,h1,h2,h3⟩
        by_cases e:k=o
        · subst e;exact .inr h2
        · exact .inl ⟨k,by omega,h2,h3⟩
theorem pw16 (h:mm≤4):(1:Int)*2^mm.toNat≤16:=by
  have e:(2:Int)^mm.toNat=((2^mm.toNat:Nat):Int):=(Int.natCast_pow 2 mm.toNat).symm
  have h2:2^mm.toNat≤2^4:=Nat.pow_le_pow_right (by decide) (by omega)
  rw [Int.one_mul,e];omega
theorem yC (h1:1≤o→K 0=true) (h:K (o:Int)=true∨¬ o=0):K 0=true:=by
  by_cases e:o=0
  · subst e;exact h.resolve_right (fun h9=>h9 rfl)
  · exact h1 (by omega)
theorem Aj {l:List Int} {k:Nat} (h:k<l.length):l.getD k 0 ∈ l:=by
  rw [List.getD_eq_getElem?_getD,List.getElem?_eq_getElem h];exact List.getElem_mem h
theorem Jt {nv:List Int} (V:WkV mm js nv cr un) (hm:mm≤4) (h0:K 0=true):WkV mm js (nvN K (1*2^mm.toNat:Int).toNat) cr un:=by
  have hp:=pwm V.mmb
  have h16:(2:Int)^mm.toNat≤16:=by
    have e:(2:Int)^mm.toNat=((2^mm.toNat:Nat):Int):=(Int.natCast_pow 2 mm.toNat).symm
    have h2:2^mm.toNat≤2^4:=Nat.pow_le_pow_right (by decide) (by omega)
    rw [e];omega
  refine V.never (by have:=yA (K:=K) (1*2^mm.toNat:Int).toNat;omega) fun q hq=>?_
  obtain ⟨k,h1,h2,h3⟩:=yB.1 (Aj hq)
  rw [h2] at h3 ⊢
  have:k≠0:=fun e=>by subst e;rw [show ((0:Nat):Int)=0 from rfl,h0] at h3;cases h3
  omega
theorem Ha {nv:List Int} (V:WkV mm js nv cr un) (h0:K 0=true) (hR:WkR js (nvN K (1*2^mm.toNat:Int).toNat) cr un st) {n:Nat} (hn:(n:Int)<un):K (nSet js st n js.length)=true:=by
  refine Classical.byContradiction fun h=>?_
  have hb:=nP (st:=st) (d:=(n:Int)) V js.length (Nat.le_refl _)
  obtain ⟨o,ho⟩:=Int.eq_ofNat_of_zero_le hb.1
  have hmem:nSet js st n js.length ∈ nvN K (1*2^mm.toNat:Int).toNat:=yB.2 ⟨o,by omega,ho,by simpa using h⟩
  obtain ⟨q,hq,he⟩:=List.getElem_of_mem hmem
  have h2:=hR.nev n hn q hq
  rw [List.getD_eq_getElem?_getD,List.getElem?_eq_getElem hq,Option.getD_some,he] at h2
  apply h2
  rw [ho]
  unfold landI
  rw [Int.toNat_natCast,Nat.and_self]
end
theorem uI (pl:Int) (ps:List Psg) (PA:Option Addr) (pc:Nat) (xs:List Int) (XA:Option Addr) (xc:Nat) (pe:List Int) (BA:Option Addr) (bc:Nat) (hlp:Bool) (T0:Int) (prs:List Prm) (QA:Option Addr) (qc:Nat) (out:Int) (w:World) (hps:InS w noF 7 PA ps.length (pcell ps)) (hpn:ps.length≤9223372036854775807) (hxs:InS w noF 1 XA xs.length (icl xs)) (hxn:xs.length≤9223372036854775807) (hpe:InS w noF 1 BA pe.length (icl pe)) (hpen:pe.length≤9223372036854775807) (hprs:InS w noF 5 QA prs.length (jN prs)) (hprn:prs.length≤9223372036854775807) (hlv:jL pl ps xs 0 pe T0=0) (hkE:keptE pl ps xs [(⟨0,false,pe⟩:Hq)] prs=0) (ho:0≤out∧out≤4095) :
    Calls Try.prog 10 [.agg [.int .i64 pl,.slice PA ps.length pc,.slice XA xs.length xc].toArray,.agg [.slice BA pe.length bc,.bool hlp,.int .i64 T0,.slice QA prs.length qc].toArray,.int .i64 out].toArray w (Ret (fun u w'=>u = .tuple #[.bool (kepW pl ps xs pe hlp T0 prs out),.bool true]∧St w noF [] w')):=by
 have hlo:=mJ hlv
 obtain ⟨hk1,hk2⟩:=Js (hlp:=hlp) hkE ho
 have hk3:=Gy (T0:=T0) hk1 hlo.2.2.2
 have hk4:=Gz hk2
 refine enter Try.func10 rfl Try.ntmps10 rfl (fun a H=>?_)
 have S:=St.start w
 refine aB fun K1 k1=>?_
 refine aS H rfl S G G ?_;clear H a S;intro b3 _ a hb3 hbw3 S H
 refine aS H rfl S G G ?_;clear H a S;intro b4 _ a hb4 hbw4 S H
 refine ls 2 H<|sr 2 rfl<|sE ?_;clear H a;intro a H
 refine k1 _ _ ?_;clear k1 K1
 replace H:=H.keep [2,3,4] rfl
 refine aB fun K2 k2=>?_
 refine ls 6 H<|sr 1 rfl<|sf Fg rfl<|sl S 0 lB G G G<|sf nH rfl<|sl S 0 aZ G G G<|sd (aO Hk G G)<|sE ?_;clear H a;intro a H
 refine aY H rfl S gO gL pX G G G G G G G G G ?_;clear H a S;intro A1 _ a hA1 S H
 replace S:=S.recell (i:=0) rfl (cell':=hcl [(⟨out,hlp,pe⟩:Hq)] (fun _=>BA) (fun _=>bc)) (fun k9 j9 hk9 hj9=>xZ G G G k9 j9 hk9 hj9)
 refine ls 1 H<|sr 1 rfl<|sE ?_;clear H a;intro a H
 refine k2 _ _ ?_;clear k2 K2
 replace H:=H.keep [3,4,8] rfl
 refine aB fun K3 k3=>?_
 refine ls 4 H<|sd ((aC cN dI rfl S (i:=2) G G))<|sr 1 rfl<|sf rC rfl<|sl S 1 aF G G G<|sE ?_;clear H a;intro a H
 refine aA H G G Try.func23 G G (zX pl ps PA pc xs XA xc [(⟨out,hlp,pe⟩:Hq)] _ _ (fun _=>BA) (fun _=>bc) T0 _ (hps.now S) hpn (hxs.now S) hxn (ownM.inS S (i:=0) rfl) (show 1≤9223372036854775807 by decide) (fun k9 hk9=>by
   obtain rfl:k9=0:=by have h9:k9<1:=hk9;omega
   exact (hpe.now S)) (fun k9 hk9=>by
   obtain rfl:k9=0:=by have h9:k9<1:=hk9;omega
   exact hpen)) ?_;clear H a
 rintro _ _ a ⟨rfl,S2⟩ H
 replace S:=S.call S2;clear S2
 refine ls 7 H<|sr 7 rfl<|sE ?_;clear H a;intro a H
 refine k3 _ _ ?_;clear k3 K3
 replace H:=H.keep [3,4,8,10,11] rfl
 refine aB fun K4 k4=>?_
 refine ls 4 H<|sd ((aC cN dI rfl S (i:=2) G G))<|sr 1 rfl<|sf rD rfl<|sl S 1 vD G G G<|sE ?_;clear H a;intro a H
 refine aA H G G Try.func24 G G (zU pl ps PA pc xs XA xc [(⟨out,hlp,pe⟩:Hq)] _ _ (fun _=>BA) (fun _=>bc) prs QA qc _ (hps.now S) hpn (hxs.now S) hxn (ownM.inS S (i:=0) rfl) (show 1≤9223372036854775807 by decide) (fun k9 hk9=>by
   obtain rfl:k9=0:=by have h9:k9<1:=hk9;omega
   exact (hpe.now S)) (fun k9 hk9=>by
   obtain rfl:k9=0:=by have h9:k9<1:=hk9;omega
   exact hpen) (hprs.now S) hprn) ?_;clear H a
 rintro _ _ a ⟨rfl,S2⟩ H
 replace S:=S.call S2;clear S2
 refine ls 9 H<|sr 9 rfl<|sE ?_;clear H a;intro a H
 refine k4 _ _ ?_;clear k4 K4
 replace H:=H.keep [10,11,14,15] rfl
 refine sS H fun K5 k5=>sr 2 rfl<|sg 1 1 43 44 true G G (fun hg2=>sy hg2<|sr 1 rfl<|sz 1 G G G)<|sa G G G<|sr 3 rfl<|sg 2 6 48 50 true G G (fun hg7=>sy hg7<|sr 1 rfl<|sy hg7<|sr 1 rfl<|sz 2 G G G)<|sa G G G<|sr 2 rfl<|sE ?_;clear H a;intro a H
 refine k5 _ ?_;clear k5 K5
 refine wp_ret ?_
 refine ret2 (fn:=Try.f10) rfl H G G ?_
 exact ⟨by rw [hk3,hk4];rfl,(S.sel [] G G)⟩
theorem pS (pl:Int) (ps:List Psg) (PA:Option Addr) (pc:Nat) (xs:List Int) (XA:Option Addr) (xc:Nat) (mm:Int) (js:List Jq) (JA:Option Addr) (jc:Nat) (AA:Nat→Option Addr) (ac:Nat→Nat) (nv:List Int) (NA:Option Addr) (nc:Nat) (cr un:Int) (pe:List Int) (BA:Option Addr) (bc:Nat) (hlp:Bool) (T0:Int) (prs:List Prm) (QA:Option Addr) (qc:Nat) (w:World) (hps:InS w noF 7 PA ps.length (pcell ps)) (hpn:ps.length≤9223372036854775807) (hxs:InS w noF 1 XA xs.length (icl xs)) (hxn:xs.length≤9223372036854775807) (hjs:InS w noF 3 JA js.length (eR js AA ac)) (hnv:InS w noF 1 NA nv.length (icl nv)) (haf:∀ k,k<js.length→InS w noF 1 (AA k) (js.getD k Jq.zero).after.length (icl (js.getD k Jq.zero).after)) (hjn:js.length≤9223372036854775807) (hnn:nv.length≤9223372036854775807) (han:∀ k,k<js.length→(js.getD k Jq.zero).after.length≤9223372036854775807) (hpe:InS w noF 1 BA pe.length (icl pe)) (hpen:pe.length≤9223372036854775807) (hprs:InS w noF 5 QA prs.length (jN prs)) (hprn:prs.length≤9223372036854775807) :
    Calls Try.prog 3 [.agg [.int .i64 pl,.slice PA ps.length pc,.slice XA xs.length xc].toArray,.agg [.int .i64 mm,.slice JA js.length jc,.slice NA nv.length nc,.int .i64 cr,.int .i64 un].toArray,.agg [.slice BA pe.length bc,.bool hlp,.int .i64 T0,.slice QA prs.length qc].toArray].toArray w (Ret (fun u w'=>u = .bool true∧St w noF [] w')):=by
 refine enter Try.func3 rfl Try.ntmps3 rfl (fun a H=>?_)
 have S:=St.start w
 refine aB fun K1 k1=>?_
 refine aS H rfl S G G ?_;clear H a S;intro b3 _ a hb3 hbw3 S H
 refine aS H rfl S G G ?_;clear H a S;intro b4 _ a hb4 hbw4 S H
 refine aS H rfl S G G ?_;clear H a S;intro b5 _ a hb5 hbw5 S H
 refine ls 1 H<|sr 1 rfl<|sE ?_;clear H a;intro a H
 refine k1 _ _ ?_;clear k1 K1
 refine wp_seq_k fun K2 k2=>?_
 replace H:=H.keep [3,4,5] rfl
 refine aB fun K3 k3=>?_
 refine ls 5 H<|sd ((aC cN dI rfl S (i:=2) G G))<|sf nH rfl<|sl S 0 aZ G G G<|sf rC rfl<|sl S 0 aF G G G<|sE ?_;clear H a;intro a H
 refine aA H G G Try.func4 G G (uF pl ps PA pc xs XA xc pe BA bc T0 _ (hps.now S) hpn (hxs.now S) hxn (hpe.now S) hpen) ?_;clear H a
 rintro _ _ a ⟨cb,rfl,hcb,S2⟩ H
 replace S:=S.call S2;clear S2
 refine ls 1 H<|sr 1 rfl<|sE ?_;clear H a;intro a H
 apply bP (i:=6) (g:=24) (t:=26) (b:=false) 2 H S G G (by kernel_rfl) (by kernel_rfl) G G
 case h1=>
  intro hg7
  have hq7:=hg7;try simp only [o1,o2,o3,o4,o5,o6,o7,o8,o9,oa] at hq7
  refine ls 1 H<|sy hg7<|sd ((aC fC iA rfl S (i:=1) G G))<|sE ?_;intro a H
  refine cC H G G (by assumption) ?_
  refine aA H G G Try.func5 G G (Iy mm js JA jc AA ac nv NA nc cr un _ (hjs.now S) (hnv.now S) (fun k hk=>(haf k hk).now S) hjn hnn han) ?_
  rintro _ _ a ⟨rfl,S2⟩ H
  replace S:=S.call S2;clear S2
  exact wpList_nil ⟨H.strip 2 G G,(S.sel [0,1,2] G G)⟩
 clear H a S;intro a _ H S
 refine ls 2 H<|so G G G<|sr 1 rfl<|sE ?_;clear H a;intro a H
 apply bP (i:=10) (g:=28) (t:=35) (b:=false) 7 H S G G (by kernel_rfl) (by kernel_rfl) G G
 case h1=>
  intro hg11
  have hq11:=hg11;try simp only [o1,o2,o3,o4,o5,o6,o7,o8,o9,oa] at hq11
  refine ls 5 H<|sy hg11<|sd ((aC cN dI rfl S (i:=2) G G))<|sy hg11<|sf nH rfl<|sy hg11<|sl S 0 aZ G G G<|sy hg11<|sf rC rfl<|sy hg11<|sl S 0 aF G G G<|sE ?_;intro a H
  refine cC H G G (by assumption) ?_
  refine aA H G G Try.func6 G G (jO pl ps PA pc xs XA xc 0 pe BA bc T0 _ (hps.now S) hpn (hxs.now S) hxn (hpe.now S) hpen) ?_
  rintro _ _ a ⟨rfl,S2⟩ H
  replace S:=S.call S2;clear S2
  refine ls 1 H<|sy hg11<|sr 1 rfl<|sE ?_;intro a H
  exact wpList_nil ⟨H.strip 7 G G,(S.sel [0,1,2] G G)⟩
 clear H a S;intro a _ H S
 refine ls 2 H<|so G G G<|sr 1 rfl<|sE ?_;clear H a;intro a H
 apply bP (i:=19) (g:=37) (t:=40) (b:=false) 3 H S G G (by kernel_rfl) (by kernel_rfl) G G
 case h1=>
  intro hg20
  have hq20:=hg20;try simp only [o1,o2,o3,o4,o5,o6,o7,o8,o9,oa] at hq20
  refine ls 1 H<|sy hg20<|sd ((aC fC iA rfl S (i:=1) G G))<|sE ?_;intro a H
  refine cC H G G (by assumption) ?_
  refine aA H G G Try.func7 G G (pN mm js JA jc AA ac nv NA nc cr un _ (hjs.now S) (hnv.now S) (fun k hk=>(haf k hk).now S) hjn hnn han) ?_
  rintro _ _ a ⟨rfl,S2⟩ H
  replace S:=S.call S2;clear S2
  refine ls 1 H<|sy hg20<|sr 1 rfl<|sE ?_;intro a H
  exact wpList_nil ⟨H.strip 3 G G,(S.sel [0,1,2] G G)⟩
 clear H a S;intro a _ H S
 refine ls 13 H<|so G G G<|sr 1 rfl<|sg 3 24 42 45 false G G (fun hg25=>by
     have hq25:=hg25;try simp only [o1,o2,o3,o4,o5,o6,o7,o8,o9,oa] at hq25
     exact sy hg25<|sf fV rfl<|sy hg25<|sl S 1 aF G G G<|sy hg25<|sr 1 rfl<|sz 3 G G G)<|so G G G<|sr 1 rfl<|sg 4 29 47 51 false G G (fun hg30=>by
     have hq30:=hg30;try simp only [o1,o2,o3,o4,o5,o6,o7,o8,o9,oa] at hq30
     exact sy hg30<|sf rD rfl<|sy hg30<|sl S 0 vD G G G<|sy hg30<|sL lD rfl<|sy hg30<|sr 1 rfl<|sz 4 G G G)<|so G G G<|sr 1 rfl<|sE ?_;clear H a;intro a H
 apply bP (i:=35) (g:=53) (t:=62) (b:=false) 9 H S G G (by kernel_rfl) (by kernel_rfl) G G
 case h1=>
  intro hg36
  have hq36:=hg36;try simp only [o1,o2,o3,o4,o5,o6,o7,o8,o9,oa] at hq36
  refine ls 4 H<|sy hg36<|sd ((aC cN dI rfl S (i:=2) G G))<|sy hg36<|sf nH rfl<|sy hg36<|sl S 0 aZ G G G<|sy hg36<|sd (aO Hk G G)<|sE ?_;intro a H
  refine cC H G G (by assumption) ?_
  refine aY H rfl S gO gL pX G G G G G G G G G ?_;intro A1 _ a hA1 S H
  replace S:=S.recell (i:=0) rfl (cell':=hcl [(⟨0,false,pe⟩:Hq)] (fun _=>BA) (fun _=>bc)) (fun k9 j9 hk9 hj9=>xZ G G G k9 j9 hk9 hj9)
  refine ls 2 H<|sy hg36<|sf rD rfl<|sy hg36<|sl S 1 vD G G G<|sE ?_;intro a H
  refine cC H G G (by assumption) ?_
  refine aA H G G Try.func8 G G (lU pl ps PA pc xs XA xc [(⟨0,false,pe⟩:Hq)] _ _ (fun _=>BA) (fun _=>bc) prs QA qc _ (hps.now S) hpn (hxs.now S) hxn (ownM.inS S (i:=0) rfl) (show 1≤9223372036854775807 by decide) (fun k9 hk9=>by
    obtain rfl:k9=0:=by have h9:k9<1:=hk9;omega
    exact (hpe.now S)) (fun k9 hk9=>by
    obtain rfl:k9=0:=by have h9:k9<1:=hk9;omega
    exact hpen) (hprs.now S) hprn) ?_
  rintro _ _ a ⟨rfl,S2⟩ H
  replace S:=S.call S2;clear S2
  refine ls 1 H<|sy hg36<|sr 1 rfl<|sE ?_;intro a H
  exact wpList_nil ⟨H.strip 9 G G,(S.sel [1,2,3] G G)⟩
 clear H a S;intro a _ H S
 refine ls 1 H<|so G G G<|sE ?_;clear H a;intro a H
 refine k3 _ _ ?_;clear k3 K3
 refine aQ H rfl (fun hc1=>?_) (fun hc1=>?_)
 ·skip
  try simp only [o1,o2,o3,o4,o5,o6,o7,o8,o9,oa] at hc1
  replace H:=H.keep [] rfl
  refine aB fun K4 k4=>?_
  refine aA H G G Try.func9 G G (fY _) ?_;clear H a
  rintro _ _ a ⟨rfl,S2⟩ H
  replace S:=S.call S2;clear S2
  refine ls 1 H<|sr 1 rfl<|sE ?_;clear H a;intro a H
  refine k4 _ _ ?_;clear k4 K4
  refine wp_ret ?_
  refine ret1 (fn:=Try.f3) rfl H rfl ?_
  exact ⟨rfl,(S.sel [] G G)⟩
 try simp only [o1,o2,o3,o4,o5,o6,o7,o8,o9,oa] at hc1
 obtain ⟨⟨⟨⟨⟨⟨hcb1,hfar⟩,hlv⟩,hE⟩,hm4⟩,hp6⟩,hkE⟩:=hc1
 have V:=jZ hE
 have hmb:=V.mmb
 have hpm:=pwm hmb
 have hlo:=mJ hlv
 refine wp_skip ?_
 refine k2 _ _ ?_
 refine aB fun K5 k5=>?_
 refine ls 1 H<|sf fK rfl<|sE ?_;clear H a;intro a H
 refine aD H S (i:=1) G G G G tH G G ?_
 clear H a S;intro _ a S H
 refine k5 _ _ ?_;clear k5 K5
 refine wp_seq_k fun K6 k6=>?_
 refine sS H fun K7 k7=>sr 1 rfl<|sE ?_;clear H a;intro a H
 refine k7 _ ?_;clear k7 K7
 refine wp_block ?_
 replace S:=S.newNil 3 1 (icl [])
 refine loop_st (X:=Nat×List Int×Option Addr×Nat) (R0:=_) [3,4,5] H rfl (fun ⟨o,n9,A9,c9⟩=>[(7,.int .i64 (o:Int))]) (fun ⟨o,n9,A9,c9⟩=>[boxM b4 28 [.int .i64 mm,.slice JA js.length jc,.slice A9 n9.length c9,.int .i64 cr,.int .i64 un],ownM 3 1 A9 n9.length c9 (icl n9)]) (fun g ⟨o,n9,A9,c9⟩=>o≤(1*2^mm.toNat:Int).toNat∧g+o=(1*2^mm.toNat:Int).toNat∧n9=nvN (kepW pl ps xs pe hlp T0 prs) o∧(1≤o→(kepW pl ps xs pe hlp T0 prs) 0=true)) ((1*2^mm.toNat:Int).toNat) (0,[],none,0) ?_ (S.sel [2,0,1,3] G G) (H.keep [7,3,4,5] rfl) ?_
 · exact ⟨by omega,by omega,rfl,fun h=>by omega⟩
 clear H S a
 intro g1 x1 a w1 hp S H K8 k8
 obtain ⟨o,n9,A9,c9⟩:=x1
 dsimp only at hp S H
 obtain ⟨hol,hgo,hn9,hK0⟩:=hp
 have hnl9:=yA (K:=(kepW pl ps xs pe hlp T0 prs)) o
 rw [←hn9] at hnl9
 refine wp_seq_k fun K9 k9=>?_
 refine sS H fun K10 k10=>sr 1 rfl<|sf fV rfl<|sl S 0 aF G G G<|sd (dN Try.underlying3 Try.underlying42 rfl (by first|omega|exact IntWalk.i64_in _ (by omega)|exact IntWalk.u64_in _ (by omega)))<|sd (dE G G (by omega) (by omega) (by unfold i64ok;omega))<|sr 1 rfl<|sE ?_;clear H a;intro a H
 refine k10 _ ?_;clear k10 K10
 refine condL H rfl (fun hc2=>?_) (fun hc2=>?_)
 ·skip
  refine wp_skip ?_
  refine k9 _ _ ?_
  refine wp_seq_k fun K11 k11=>?_
  refine wp_block ?_
  have hp16:(1:Int)*2^mm.toNat≤16:=pw16 hm4
  replace H:=H.keep [3,4,5,7] rfl
  refine aB fun K12 k12=>?_
  refine ls 3 H<|sd ((aC cN dI rfl S (i:=3) G G))<|sd ((aC Bj Hh rfl S (i:=2) G G))<|sr 1 rfl<|sE ?_;clear H a;intro a H
  refine aA H G G Try.func10 G G (uI pl ps PA pc xs XA xc pe BA bc hlp T0 prs QA qc (o:Int) _ (hps.now S) hpn (hxs.now S) hxn (hpe.now S) hpen (hprs.now S) hprn hlv hkE (by omega)) ?_;clear H a
  rintro _ _ a ⟨rfl,S2⟩ H
  replace S:=S.call S2;clear S2
  refine ls 5 H<|sr 5 rfl<|sE ?_;clear H a;intro a H
  refine k12 _ _ ?_;clear k12 K12
  refine wp_seq_k fun K13 k13=>?_
  replace H:=H.keep [3,4,5,7,8,9] rfl
  refine sS H fun K14 k14=>sr 2 rfl<|sE ?_;clear H a;intro a H
  refine k14 _ ?_;clear k14 K14
  refine aQ H rfl (fun hc3=>?_) (fun hc3=>?_)
  ·skip
   skip
   cases hc3
  skip
  refine wp_skip ?_
  refine k13 _ _ ?_
  refine wp_seq_k fun K15 k15=>?_
  refine sS H fun K16 k16=>sr 3 rfl<|sg 2 2 85 87 true G G (fun hg3=>by
      have hq3:=hg3;try simp only [o1,o2,o3,o4,o5,o6,o7,o8,o9,oa] at hq3
      exact sy hg3<|sr 1 rfl<|sy hg3<|sr 1 rfl<|sz 2 G G G)<|sa G G G<|sE ?_;clear H a;intro a H
  refine k16 _ ?_;clear k16 K16
  refine aQ H rfl (fun hc4=>?_) (fun hc4=>?_)
  ·skip
   try simp only [o1,o2,o3,o4,o5,o6,o7,o8,o9,oa] at hc4
   replace H:=H.keep [] rfl
   refine aB fun K17 k17=>?_
   refine aA H G G Try.func9 G G (fY _) ?_;clear H a
   rintro _ _ a ⟨rfl,S2⟩ H
   replace S:=S.call S2;clear S2
   refine ls 1 H<|sr 1 rfl<|sE ?_;clear H a;intro a H
   refine k17 _ _ ?_;clear k17 K17
   refine wp_ret ?_
   refine ret1 (fn:=Try.f3) rfl H rfl ?_
   exact ⟨rfl,(S.sel [] G G)⟩
  try simp only [o1,o2,o3,o4,o5,o6,o7,o8,o9,oa] at hc4
  refine wp_skip ?_
  refine k15 _ _ ?_
  refine sS H fun K18 k18=>sr 2 rfl<|sE ?_;clear H a;intro a H
  refine k18 _ ?_;clear k18 K18
  refine aQ H rfl (fun hc5=>?_) (fun hc5=>?_)
  ·skip
   try simp only [o1,o2,o3,o4,o5,o6,o7,o8,o9,oa] at hc5
   replace H:=H.keep [3,4,5,7] rfl
   refine bY ?_
   refine ls 3 H<|sf fK rfl<|sl S 0 aZ G G G<|sr 1 rfl<|sE ?_;clear H a;intro a H
   refine aY H rfl S aN aX eF G G G G G G G G G ?_;clear H a S;intro A2 _ a hA2 S H
   refine cI H rfl S aN aX eF lL G G (i:=2) G G G (ownM.inS S (i:=0) rfl) (kM (one rfl)) (by omega) (by omega) ?_;clear H a S;intro A3 c3 _ a S H
   replace S:=S.recell (i:=2) rfl (cell':=icl (n9++[(o:Int)])) (oH rfl)
   rw [show n9.length+1=(n9++[(o:Int)]).length by simp] at H S
   refine ls 1 H<|sf fK rfl<|sE ?_;clear H a;intro a H
   refine aD H S (i:=1) G G G G tH G G ?_
   clear H a S;intro _ a S H
   refine k11 _ _ ?_
   replace H:=H.keep [3,4,5,7] rfl
   refine sO H<|sr 1 rfl<|sd (aH G G (by unfold i64ok;omega))<|sr 1 rfl<|sE ?_;clear H a;intro a H
   exact k8 (g1-1) (o+1,_,_,_) a _ (by omega) (⟨by omega,by omega,by rw [hn9];exact Lg (by simpa using hc5),fun _=>yC hK0 (.inr (by rcases hc4 with h9|h9;rw [h9] at hc5;cases hc5;omega))⟩) (S.sel [1,2,3,4] rfl rfl) (H.keep [7,3,4,5] rfl)
  try simp only [o1,o2,o3,o4,o5,o6,o7,o8,o9,oa] at hc5
  refine wp_skip ?_
  refine k11 _ _ ?_
  refine sO H<|sr 1 rfl<|sd (aH G G (by unfold i64ok;omega))<|sr 1 rfl<|sE ?_;clear H a;intro a H
  exact k8 (g1-1) (o+1,_,_,_) a _ (by omega) (⟨by omega,by omega,by rw [hn9];exact Lf (by simpa using hc5),fun _=>yC hK0 (.inl (by simpa using hc5))⟩) (S.sel [0,1,2,3] G G) (H.keep [7,3,4,5] rfl)
 refine wp_exit ?_
 refine k6 _ _ ?_
 obtain rfl:o=(1*2^mm.toNat:Int).toNat:=by omega
 have h0K:(kepW pl ps xs pe hlp T0 prs) 0=true:=hK0 (by omega)
 have V9:WkV mm js n9 cr un:=by rw [hn9];exact Jt V hm4 h0K
 have hnl:=V9.nn
 replace H:=H.keep [3,4,5] rfl
 refine aB fun K22 k22=>?_
 refine ls 1 H<|sd ((aC fC iA rfl S (i:=0) G G))<|sE ?_;clear H a;intro a H
 refine aA H G G Try.func11 G G (wA mm js JA jc AA ac n9 A9 c9 cr un _ (hjs.now S) (ownM.inS S (i:=1) rfl) (fun k hk=>(haf k hk).now S) hjn (by omega) han (oN V9)) ?_;clear H a
 rintro _ _ a ⟨st,A7,c7,en,e9,rfl,hpl9,S2⟩ H
 replace S:=S.call S2;clear S2
 refine ls 7 H<|sr 7 rfl<|sE ?_;clear H a;intro a H
 refine k22 _ _ ?_;clear k22 K22
 refine wp_seq_k fun K23 k23=>?_
 replace H:=H.keep [3,4,5,10,12] rfl
 refine sS H fun K24 k24=>sr 2 rfl<|sE ?_;clear H a;intro a H
 refine k24 _ ?_;clear k24 K24
 refine condN H rfl (fun hc6=>?_) (fun hc6=>?_)
 ·skip
  have he9:e9=3∨e9=2:=by omega
  replace H:=H.keep [12] rfl
  refine aB fun K25 k25=>?_
  refine ls 7 H<|sr 3 rfl<|sg 2 2 108 110 false G G (fun hg3=>by
      have hq3:=hg3;try simp only [o1,o2,o3,o4,o5,o6,o7,o8,o9,oa] at hq3
      exact sy hg3<|sr 1 rfl<|sy hg3<|sr 1 rfl<|sz 2 G G G)<|so G G G<|sr 1 rfl<|sE ?_;clear H a;intro a H
  apply bP (i:=6) (g:=112) (t:=113) (b:=true) 1 H S G G (by kernel_rfl) (by kernel_rfl) G G
  case h1=>
   intro hg7
   have hq7:=hg7;try simp only [o1,o2,o3,o4,o5,o6,o7,o8,o9,oa] at hq7
   refine cC H G G (by assumption) ?_
   refine aA H G G Try.func9 G G (fY _) ?_
   rintro _ _ a ⟨rfl,S2⟩ H
   replace S:=S.call S2;clear S2
   exact wpList_nil ⟨H.strip 1 G G,(S.sel [0,1,2,3,4] G G)⟩
  clear H a S;intro a _ H S
  refine ls 2 H<|sa G G G<|sr 1 rfl<|sE ?_;clear H a;intro a H
  refine k25 _ _ ?_;clear k25 K25
  refine wp_ret ?_
  refine ret1 (fn:=Try.f3) rfl H rfl ?_
  exact ⟨by rcases he9 with rfl|rfl <;> rfl,(S.sel [] rfl rfl)⟩
 obtain ⟨_,hsl,hR,_⟩:=hpl9.resolve_right (by omega)
 have hst24:∀ k,k<js.length→0≤st.getD k 0∧st.getD k 0≤24:=fun k hk=>by have:=hR.start k hk;have:=V.job k hk;have:=V.unb;omega
 refine wp_skip ?_
 refine k23 _ _ ?_
 refine wp_seq_k fun K26 k26=>?_
 replace H:=H.keep [3,4,5,10] rfl
 refine sS H fun K27 k27=>sr 1 rfl<|sE ?_;clear H a;intro a H
 refine k27 _ ?_;clear k27 K27
 refine wp_block ?_
 have hub:=V.unb
 refine loop_st (X:=Nat) (R0:=_) [3,4,5,10] H rfl (fun n=>[(13,.int .i64 (n:Int))]) (fun n=>[]) (fun g n=>(n:Int)≤un∧g+n=un.toNat) (un.toNat) 0 ?_ (S.sel [0,1,2,3,4] G G) (H.keep [13,3,4,5,10] rfl) ?_
 · exact ⟨by omega,by omega⟩
 clear H S a
 intro g2 x2 a w2 hp S H K28 k28
 obtain ⟨n,rfl⟩:∃ y,y=x2:=⟨_,rfl⟩
 refine wp_seq_k fun K29 k29=>?_
 refine sS H fun K30 k30=>sr 1 rfl<|sf dP rfl<|sl S 1 aF G G G<|sr 1 rfl<|sE ?_;clear H a;intro a H
 refine k30 _ ?_;clear k30 K30
 refine condL H rfl (fun hc7=>?_) (fun hc7=>?_)
 ·skip
  refine wp_skip ?_
  refine k29 _ _ ?_
  refine wp_seq_k fun K31 k31=>?_
  refine wp_block ?_
  have hn4b:=nP (st:=st) (d:=(n:Int)) V js.length (Nat.le_refl _)
  have hn4:=qG (st:=st) (n:=(n:Int)) V
  have hkt:=Ha (K:=(kepW pl ps xs pe hlp T0 prs)) V h0K (by rw [←hn9];exact hR) (n:=n) (by omega)
  replace H:=H.keep [3,4,5,10,13] rfl
  refine aB fun K32 k32=>?_
  refine ls 3 H<|sd ((aC fC iA rfl S (i:=1) G G))<|sr 2 rfl<|sE ?_;clear H a;intro a H
  refine aA H G G Try.func12 G G (zL mm js JA jc AA ac n9 A9 c9 cr un st A7 c7 (n:Int) _ (hjs.now S) (ownM.inS S (i:=2) rfl) (fun k hk=>(haf k hk).now S) hjn (by omega) han (ownM.inS S (i:=0) rfl) hsl (oN V9) (fun k hk=>hst24 k hk) (by omega)) ?_;clear H a
  rintro _ _ a ⟨rfl,S2⟩ H
  replace S:=S.call S2;clear S2
  refine ls 5 H<|sr 5 rfl<|sE ?_;clear H a;intro a H
  refine k32 _ _ ?_;clear k32 K32
  refine wp_seq_k fun K33 k33=>?_
  replace H:=H.keep [3,4,5,10,13,14,15] rfl
  refine sS H fun K34 k34=>sr 3 rfl<|sg 2 2 130 132 false G G (fun hg3=>by
      have hq3:=hg3;try simp only [o1,o2,o3,o4,o5,o6,o7,o8,o9,oa] at hq3
      exact sy hg3<|sr 1 rfl<|sy hg3<|sr 1 rfl<|sz 2 G G G)<|so G G G<|sr 1 rfl<|sg 6 6 134 140 false G G (fun hg7=>by
      have hq7:=hg7;try simp only [o1,o2,o3,o4,o5,o6,o7,o8,o9,oa] at hq7
      exact sy hg7<|sr 1 rfl<|sy hg7<|sf fV rfl<|sy hg7<|sl S 1 aF G G G<|sy hg7<|sd (dN Try.underlying3 Try.underlying42 rfl (by first|omega|exact IntWalk.i64_in _ (by omega)|exact IntWalk.u64_in _ (by omega)))<|sy hg7<|sd (dE G G (by omega) (by omega) (by unfold i64ok;omega))<|sy hg7<|sr 1 rfl<|sz 6 G G G)<|so G G G<|sE ?_;clear H a;intro a H
  refine k34 _ ?_;clear k34 K34
  refine aQ H rfl (fun hc8=>?_) (fun hc8=>?_)
  ·skip
   try simp only [o1,o2,o3,o4,o5,o6,o7,o8,o9,oa] at hc8
   exfalso;simp only [not_true_eq_false,false_or] at hc8;omega
  try simp only [o1,o2,o3,o4,o5,o6,o7,o8,o9,oa] at hc8
  refine wp_skip ?_
  refine k33 _ _ ?_
  replace H:=H.keep [3,4,5,10,13,14] rfl
  refine aB fun K35 k35=>?_
  refine ls 3 H<|sd ((aC cN dI rfl S (i:=4) G G))<|sd ((aC Bj Hh rfl S (i:=3) G G))<|sr 1 rfl<|sE ?_;clear H a;intro a H
  refine aA H G G Try.func10 G G (uI pl ps PA pc xs XA xc pe BA bc hlp T0 prs QA qc (nSet js st (n:Int) js.length) _ (hps.now S) hpn (hxs.now S) hxn (hpe.now S) hpen (hprs.now S) hprn hlv hkE hn4) ?_;clear H a
  rintro _ _ a ⟨rfl,S2⟩ H
  replace S:=S.call S2;clear S2
  rw [hkt] at H
  refine ls 5 H<|sr 5 rfl<|sE ?_;clear H a;intro a H
  refine k35 _ _ ?_;clear k35 K35
  replace H:=H.keep [3,4,5,10,13,16,17] rfl
  refine sS H fun K36 k36=>sr 3 rfl<|sg 2 2 151 153 false G G (fun hg3=>by
      have hq3:=hg3;try simp only [o1,o2,o3,o4,o5,o6,o7,o8,o9,oa] at hq3
      exact sy hg3<|sr 1 rfl<|sy hg3<|sr 1 rfl<|sz 2 G G G)<|so G G G<|sE ?_;clear H a;intro a H
  refine k36 _ ?_;clear k36 K36
  refine aQ H rfl (fun hc9=>?_) (fun hc9=>?_)
  ·skip
   skip
   cases hc9
  skip
  refine wp_skip ?_
  refine k31 _ _ ?_
  refine sO H<|sr 1 rfl<|sd (aH G G (by unfold i64ok;omega))<|sr 1 rfl<|sE ?_;clear H a;intro a H
  exact k28 (g2-1) (n+1) a _ (by omega) (⟨by omega,by omega⟩) (S.sel [0,1,2,3,4] G G) (H.keep [13,3,4,5,10] rfl)
 refine wp_exit ?_
 refine k26 _ _ ?_
 replace H:=H.keep [] rfl
 refine aB fun K38 k38=>?_
 refine aA H G G Try.func9 G G (fY _) ?_;clear H a
 rintro _ _ a ⟨rfl,S2⟩ H
 replace S:=S.call S2;clear S2
 refine ls 1 H<|sr 1 rfl<|sE ?_;clear H a;intro a H
 refine k38 _ _ ?_;clear k38 K38
 refine wp_ret ?_
 refine ret1 (fn:=Try.f3) rfl H rfl ?_
 exact ⟨rfl,(S.sel [] G G)⟩
theorem sN {B:Nat} (pl:Int) (ps:List Psg) (PA:Option Addr) (pc:Nat) (xs:List Int) (XA:Option Addr) (xc:Nat) (mm:Int) (jl:List Jb) (JA:Option Addr) (jc:Nat) (nv:List Int) (NA:Option Addr) (nc:Nat) (cr un:Int) (pe:List Int) (BA:Option Addr) (bc:Nat) (hlp:Bool) (T0:Int) (prs:List Prm) (QA:Option Addr) (qc:Nat) (w:World) (hps:InS w noF 7 PA ps.length (pcell ps)) (hpn8:56*ps.length≤140737488355328) (hxs:InS w noF 1 XA xs.length (icl xs)) (hxn8:8*xs.length≤140737488355328)
    (hjl:InS w noF 3 JA jl.length (mK jl)) (hjl8:40*jl.length≤140737488355328) (hdd:∀ k,k<jl.length→InS w noF 1 (jl.getD k Jb.zero).A (jl.getD k Jb.zero).after.length (icl (jl.getD k Jb.zero).after)∧(jl.getD k Jb.zero).after.length*8≤140737488351232∧(jl.getD k Jb.zero).after.length≤B) (hnv:InS w noF 1 NA nv.length (icl nv)) (hnv8:8*nv.length≤140737488355328)
    (hpe:InS w noF 1 BA pe.length (icl pe)) (hpe8:8*pe.length≤140737488355328) (hprs:InS w noF 5 QA prs.length (jN prs)) (hprs8:40*prs.length≤140737488355328) :
    Calls Try.prog 3 [.agg [.int .i64 pl,.slice PA ps.length pc,.slice XA xs.length xc].toArray,.agg [.int .i64 mm,.slice JA jl.length jc,.slice NA nv.length nc,.int .i64 cr,.int .i64 un].toArray,.agg [.slice BA pe.length bc,.bool hlp,.int .i64 T0,.slice QA prs.length qc].toArray].toArray w (Ret fun u w'=>u = .bool true∧St w noF [] w'):=by
  have h:=pS pl ps PA pc xs XA xc mm (jl.map Jb.q) JA jc (fun k=>(jl.getD k Jb.zero).A) (fun k=>(jl.getD k Jb.zero).c) nv NA nc cr un pe BA bc hlp T0 prs QA qc w hps (by omega) hxs (by omega) (by rw [List.length_map,←zG];exact hjl) hnv (fun k hk=>by rw [List.length_map] at hk;rw [Ir];exact (hdd k hk).1) (by rw [List.length_map];omega) (by omega) (fun k hk=>by rw [List.length_map] at hk;rw [Ir];have:=(hdd k hk).2.1;show (jl.getD k Jb.zero).after.length≤_;omega) hpe (by omega) hprs (by omega)
  rw [List.length_map] at h
  exact h
end
section
open Go.ChangeShapes Go.WideShapes Go.ChangeAt Go.Deep Go.Joins
section
variable {H:Type} {enc:TypeId×Value→H} {P:Program}
theorem uJ {f:Func} {s:ChangeSpec} {apart fresh handsOn again:Bool} {W W':World} {args:Array Value} {v:Value} {ds gs:List (DataW H)} {before pa pv:List MemPlace}
    (hW:DataW.Whole enc P f.params.toList s.vars apart W args.toList ds gs before)
    (hres:∀ (b:Nat) (sp:Nat→Bool) (hd:Bool),DataW.TrodAll enc P W' b sp hd f.resultTypes.toList (v.resultList f.resultTypes.size) (s.fn H (ds++gs)).results [])
    (hargs:∀ sp:Nat→Bool,(∀ p ∈ before,sp p.block=true)→DataW.TrodAll enc P W' 0 sp true f.params.toList args.toList (s.fn H (ds++gs)).args pa)
    (hvars:∀ sp:Nat→Bool,(∀ p ∈ before,sp p.block=true)→DataW.TrodVars enc P W' sp s.vars (s.fn H (ds++gs)).vars pv)
    (hps:before=pa++pv) (hk:W.keptBut W' (· ∈ before)) (hfz:∀ a:Addr,a.block<W.heap.size→W'.frozen? a=W.frozen? a)
    (hok:∀ (j:Nat) (t:TypeId) (r:Value),f.resultTypes[j]?=some t→(v.resultList f.resultTypes.size)[j]?=some r→Value.okWide P W' .any 0 t r) :
    s.post enc P f apart fresh handsOn again W args v W':=by
  have hold:∀ p ∈ before,(fun b=>decide (b<W.heap.size)) p.block=true:=fun p hp=>by simpa using hW.lt p hp
  have hlt:=hW.lt
  refine ⟨ds,gs,before,[],pa,pv,hW,hres _ _ _,hargs _ hold,hvars _ hold,World.keptBut_mono (fun p hp=>⟨hp,?_⟩) hk,fun _=>?_⟩
  · rw [hps,List.mem_append] at hp
    exact Or.inr hp
  · obtain ⟨_,_,_,_,_,hz,hn⟩:=hW
    refine ⟨hok,_,_,([]++pa)++pv,⟨[]++pa,pv,trodAll_append (hargs _ (fun _ _=>rfl)) (hres _ _ _),hvars _ (fun _ _=>rfl),rfl,?_,?_⟩,?_⟩
    · intro b off hp
      have hb:MemPlace.cell b off ∈ before:=by rw [hps];simpa using hp
      rw [hfz _ (hlt _ hb)]
      exact hz b off hb
    · intro ha
      have:=hn ha
      rw [hps] at this
      simpa using this
    · intro p hp _
      rw [hps]
      simpa using hp
end
theorem St.same {w w':World} {R:List Mem} (S:St w noF R w') {k:Nat} (hk:k<w.heap.size):w'.heap[k]?=w.heap[k]?:=S.ro k hk (fun h=>h)
theorem St.kept {w w':World} {R:List Mem} (S:St w noF R w') (may:MemPlace→Prop):w.keptBut w' may:=by
  refine ⟨S.os,S.out,fun i hi=>?_⟩
  rw [S.same hi]
  cases w.heap[i]? with
  | none=>trivial
  | some o=>
    cases o with
    | cells c t fr=>exact ⟨rfl,rfl,rfl,fun _ _=>rfl⟩
    | map es c=>exact .inr ⟨rfl,rfl⟩
    | _=>rfl
theorem St.frozen {w w':World} {R:List Mem} (S:St w noF R w') (a:Addr) (ha:a.block<w.heap.size):w'.frozen? a=w.frozen? a:=World.frozen?_of_block (S.same ha)
theorem St.sameAt {w w':World} {R:List Mem} (S:St w noF R w') (p:MemPlace) (hp:p.block<w.heap.size):w.sameAt w' p:=by
  cases p with
  | cell b off=>exact World.cell?_of_block (S.same hp)
  | map b=>exact S.same hp
theorem En:ownKnob Try.prog.godebug=none:=by kernel_rfl
theorem mQ:laidOutB Try.prog=true:=by kernel_rfl
theorem Eo {w:World} {a:Addr} {v:Value} (h:w.cell? a=some v):a.spot=none∧a.block<w.heap.size:=by
  have hc:=h
  unfold World.cell? at hc
  split at hc
  · rename_i c t fr hb
    split at hc
    · cases hc
    · rename_i hs
      refine ⟨?_,eD hb⟩
      cases hq:a.spot with
      | none=>rfl
      | some x=>simp [hq] at hs
  · cases hc
theorem nQ {w:World} {α:Type} {sz len:Nat} {a:Addr} (hsz:0<sz) (cell:α→Nat→Value) (zero:α) (Q:α→Prop) (h:∀ i,i<len→∃ g:α,(∀ j,j<sz→w.cell? ((a.add (i*sz)).add j)=some (cell g j))∧Q g) :
    ∃ l:List α,l.length=len∧InS w noF sz (some a) len (fun k j=>cell (l.getD k zero) j)∧∀ k,k<len→Q (l.getD k zero):=by
  classical
  obtain ⟨ab,ao,asp⟩:=a
  refine ⟨(List.range len).map fun i=>if h':i<len then Classical.choose (h i h') else zero,by simp,fun h0=>?_,fun k hk=>?_⟩
  · obtain ⟨g0,hg0,_⟩:=h 0 h0
    have h00:=hg0 0 hsz
    rw [show ((⟨ab,ao,asp⟩:Addr).add (0*sz)).add 0=⟨ab,ao,asp⟩ by simp [Addr.add]] at h00
    obtain ⟨hsp,hlt⟩:=Eo h00
    dsimp only at hsp hlt
    subst hsp
    refine ⟨ab,ao,rfl,hlt,fun h=>h,fun k j hk hj=>?_⟩
    have:=(Classical.choose_spec (h k hk)).1 j hj
    simp only [List.getD_eq_getElem?_getD,List.getElem?_map,List.getElem?_range hk,Option.map_some,Option.getD_some,dif_pos hk]
    have e:((⟨ab,ao,none⟩:Addr).add (k*sz)).add j=⟨ab,ao+k*sz+j,none⟩:=by rw [eL,eL]
    exact (congrArg w.cell? e).symm.trans this
  · simp only [List.getD_eq_getElem?_getD,List.getElem?_map,List.getElem?_range hk,Option.map_some,Option.getD_some,dif_pos hk]
    exact (Classical.choose_spec (h k hk)).2
theorem Ep {H:Type} (d:DataW H):1≤Rows.uptoBulk d:=by
  cases d with
  | lit v=>cases v <;> simp only [Rows.uptoBulk] <;> omega
  | _=>simp only [Rows.uptoBulk] <;> omega
theorem Eq {H:Type}:∀ (ds:List (DataW H)),ds.length≤Rows.uptoBulkAll ds:=by
  intro ds
  induction ds with
  | nil=>exact Nat.zero_le _
  | cons d ds ih=>have:=Ep d;simp only [Rows.uptoBulkAll,List.length_cons];omega
theorem uK {H:Type} {d:DataW H}:∀ {ds:List (DataW H)},d ∈ ds→Rows.uptoBulk d≤Rows.uptoBulkAll ds:=by
  intro ds
  induction ds with
  | nil=>intro h;cases h
  | cons e ds ih=>
    intro h
    simp only [Rows.uptoBulkAll]
    rcases List.mem_cons.1 h with rfl|h
    · omega
    · have:=ih h;omega
theorem Hb {H:Type} {P:Program} {e:TypeId} {d:DataW H} {n:Nat}:∀ {ds:List (DataW H)},d ∈ ds→n ∈ d.weights P e→n ∈ DataW.weightsAll P e ds:=by
  intro ds
  induction ds with
  | nil=>intro h;cases h
  | cons f ds ih=>
    intro h hn
    simp only [DataW.weightsAll,List.mem_append]
    rcases List.mem_cons.1 h with rfl|h
    · exact .inl hn
    · exact .inr (ih h hn)
def Fits {H:Type} (P:Program) (t:TypeId) (B:Nat) (d:DataW H):Prop:=(B≤1048576∨∀ n ∈ d.weights P t,n≤reachBytes)∧Rows.uptoBulk d≤B
theorem iT {H:Type} {P:Program} {t e B b:Nat} {elems spare:List (DataW H)} (hu:P.underlying t=some (.slice e)) (hb:P.bytesOf e=b) (hb':b≤1000) (h:Fits P t B (.slice elems spare)):elems.length*b≤140737488351232∧elems.length≤B∧∀ d ∈ elems,Fits P e B d:=by
  obtain ⟨h1,h2⟩:=h
  simp only [Rows.uptoBulk] at h2
  have h4:=Eq elems
  have h5:∀ d ∈ elems,Rows.uptoBulk d≤B:=fun d hd=>by have:=uK hd;omega
  rcases h1 with h1|h1
  · refine ⟨?_,by omega,fun d hd=>⟨.inl h1,h5 d hd⟩⟩
    have:elems.length*b≤1048576*1000:=Nat.mul_le_mul (by omega) hb'
    omega
  · simp only [DataW.weights,hu,List.mem_cons,List.mem_append] at h1
    have h3:=h1 _ (.inl rfl)
    rw [hb,Nat.add_mul] at h3
    unfold reachBytes at h3
    exact ⟨by omega,by omega,fun d hd=>⟨.inr fun n hn=>h1 n (.inr (.inl (Hb hd hn))),h5 d hd⟩⟩
theorem fG {H:Type} {P:Program} {t B i u:Nat} {fs:Array Field} {parts:List (DataW H)} {d:DataW H} (hu:P.underlying t=some (.struct fs)) (ht:(fs.toList.map (·.type))[i]?=some u) (hd:parts[i]?=some d) (h:Fits P t B (.agg parts)):Fits P u B d:=by
  obtain ⟨h1,h2⟩:=h
  simp only [Rows.uptoBulk] at h2
  have:=uK (List.mem_of_getElem? hd)
  refine ⟨h1.imp (fun h=>h) fun h1=>?_,by omega⟩
  simp only [DataW.weights,hu] at h1
  exact fun n hn=>h1 n (DataW.weights_mem_each ht hd n hn)
theorem Hc {p:Nat→Prop} (h0:p 0):∀ j,j<1→p j:=by
  intro j hj
  match j,hj with
  | 0,_=>exact h0
theorem He {p:Nat→Prop} (h0:p 0) (h1:p 1) (h2:p 2):∀ j,j<3→p j:=by
  intro j hj
  match j,hj with
  | 0,_=>exact h0
  | 1,_=>exact h1
  | 2,_=>exact h2
theorem Hf {p:Nat→Prop} (h0:p 0) (h1:p 1) (h2:p 2) (h3:p 3) (h4:p 4):∀ j,j<5→p j:=by
  intro j hj
  match j,hj with
  | 0,_=>exact h0
  | 1,_=>exact h1
  | 2,_=>exact h2
  | 3,_=>exact h3
  | 4,_=>exact h4
theorem Hg {p:Nat→Prop} (h0:p 0) (h1:p 1) (h2:p 2) (h3:p 3) (h4:p 4) (h5:p 5) (h6:p 6):∀ j,j<7→p j:=by
  intro j hj
  match j,hj with
  | 0,_=>exact h0
  | 1,_=>exact h1
  | 2,_=>exact h2
  | 3,_=>exact h3
  | 4,_=>exact h4
  | 5,_=>exact h5
  | 6,_=>exact h6
set_option maxRecDepth 100000 in
theorem eX {H:Type} {enc:TypeId×Value→H} {w:World} {fuel:Nat} {spare:Nat→Bool} {held:Bool} {cs:List Value} {x:DataW H×List MemPlace} (h:DataW.trod enc Try.prog w 0 spare held fuel 3 cs=some x):∃ n0:Int,cs=[.int .i64 n0]:=by
  obtain ⟨n,e,_,_⟩:=DataW.trod_int Try.underlying3 h
  exact ⟨n,by simpa using e⟩
theorem Er:Try.prog.cellsOf 91=7:=by kernel_rfl
theorem eY:Try.prog.cellsOf 3=1:=by kernel_rfl
set_option maxRecDepth 100000 in
theorem Ju {H:Type} {enc:TypeId×Value→H} {w:World} {fuel:Nat} {spare:Nat→Bool} {held:Bool} {cs:List Value} {x:DataW H×List MemPlace} (h:DataW.trod enc Try.prog w 0 spare held fuel 91 cs=some x):∃ n0:Int,∃ n1:Int,∃ n2:Int,∃ n3:Int,∃ n4:Int,∃ n5:Int,∃ n6:Int,cs=[.int .i64 n0,.int .i64 n1,.int .i64 n2,.int .i64 n3,.int .i64 n4,.int .i64 n5,.int .i64 n6]:=by
  obtain ⟨xs,n,_,hx,hl,hlen,hf⟩:=DataW.trod_struct Try.underlying91 h
  rw [Er] at hl
  match cs,hl with
  | [q0,q1,q2,q3,q4,q5,q6],_=>
    match xs,hlen with
    | [y0,y1,y2,y3,y4,y5,y6],_=>
      have f0:DataW.trod enc Try.prog w 0 spare held n 3 [q0]=some y0:=by have:=hf 0 _ rfl;simpa [eY] using this
      obtain ⟨p0n0,e0⟩:=eX f0
      cases e0
      have f1:DataW.trod enc Try.prog w 0 spare held n 3 [q1]=some y1:=by have:=hf 1 _ rfl;simpa [eY] using this
      obtain ⟨p1n0,e1⟩:=eX f1
      cases e1
      have f2:DataW.trod enc Try.prog w 0 spare held n 3 [q2]=some y2:=by have:=hf 2 _ rfl;simpa [eY] using this
      obtain ⟨p2n0,e2⟩:=eX f2
      cases e2
      have f3:DataW.trod enc Try.prog w 0 spare held n 3 [q3]=some y3:=by have:=hf 3 _ rfl;simpa [eY] using this
      obtain ⟨p3n0,e3⟩:=eX f3
      cases e3
      have f4:DataW.trod enc Try.prog w 0 spare held n 3 [q4]=some y4:=by have:=hf 4 _ rfl;simpa [eY] using this
      obtain ⟨p4n0,e4⟩:=eX f4
      cases e4
      have f5:DataW.trod enc Try.prog w 0 spare held n 3 [q5]=some y5:=by have:=hf 5 _ rfl;simpa [eY] using this
      obtain ⟨p5n0,e5⟩:=eX f5
      cases e5
      have f6:DataW.trod enc Try.prog w 0 spare held n 3 [q6]=some y6:=by have:=hf 6 _ rfl;simpa [eY] using this
      obtain ⟨p6n0,e6⟩:=eX f6
      cases e6
      exact ⟨p0n0,p1n0,p2n0,p3n0,p4n0,p5n0,p6n0,rfl⟩
theorem Jv:Try.prog.bytesOf 91=56:=by kernel_rfl
set_option maxRecDepth 100000 in
theorem Jw {H:Type} {enc:TypeId×Value→H} {w:World} {fuel:Nat} {spare:Nat→Bool} {held:Bool} {cs:List Value} {x:DataW H×List MemPlace} (h:DataW.trod enc Try.prog w 0 spare held fuel 22 cs=some x) {B:Nat} (hz:Fits Try.prog 22 B x.1):∃ l0:List Psg,∃ A0:Option Addr,∃ c0:Nat,cs=[.slice A0 l0.length c0]∧InS w noF 7 A0 l0.length (pcell l0)∧l0.length*56≤140737488351232∧l0.length≤B:=by
  rcases Go.Deep.open_slice Try.underlying22 h with ⟨hcs,_⟩|⟨a,len',cap',m,n,D,Pl,hcs,_,hlc,hcm,hm,hx,hi⟩
  · subst hcs
    exact ⟨[],none,0,rfl,InS.nil,by decide,Nat.zero_le _⟩
  · subst hcs
    rw [hx] at hz
    obtain ⟨hz1,hz2,hz3⟩:=iT Try.underlying22 Jv (by decide) hz
    rw [List.length_map,List.length_range] at hz1 hz2
    have hmle:len'≤m:=by rw [hm];split <;> omega
    obtain ⟨l,hl,hin,hq⟩:=nQ (w:=w) (a:=a) (len:=len') (sz:=7) (by decide) Psg.cell Psg.zero (fun _=>True) (fun i hil=>by
      obtain ⟨cs',hc,ht⟩:=hi i (by omega)
      rw [Er] at hc
      obtain ⟨_,_,hat⟩:=World.cells?_some hc
      obtain ⟨en0,en1,en2,en3,en4,en5,en6,rfl⟩:=Ju ht
      exact ⟨⟨en0,en1,en2,en3,en4,en5,en6⟩,fun j hj=>by rw [hat j hj];revert j;exact Hg (rfl) (rfl) (rfl) (rfl) (rfl) (rfl) (rfl),trivial⟩)
    subst hl
    exact ⟨l,some a,cap',rfl,hin,hz1,hz2⟩
theorem Lh:Try.prog.bytesOf 3=8:=by kernel_rfl
set_option maxRecDepth 100000 in
theorem sQ {H:Type} {enc:TypeId×Value→H} {w:World} {fuel:Nat} {spare:Nat→Bool} {held:Bool} {cs:List Value} {x:DataW H×List MemPlace} (h:DataW.trod enc Try.prog w 0 spare held fuel 23 cs=some x) {B:Nat} (hz:Fits Try.prog 23 B x.1):∃ l0:List Int,∃ A0:Option Addr,∃ c0:Nat,cs=[.slice A0 l0.length c0]∧InS w noF 1 A0 l0.length (icl l0)∧l0.length*8≤140737488351232∧l0.length≤B:=by
  rcases Go.Deep.open_slice Try.underlying23 h with ⟨hcs,_⟩|⟨a,len',cap',m,n,D,Pl,hcs,_,hlc,hcm,hm,hx,hi⟩
  · subst hcs
    exact ⟨[],none,0,rfl,InS.nil,by decide,Nat.zero_le _⟩
  · subst hcs
    rw [hx] at hz
    obtain ⟨hz1,hz2,hz3⟩:=iT Try.underlying23 Lh (by decide) hz
    rw [List.length_map,List.length_range] at hz1 hz2
    have hmle:len'≤m:=by rw [hm];split <;> omega
    obtain ⟨l,hl,hin,hq⟩:=nQ (w:=w) (a:=a) (len:=len') (sz:=1) (by decide) Hv 0 (fun _=>True) (fun i hil=>by
      obtain ⟨cs',hc,ht⟩:=hi i (by omega)
      rw [eY] at hc
      obtain ⟨_,_,hat⟩:=World.cells?_some hc
      obtain ⟨en0,rfl⟩:=eX ht
      exact ⟨en0,fun j hj=>by rw [hat j hj];revert j;exact Hc (rfl),trivial⟩)
    subst hl
    exact ⟨l,some a,cap',rfl,hin,hz1,hz2⟩
theorem Jx:Try.prog.cellsOf 25=3:=by kernel_rfl
theorem Jy:Try.prog.cellsOf 22=1:=by kernel_rfl
theorem sR:Try.prog.cellsOf 23=1:=by kernel_rfl
set_option maxRecDepth 100000 in
theorem Jz {H:Type} {enc:TypeId×Value→H} {w:World} {fuel:Nat} {spare:Nat→Bool} {held:Bool} {cs:List Value} {x:DataW H×List MemPlace} (h:DataW.trod enc Try.prog w 0 spare held fuel 25 cs=some x) {B:Nat} (hz:Fits Try.prog 25 B x.1):∃ n0:Int,∃ l1:List Psg,∃ A1:Option Addr,∃ c1:Nat,∃ l2:List Int,∃ A2:Option Addr,∃ c2:Nat,cs=[.int .i64 n0,.slice A1 l1.length c1,.slice A2 l2.length c2]∧InS w noF 7 A1 l1.length (pcell l1)∧l1.length*56≤140737488351232∧l1.length≤B∧InS w noF 1 A2 l2.length (icl l2)∧l2.length*8≤140737488351232∧l2.length≤B:=by
  obtain ⟨xs,n,_,hx,hl,hlen,hf⟩:=DataW.trod_struct Try.underlying25 h
  rw [Jx] at hl
  match cs,hl with
  | [q0,q1,q2],_=>
    match xs,hlen with
    | [y0,y1,y2],_=>
      have f0:DataW.trod enc Try.prog w 0 spare held n 3 [q0]=some y0:=by have:=hf 0 _ rfl;simpa [eY] using this
      obtain ⟨p0n0,e0⟩:=eX f0
      cases e0
      have f1:DataW.trod enc Try.prog w 0 spare held n 22 [q1]=some y1:=by have:=hf 1 _ rfl;simpa [Jy] using this
      have g1:=fG (i:=1) (u:=22) (d:=y1.1) Try.underlying25 G G (by rw [hx] at hz;exact hz)
      obtain ⟨p1l0,p1A0,p1c0,e1,p1f0,p1f1,p1f2⟩:=Jw f1 g1
      cases e1
      have f2:DataW.trod enc Try.prog w 0 spare held n 23 [q2]=some y2:=by have:=hf 2 _ rfl;simpa [sR] using this
      have g2:=fG (i:=2) (u:=23) (d:=y2.1) Try.underlying25 G G (by rw [hx] at hz;exact hz)
      obtain ⟨p2l0,p2A0,p2c0,e2,p2f0,p2f1,p2f2⟩:=sQ f2 g2
      cases e2
      exact ⟨p0n0,p1l0,p1A0,p1c0,p2l0,p2A0,p2c0,rfl,p1f0,p1f1,p1f2,p2f0,p2f1,p2f2⟩
theorem Es:Try.prog.cellsOf 51=3:=by kernel_rfl
set_option maxRecDepth 100000 in
theorem Ka {H:Type} {enc:TypeId×Value→H} {w:World} {fuel:Nat} {spare:Nat→Bool} {held:Bool} {cs:List Value} {x:DataW H×List MemPlace} (h:DataW.trod enc Try.prog w 0 spare held fuel 51 cs=some x) {B:Nat} (hz:Fits Try.prog 51 B x.1):∃ n0:Int,∃ n1:Int,∃ l2:List Int,∃ A2:Option Addr,∃ c2:Nat,cs=[.int .i64 n0,.int .i64 n1,.slice A2 l2.length c2]∧InS w noF 1 A2 l2.length (icl l2)∧l2.length*8≤140737488351232∧l2.length≤B:=by
  obtain ⟨xs,n,_,hx,hl,hlen,hf⟩:=DataW.trod_struct Try.underlying51 h
  rw [Es] at hl
  match cs,hl with
  | [q0,q1,q2],_=>
    match xs,hlen with
    | [y0,y1,y2],_=>
      have f0:DataW.trod enc Try.prog w 0 spare held n 3 [q0]=some y0:=by have:=hf 0 _ rfl;simpa [eY] using this
      obtain ⟨p0n0,e0⟩:=eX f0
      cases e0
      have f1:DataW.trod enc Try.prog w 0 spare held n 3 [q1]=some y1:=by have:=hf 1 _ rfl;simpa [eY] using this
      obtain ⟨p1n0,e1⟩:=eX f1
      cases e1
      have f2:DataW.trod enc Try.prog w 0 spare held n 23 [q2]=some y2:=by have:=hf 2 _ rfl;simpa [sR] using this
      have g2:=fG (i:=2) (u:=23) (d:=y2.1) Try.underlying51 G G (by rw [hx] at hz;exact hz)
      obtain ⟨p2l0,p2A0,p2c0,e2,p2f0,p2f1,p2f2⟩:=sQ f2 g2
      cases e2
      exact ⟨p0n0,p1n0,p2l0,p2A0,p2c0,rfl,p2f0,p2f1,p2f2⟩
theorem Kb:Try.prog.bytesOf 51=40:=by kernel_rfl
set_option maxRecDepth 100000 in
theorem Kc {H:Type} {enc:TypeId×Value→H} {w:World} {fuel:Nat} {spare:Nat→Bool} {held:Bool} {cs:List Value} {x:DataW H×List MemPlace} (h:DataW.trod enc Try.prog w 0 spare held fuel 26 cs=some x) {B:Nat} (hz:Fits Try.prog 26 B x.1):∃ l0:List Jb,∃ A0:Option Addr,∃ c0:Nat,cs=[.slice A0 l0.length c0]∧InS w noF 3 A0 l0.length (mK l0)∧l0.length*40≤140737488351232∧l0.length≤B∧(∀ k,k<l0.length→InS w noF 1 (l0.getD k Jb.zero).A (l0.getD k Jb.zero).after.length (icl (l0.getD k Jb.zero).after)∧(l0.getD k Jb.zero).after.length*8≤140737488351232∧(l0.getD k Jb.zero).after.length≤B):=by
  rcases Go.Deep.open_slice Try.underlying26 h with ⟨hcs,_⟩|⟨a,len',cap',m,n,D,Pl,hcs,_,hlc,hcm,hm,hx,hi⟩
  · subst hcs
    exact ⟨[],none,0,rfl,InS.nil,by decide,Nat.zero_le _,fun k hk=>absurd hk (Nat.not_lt_zero _)⟩
  · subst hcs
    rw [hx] at hz
    obtain ⟨hz1,hz2,hz3⟩:=iT Try.underlying26 Kb (by decide) hz
    rw [List.length_map,List.length_range] at hz1 hz2
    have hmle:len'≤m:=by rw [hm];split <;> omega
    obtain ⟨l,hl,hin,hq⟩:=nQ (w:=w) (a:=a) (len:=len') (sz:=3) (by decide) Jb.cell Jb.zero (fun g=>InS w noF 1 g.A g.after.length (icl g.after)∧g.after.length*8≤140737488351232∧g.after.length≤B) (fun i hil=>by
      obtain ⟨cs',hc,ht⟩:=hi i (by omega)
      rw [Es] at hc
      obtain ⟨_,_,hat⟩:=World.cells?_some hc
      obtain ⟨en0,en1,el2,eA2,ec2,rfl,ef0,ef1,ef2⟩:=Ka ht (hz3 _ (List.mem_map.2 ⟨i,List.mem_range.2 hil,rfl⟩))
      exact ⟨⟨en0,en1,el2,eA2,ec2⟩,fun j hj=>by rw [hat j hj];revert j;exact He (rfl) (rfl) (rfl),⟨ef0,ef1,ef2⟩⟩)
    subst hl
    exact ⟨l,some a,cap',rfl,hin,hz1,hz2,hq⟩
theorem Kd:Try.prog.cellsOf 28=5:=by kernel_rfl
theorem Ke:Try.prog.cellsOf 26=1:=by kernel_rfl
set_option maxRecDepth 100000 in
theorem Kf {H:Type} {enc:TypeId×Value→H} {w:World} {fuel:Nat} {spare:Nat→Bool} {held:Bool} {cs:List Value} {x:DataW H×List MemPlace} (h:DataW.trod enc Try.prog w 0 spare held fuel 28 cs=some x) {B:Nat} (hz:Fits Try.prog 28 B x.1):∃ n0:Int,∃ l1:List Jb,∃ A1:Option Addr,∃ c1:Nat,∃ l2:List Int,∃ A2:Option Addr,∃ c2:Nat,∃ n3:Int,∃ n4:Int,cs=[.int .i64 n0,.slice A1 l1.length c1,.slice A2 l2.length c2,.int .i64 n3,.int .i64 n4]∧InS w noF 3 A1 l1.length (mK l1)∧l1.length*40≤140737488351232∧l1.length≤B∧(∀ k,k<l1.length→InS w noF 1 (l1.getD k Jb.zero).A (l1.getD k Jb.zero).after.length (icl (l1.getD k Jb.zero).after)∧(l1.getD k Jb.zero).after.length*8≤140737488351232∧(l1.getD k Jb.zero).after.length≤B)∧InS w noF 1 A2 l2.length (icl l2)∧l2.length*8≤140737488351232∧l2.length≤B:=by
  obtain ⟨xs,n,_,hx,hl,hlen,hf⟩:=DataW.trod_struct Try.underlying28 h
  rw [Kd] at hl
  match cs,hl with
  | [q0,q1,q2,q3,q4],_=>
    match xs,hlen with
    | [y0,y1,y2,y3,y4],_=>
      have f0:DataW.trod enc Try.prog w 0 spare held n 3 [q0]=some y0:=by have:=hf 0 _ rfl;simpa [eY] using this
      obtain ⟨p0n0,e0⟩:=eX f0
      cases e0
      have f1:DataW.trod enc Try.prog w 0 spare held n 26 [q1]=some y1:=by have:=hf 1 _ rfl;simpa [Ke] using this
      have g1:=fG (i:=1) (u:=26) (d:=y1.1) Try.underlying28 G G (by rw [hx] at hz;exact hz)
      obtain ⟨p1l0,p1A0,p1c0,e1,p1f0,p1f1,p1f2,p1f3⟩:=Kc f1 g1
      cases e1
      have f2:DataW.trod enc Try.prog w 0 spare held n 23 [q2]=some y2:=by have:=hf 2 _ rfl;simpa [sR] using this
      have g2:=fG (i:=2) (u:=23) (d:=y2.1) Try.underlying28 G G (by rw [hx] at hz;exact hz)
      obtain ⟨p2l0,p2A0,p2c0,e2,p2f0,p2f1,p2f2⟩:=sQ f2 g2
      cases e2
      have f3:DataW.trod enc Try.prog w 0 spare held n 3 [q3]=some y3:=by have:=hf 3 _ rfl;simpa [eY] using this
      obtain ⟨p3n0,e3⟩:=eX f3
      cases e3
      have f4:DataW.trod enc Try.prog w 0 spare held n 3 [q4]=some y4:=by have:=hf 4 _ rfl;simpa [eY] using this
      obtain ⟨p4n0,e4⟩:=eX f4
      cases e4
      exact ⟨p0n0,p1l0,p1A0,p1c0,p2l0,p2A0,p2c0,p3n0,p4n0,rfl,p1f0,p1f1,p1f2,p1f3,p2f0,p2f1,p2f2⟩
set_option maxRecDepth 100000 in
theorem Ht {H:Type} {enc:TypeId×Value→H} {w:World} {fuel:Nat} {spare:Nat→Bool} {held:Bool} {cs:List Value} {x:DataW H×List MemPlace} (h:DataW.trod enc Try.prog w 0 spare held fuel 4 cs=some x):∃ b0:Bool,cs=[.bool b0]:=by
  obtain ⟨b,e,_⟩:=DataW.trod_bool Try.underlying4 h
  exact ⟨b,by simpa using e⟩
theorem Et:Try.prog.cellsOf 58=5:=by kernel_rfl
theorem Hu:Try.prog.cellsOf 4=1:=by kernel_rfl
set_option maxRecDepth 100000 in
theorem Kg {H:Type} {enc:TypeId×Value→H} {w:World} {fuel:Nat} {spare:Nat→Bool} {held:Bool} {cs:List Value} {x:DataW H×List MemPlace} (h:DataW.trod enc Try.prog w 0 spare held fuel 58 cs=some x):∃ n0:Int,∃ n1:Int,∃ n2:Int,∃ n3:Int,∃ b4:Bool,cs=[.int .i64 n0,.int .i64 n1,.int .i64 n2,.int .i64 n3,.bool b4]:=by
  obtain ⟨xs,n,_,hx,hl,hlen,hf⟩:=DataW.trod_struct Try.underlying58 h
  rw [Et] at hl
  match cs,hl with
  | [q0,q1,q2,q3,q4],_=>
    match xs,hlen with
    | [y0,y1,y2,y3,y4],_=>
      have f0:DataW.trod enc Try.prog w 0 spare held n 3 [q0]=some y0:=by have:=hf 0 _ rfl;simpa [eY] using this
      obtain ⟨p0n0,e0⟩:=eX f0
      cases e0
      have f1:DataW.trod enc Try.prog w 0 spare held n 3 [q1]=some y1:=by have:=hf 1 _ rfl;simpa [eY] using this
      obtain ⟨p1n0,e1⟩:=eX f1
      cases e1
      have f2:DataW.trod enc Try.prog w 0 spare held n 3 [q2]=some y2:=by have:=hf 2 _ rfl;simpa [eY] using this
      obtain ⟨p2n0,e2⟩:=eX f2
      cases e2
      have f3:DataW.trod enc Try.prog w 0 spare held n 3 [q3]=some y3:=by have:=hf 3 _ rfl;simpa [eY] using this
      obtain ⟨p3n0,e3⟩:=eX f3
      cases e3
      have f4:DataW.trod enc Try.prog w 0 spare held n 4 [q4]=some y4:=by have:=hf 4 _ rfl;simpa [Hu] using this
      obtain ⟨p4b0,e4⟩:=Ht f4
      cases e4
      exact ⟨p0n0,p1n0,p2n0,p3n0,p4b0,rfl⟩
theorem Kh:Try.prog.bytesOf 58=40:=by kernel_rfl
set_option maxRecDepth 100000 in
theorem Ki {H:Type} {enc:TypeId×Value→H} {w:World} {fuel:Nat} {spare:Nat→Bool} {held:Bool} {cs:List Value} {x:DataW H×List MemPlace} (h:DataW.trod enc Try.prog w 0 spare held fuel 29 cs=some x) {B:Nat} (hz:Fits Try.prog 29 B x.1):∃ l0:List Prm,∃ A0:Option Addr,∃ c0:Nat,cs=[.slice A0 l0.length c0]∧InS w noF 5 A0 l0.length (jN l0)∧l0.length*40≤140737488351232∧l0.length≤B:=by
  rcases Go.Deep.open_slice Try.underlying29 h with ⟨hcs,_⟩|⟨a,len',cap',m,n,D,Pl,hcs,_,hlc,hcm,hm,hx,hi⟩
  · subst hcs
    exact ⟨[],none,0,rfl,InS.nil,by decide,Nat.zero_le _⟩
  · subst hcs
    rw [hx] at hz
    obtain ⟨hz1,hz2,hz3⟩:=iT Try.underlying29 Kh (by decide) hz
    rw [List.length_map,List.length_range] at hz1 hz2
    have hmle:len'≤m:=by rw [hm];split <;> omega
    obtain ⟨l,hl,hin,hq⟩:=nQ (w:=w) (a:=a) (len:=len') (sz:=5) (by decide) Prm.cell Prm.zero (fun _=>True) (fun i hil=>by
      obtain ⟨cs',hc,ht⟩:=hi i (by omega)
      rw [Et] at hc
      obtain ⟨_,_,hat⟩:=World.cells?_some hc
      obtain ⟨en0,en1,en2,en3,eb4,rfl⟩:=Kg ht
      exact ⟨⟨en0,en1,en2,en3,eb4⟩,fun j hj=>by rw [hat j hj];revert j;exact Hf (rfl) (rfl) (rfl) (rfl) (rfl),trivial⟩)
    subst hl
    exact ⟨l,some a,cap',rfl,hin,hz1,hz2⟩
theorem Kj:Try.prog.cellsOf 31=4:=by kernel_rfl
theorem Kk:Try.prog.cellsOf 29=1:=by kernel_rfl
set_option maxRecDepth 100000 in
theorem Kl {H:Type} {enc:TypeId×Value→H} {w:World} {fuel:Nat} {spare:Nat→Bool} {held:Bool} {cs:List Value} {x:DataW H×List MemPlace} (h:DataW.trod enc Try.prog w 0 spare held fuel 31 cs=some x) {B:Nat} (hz:Fits Try.prog 31 B x.1):∃ l0:List Int,∃ A0:Option Addr,∃ c0:Nat,∃ b1:Bool,∃ n2:Int,∃ l3:List Prm,∃ A3:Option Addr,∃ c3:Nat,cs=[.slice A0 l0.length c0,.bool b1,.int .i64 n2,.slice A3 l3.length c3]∧InS w noF 1 A0 l0.length (icl l0)∧l0.length*8≤140737488351232∧l0.length≤B∧InS w noF 5 A3 l3.length (jN l3)∧l3.length*40≤140737488351232∧l3.length≤B:=by
  obtain ⟨xs,n,_,hx,hl,hlen,hf⟩:=DataW.trod_struct Try.underlying31 h
  rw [Kj] at hl
  match cs,hl with
  | [q0,q1,q2,q3],_=>
    match xs,hlen with
    | [y0,y1,y2,y3],_=>
      have f0:DataW.trod enc Try.prog w 0 spare held n 23 [q0]=some y0:=by have:=hf 0 _ rfl;simpa [sR] using this
      have g0:=fG (i:=0) (u:=23) (d:=y0.1) Try.underlying31 G G (by rw [hx] at hz;exact hz)
      obtain ⟨p0l0,p0A0,p0c0,e0,p0f0,p0f1,p0f2⟩:=sQ f0 g0
      cases e0
      have f1:DataW.trod enc Try.prog w 0 spare held n 4 [q1]=some y1:=by have:=hf 1 _ rfl;simpa [Hu] using this
      obtain ⟨p1b0,e1⟩:=Ht f1
      cases e1
      have f2:DataW.trod enc Try.prog w 0 spare held n 3 [q2]=some y2:=by have:=hf 2 _ rfl;simpa [eY] using this
      obtain ⟨p2n0,e2⟩:=eX f2
      cases e2
      have f3:DataW.trod enc Try.prog w 0 spare held n 29 [q3]=some y3:=by have:=hf 3 _ rfl;simpa [Kk] using this
      have g3:=fG (i:=3) (u:=29) (d:=y3.1) Try.underlying31 G G (by rw [hx] at hz;exact hz)
      obtain ⟨p3l0,p3A0,p3c0,e3,p3f0,p3f1,p3f2⟩:=Ki f3 g3
      cases e3
      exact ⟨p0l0,p0A0,p0c0,p1b0,p2n0,p3l0,p3A0,p3c0,rfl,p0f0,p0f1,p0f2,p3f0,p3f1,p3f2⟩
set_option maxRecDepth 100000 in
theorem Km {H:Type} {enc:TypeId×Value→H} {w:World} {r:Reach} {b0:Nat} {v:Value} {d:DataW H} {p:List MemPlace} {sp:Nat→Bool} {hd:Bool} (hv:Value.okWide Try.prog w r b0 25 v) (h:DataW.Trod enc Try.prog w 0 sp hd 25 v d p) {B:Nat} (hz:Fits Try.prog 25 B d):∃ n0:Int,∃ l1:List Psg,∃ A1:Option Addr,∃ c1:Nat,∃ l2:List Int,∃ A2:Option Addr,∃ c2:Nat,v = .agg [.int .i64 n0,.slice A1 l1.length c1,.slice A2 l2.length c2].toArray∧InS w noF 7 A1 l1.length (pcell l1)∧l1.length*56≤140737488351232∧l1.length≤B∧InS w noF 1 A2 l2.length (icl l2)∧l2.length*8≤140737488351232∧l2.length≤B:=by
  obtain ⟨cs,rfl,_⟩:=okWide_struct Try.underlying25 hv
  obtain ⟨fuel,hf⟩:=h
  obtain ⟨n0,l1,A1,c1,l2,A2,c2,e,f0,f1,f2,f3,f4,f5⟩:=Jz hf hz
  have e':cs=[.int .i64 n0,.slice A1 l1.length c1,.slice A2 l2.length c2].toArray:=by rw [←e];simp [Value.cells]
  subst e'
  exact ⟨n0,l1,A1,c1,l2,A2,c2,rfl,f0,f1,f2,f3,f4,f5⟩
set_option maxRecDepth 100000 in
theorem Kn {H:Type} {enc:TypeId×Value→H} {w:World} {r:Reach} {b0:Nat} {v:Value} {d:DataW H} {p:List MemPlace} {sp:Nat→Bool} {hd:Bool} (hv:Value.okWide Try.prog w r b0 28 v) (h:DataW.Trod enc Try.prog w 0 sp hd 28 v d p) {B:Nat} (hz:Fits Try.prog 28 B d):∃ n0:Int,∃ l1:List Jb,∃ A1:Option Addr,∃ c1:Nat,∃ l2:List Int,∃ A2:Option Addr,∃ c2:Nat,∃ n3:Int,∃ n4:Int,v = .agg [.int .i64 n0,.slice A1 l1.length c1,.slice A2 l2.length c2,.int .i64 n3,.int .i64 n4].toArray∧InS w noF 3 A1 l1.length (mK l1)∧l1.length*40≤140737488351232∧l1.length≤B∧(∀ k,k<l1.length→InS w noF 1 (l1.getD k Jb.zero).A (l1.getD k Jb.zero).after.length (icl (l1.getD k Jb.zero).after)∧(l1.getD k Jb.zero).after.length*8≤140737488351232∧(l1.getD k Jb.zero).after.length≤B)∧InS w noF 1 A2 l2.length (icl l2)∧l2.length*8≤140737488351232∧l2.length≤B:=by
  obtain ⟨cs,rfl,_⟩:=okWide_struct Try.underlying28 hv
  obtain ⟨fuel,hf⟩:=h
  obtain ⟨n0,l1,A1,c1,l2,A2,c2,n3,n4,e,f0,f1,f2,f3,f4,f5,f6⟩:=Kf hf hz
  have e':cs=[.int .i64 n0,.slice A1 l1.length c1,.slice A2 l2.length c2,.int .i64 n3,.int .i64 n4].toArray:=by rw [←e];simp [Value.cells]
  subst e'
  exact ⟨n0,l1,A1,c1,l2,A2,c2,n3,n4,rfl,f0,f1,f2,f3,f4,f5,f6⟩
set_option maxRecDepth 100000 in
theorem Ko {H:Type} {enc:TypeId×Value→H} {w:World} {r:Reach} {b0:Nat} {v:Value} {d:DataW H} {p:List MemPlace} {sp:Nat→Bool} {hd:Bool} (hv:Value.okWide Try.prog w r b0 31 v) (h:DataW.Trod enc Try.prog w 0 sp hd 31 v d p) {B:Nat} (hz:Fits Try.prog 31 B d):∃ l0:List Int,∃ A0:Option Addr,∃ c0:Nat,∃ b1:Bool,∃ n2:Int,∃ l3:List Prm,∃ A3:Option Addr,∃ c3:Nat,v = .agg [.slice A0 l0.length c0,.bool b1,.int .i64 n2,.slice A3 l3.length c3].toArray∧InS w noF 1 A0 l0.length (icl l0)∧l0.length*8≤140737488351232∧l0.length≤B∧InS w noF 5 A3 l3.length (jN l3)∧l3.length*40≤140737488351232∧l3.length≤B:=by
  obtain ⟨cs,rfl,_⟩:=okWide_struct Try.underlying31 hv
  obtain ⟨fuel,hf⟩:=h
  obtain ⟨l0,A0,c0,b1,n2,l3,A3,c3,e,f0,f1,f2,f3,f4,f5⟩:=Kl hf hz
  have e':cs=[.slice A0 l0.length c0,.bool b1,.int .i64 n2,.slice A3 l3.length c3].toArray:=by rw [←e];simp [Value.cells]
  subst e'
  exact ⟨l0,A0,c0,b1,n2,l3,A3,c3,rfl,f0,f1,f2,f3,f4,f5⟩
end
end Go.Proofs.Ytinghmelkmblmaa
