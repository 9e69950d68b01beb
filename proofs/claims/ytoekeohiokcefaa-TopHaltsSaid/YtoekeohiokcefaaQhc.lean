/- Part 3 of the proof. -/
import Derived.Test.YtoekeohiokcefaaQhb
namespace Go.Proofs.Ytoekeohiokcefaa
open Go.RowKit
set_option linter.unusedVariables false
set_option linter.unusedSimpArgs false
set_option maxRecDepth 100000
set_option maxHeartbeats 4000000
section
def exBr:List Brake:=[⟨12000,1⟩,⟨16000,3⟩]
theorem eW:distI ⟨true,1000,20,2000,20000,exBr⟩ ⟨60,0,500,0⟩=(108,135,0):=by kernel_rfl
theorem eX (w:World) :
    Calls Try.prog 24 [].toArray w (Ret (fun v w'=>∃ A,v = .agg [.bool true,.int .i64 1000,.int .i64 20,.int .i64 2000,.int .i64 20000,.slice A 2 2].toArray∧St w noF [ownM 121 2 A 2 2 (bcell exBr)] w')):=by
 refine enter Try.func24 rfl Try.ntmps24 rfl (fun a H=>?_)
 have S:=St.start w
 refine seq_list fun K1 k1=>?_
 refine aI H rfl S Cn ?_;clear H a S;intro b0 _ a hb0 hbw0 S H
 refine k1 _ _ ?_;clear k1 K1
 refine seq_list fun K2 k2=>?_
 refine ls 2 H<|sd (aO yO G G)<|sd (aO yO G G)<|sE ?_;clear H a;intro a H
 refine bB H rfl S kP iZ pJ G G G G G G G G G ?_;clear H a S;intro A1 _ a hA1 S H
 refine ls 1 H<|sd (aO En G G)<|sE ?_;clear H a;intro a H
 refine aC H S (i:=1) G G G G hZ G G ?_
 clear H a S;intro _ a S H
 refine k2 _ _ ?_;clear k2 K2
 refine wp_ret ?_
 refine retA (fn:=Try.f24) rfl H rfl fS (by exact hZ) (dL S (i:=1) rfl) ?_
 replace S:=S.recell (i:=0) rfl (cell':=bcell exBr) (Dh (two G G) (two G G))
 exact ⟨_,rfl,(S.sel [0] G G)⟩
theorem dD (w:World) :
    Calls Try.prog 7 [].toArray w (Ret (fun v w'=>v = .bool true∧St w noF [] w')):=by
 refine enter Try.func7 rfl Try.ntmps7 rfl (fun a H=>?_)
 have S:=St.start w
 refine sS H fun K1 k1=>sr 1 rfl<|sE ?_;clear H a;intro a H
 refine k1 _ ?_;clear k1 K1
 refine seq_list fun K2 k2=>?_
 refine ls 2 H<|sd (aO fV G G)<|sd (aO Em G G)<|sE ?_;clear H a;intro a H
 refine aI H rfl S Cm ?_;clear H a S;intro b1 _ a hb1 hbw1 S H
 refine aC H S (i:=0) G G G G oE G G ?_
 clear H a S;intro _ a S H
 refine k2 _ _ ?_;clear k2 K2
 replace H:=H.keep [1] rfl
 replace S:=S.drew
 refine seq_wt 999999 (.q 1 (.b3 0 (.b3 2 (.q 3 (.q 4 (.q 5 (.q 6 (.b2 7 (.e 8 (.e 9 (.e 10 (.q 11 .nil)))) 8 (.e 7 (.e 9 (.e 10 (.q 11 .nil))))))))) 7 (.b2 2 (.q 3 (.q 4 (.q 5 (.q 6 (.e 8 (.e 9 (.e 10 (.q 11 .nil)))))))) 8 (.e 2 (.q 3 (.q 4 (.q 5 (.q 6 (.e 9 (.e 10 (.q 11 .nil))))))))) 8 (.b2 2 (.q 3 (.q 4 (.q 5 (.q 6 (.e 7 (.e 9 (.e 10 (.q 11 .nil)))))))) 7 (.e 2 (.q 3 (.q 4 (.q 5 (.q 6 (.e 9 (.e 10 (.q 11 .nil)))))))))) 7 (.b2 0 (.b2 2 (.q 3 (.q 4 (.q 5 (.q 6 (.e 8 (.e 9 (.e 10 (.q 11 .nil)))))))) 8 (.e 2 (.q 3 (.q 4 (.q 5 (.q 6 (.e 9 (.e 10 (.q 11 .nil))))))))) 8 (.e 0 (.e 2 (.q 3 (.q 4 (.q 5 (.q 6 (.e 9 (.e 10 (.q 11 .nil)))))))))) 8 (.b2 0 (.b2 2 (.q 3 (.q 4 (.q 5 (.q 6 (.e 7 (.e 9 (.e 10 (.q 11 .nil)))))))) 7 (.e 2 (.q 3 (.q 4 (.q 5 (.q 6 (.e 9 (.e 10 (.q 11 .nil))))))))) 7 (.e 0 (.e 2 (.q 3 (.q 4 (.q 5 (.q 6 (.e 9 (.e 10 (.q 11 .nil)))))))))))) (by kernel_rfl) (by kernel_rfl) (S.sel [0] G G) fun K3 k3=>?_
 refine aL H G G (fun _ S=>(aD mZ oE rfl S (i:=0) G G)) ?_;clear H a;intro a H
 refine qU G G G ?_ ?_ ?_
 ·skip
  refine aA H G G Try.func24 G G (eX _) ?_;clear H a
  rintro _ _ a ⟨A4,rfl,S2⟩ H
  replace S:=S.call S2;clear S2
  refine wpList_nil (And.intro (Or.inr (S.sel [1] G G)) ?_)
  refine qU G G G ?_ ?_ ?_
  ·skip
   refine aA H G G Try.func23 G G (bW true 1000 20 2000 20000 exBr A4 2 60 0 500 0 _ (ownM.inS S (i:=0) rfl) (by decide)) ?_;clear H a
   rintro _ _ a ⟨tl,th,rfl,S2⟩ H
   replace S:=S.call S2;clear S2
   rw [eW] at H
   refine wpList_nil (And.intro (Or.inr (S.sel [1] G G)) ?_)
   refine aL H G G (fun _ S=>aP rfl) ?_;clear H a;intro a H
   refine aL H G G (fun _ S=>aQ G G) ?_;clear H a;intro a H
   refine aL H G G (fun _ S=>aQ G G) ?_;clear H a;intro a H
   refine aL H G G (fun _ S=>aQ G G) ?_;clear H a;intro a H
   refine dB G G ?_ ?_
   ·skip
    refine aI H rfl S dY ?_;clear H a S;intro b2 _ a hb2 hbw2 S H
    refine wpList_nil (And.intro (Or.inr (S.sel [2] G G)) ?_)
    refine aK rfl ?_
    refine aI H rfl S dY ?_;clear H a S;intro b3 _ a hb3 hbw3 S H
    refine wpList_nil (And.intro (Or.inr (S.sel [3] G G)) ?_)
    refine aK rfl ?_
    refine aC H S (i:=1) G G G G aY G G ?_
    clear H a S;intro _ a S H
    refine wpList_nil (And.intro (Or.inr (S.sel [3] G G)) ?_)
    refine aK rfl ?_
    refine aC H S (i:=0) G G G G aY G G ?_
    clear H a S;intro _ a S H
    refine wpList_nil (And.intro (Or.inr (S.sel [3] G G)) ?_)
    refine aL H G G (fun _ S=>bG rfl) ?_;clear H a;intro a H
    refine bF ?_
    refine k3 _ _ ?_
    clear k3 K3
    replace H:=H.keep [2,4] rfl
    refine seq_list fun K4 k4=>?_
    refine aA H G G Try.func25 G G (bQ _) ?_;clear H a
    rintro _ _ a ⟨SA,B0,B1,B2,B3,B4,QA,TA,rfl,S2⟩ H
    replace S:=S.call S2;clear S2
    refine ls 3 H<|sr 3 rfl<|sE ?_;clear H a;intro a H
    refine aI H rfl S gJ ?_;clear H a S;intro b5 _ a hb5 hbw5 S H
    refine aC H S (i:=0) G G G G bY G G ?_
    clear H a S;intro _ a S H
    refine ls 1 H<|sr 1 rfl<|sE ?_;clear H a;intro a H
    refine k4 _ _ ?_;clear k4 K4
    replace H:=H.keep [2,4,5] rfl
    refine seq_list fun K5 k5=>?_
    refine ls 1 H<|sd ((aD cJ bY rfl S (i:=0) G G))<|sE ?_;clear H a;intro a H
    refine aA H G G Try.func26 G G (cP 2 exSw SA 4 exWs QA 5 (exOA B0 B1 B2 B3 B4) exOc _ (ownM.inS S (i:=1) rfl) (ownM.inS S (i:=7) rfl) (fun k hk=>by
      rcases k with _|_|_|_|_|k
      · exact ownM.inS S (i:=2) rfl
      · exact ownM.inS S (i:=3) rfl
      · exact ownM.inS S (i:=4) rfl
      · exact ownM.inS S (i:=5) rfl
      · exact ownM.inS S (i:=6) rfl
      · exact absurd hk (by simp [exWs])
    ) exCir) ?_;clear H a
    rintro _ _ a ⟨A6,c6,rfl,S2⟩ H
    replace S:=S.call S2;clear S2
    rw [eI] at H
    refine ls 5 H<|sr 5 rfl<|sE ?_;clear H a;intro a H
    refine k5 _ _ ?_;clear k5 K5
    replace H:=H.keep [2,4,7,8] rfl
    refine sS H fun K6 k6=>sr 3 rfl<|sg 2 2 29 31 true G G (fun hg3=>sy hg3<|sr 1 rfl<|sy hg3<|sr 1 rfl<|sz 2 G G G)<|sa G G G<|sr 1 rfl<|sg 3 6 33 36 true G G (fun hg7=>sy hg7<|sd ((aD bJ aY rfl S (i:=9) G G))<|sy hg7<|sd (aO fV G G)<|sy hg7<|sd (bL G G)<|sz 3 G G G)<|sa G G G<|sr 1 rfl<|sg 3 11 38 41 true G G (fun hg12=>sy hg12<|sr 1 rfl<|sy hg12<|sL gP rfl<|sy hg12<|sr 1 rfl<|sz 3 G G G)<|sa G G G<|sr 1 rfl<|sE ?_;clear H a;intro a H
    refine k6 _ ?_;clear k6 K6
    refine wp_ret ?_
    refine ret1 (fn:=Try.f7) rfl H rfl ?_
    exact ⟨rfl,(S.sel [] G G)⟩
   ·skip
    refine aI H rfl S dY ?_;clear H a S;intro b3 _ a hb3 hbw3 S H
    refine wpList_nil (And.intro (Or.inr (S.sel [2] G G)) ?_)
    refine aK rfl ?_
    refine aI H rfl S dY ?_;clear H a S;intro b2 _ a hb2 hbw2 S H
    refine wpList_nil (And.intro (Or.inr (S.sel [3] G G)) ?_)
    refine aK rfl ?_
    refine aC H S (i:=0) G G G G aY G G ?_
    clear H a S;intro _ a S H
    refine wpList_nil (And.intro (Or.inr (S.sel [3] G G)) ?_)
    refine aK rfl ?_
    refine aC H S (i:=1) G G G G aY G G ?_
    clear H a S;intro _ a S H
    refine wpList_nil (And.intro (Or.inr (S.sel [3] G G)) ?_)
    refine aL H G G (fun _ S=>bG rfl) ?_;clear H a;intro a H
    refine bF ?_
    refine k3 _ _ ?_
    clear k3 K3
    replace H:=H.keep [2,4] rfl
    refine seq_list fun K7 k7=>?_
    refine aA H G G Try.func25 G G (bQ _) ?_;clear H a
    rintro _ _ a ⟨SA,B0,B1,B2,B3,B4,QA,TA,rfl,S2⟩ H
    replace S:=S.call S2;clear S2
    refine ls 3 H<|sr 3 rfl<|sE ?_;clear H a;intro a H
    refine aI H rfl S gJ ?_;clear H a S;intro b5 _ a hb5 hbw5 S H
    refine aC H S (i:=0) G G G G bY G G ?_
    clear H a S;intro _ a S H
    refine ls 1 H<|sr 1 rfl<|sE ?_;clear H a;intro a H
    refine k7 _ _ ?_;clear k7 K7
    replace H:=H.keep [2,4,5] rfl
    refine seq_list fun K8 k8=>?_
    refine ls 1 H<|sd ((aD cJ bY rfl S (i:=0) G G))<|sE ?_;clear H a;intro a H
    refine aA H G G Try.func26 G G (cP 2 exSw SA 4 exWs QA 5 (exOA B0 B1 B2 B3 B4) exOc _ (ownM.inS S (i:=1) rfl) (ownM.inS S (i:=7) rfl) (fun k hk=>by
      rcases k with _|_|_|_|_|k
      · exact ownM.inS S (i:=2) rfl
      · exact ownM.inS S (i:=3) rfl
      · exact ownM.inS S (i:=4) rfl
      · exact ownM.inS S (i:=5) rfl
      · exact ownM.inS S (i:=6) rfl
      · exact absurd hk (by simp [exWs])
    ) exCir) ?_;clear H a
    rintro _ _ a ⟨A6,c6,rfl,S2⟩ H
    replace S:=S.call S2;clear S2
    rw [eI] at H
    refine ls 5 H<|sr 5 rfl<|sE ?_;clear H a;intro a H
    refine k8 _ _ ?_;clear k8 K8
    replace H:=H.keep [2,4,7,8] rfl
    refine sS H fun K9 k9=>sr 3 rfl<|sg 2 2 29 31 true G G (fun hg3=>sy hg3<|sr 1 rfl<|sy hg3<|sr 1 rfl<|sz 2 G G G)<|sa G G G<|sr 1 rfl<|sg 3 6 33 36 true G G (fun hg7=>sy hg7<|sd ((aD bJ aY rfl S (i:=8) G G))<|sy hg7<|sd (aO fV G G)<|sy hg7<|sd (bL G G)<|sz 3 G G G)<|sa G G G<|sr 1 rfl<|sg 3 11 38 41 true G G (fun hg12=>sy hg12<|sr 1 rfl<|sy hg12<|sL gP rfl<|sy hg12<|sr 1 rfl<|sz 3 G G G)<|sa G G G<|sr 1 rfl<|sE ?_;clear H a;intro a H
    refine k9 _ ?_;clear k9 K9
    refine wp_ret ?_
    refine ret1 (fn:=Try.f7) rfl H rfl ?_
    exact ⟨rfl,(S.sel [] G G)⟩
  ·skip
   refine aI H rfl S dY ?_;clear H a S;intro b2 _ a hb2 hbw2 S H
   refine wpList_nil (And.intro (Or.inr (S.sel [2] G G)) ?_)
   refine dB G G ?_ ?_
   ·skip
    refine aA H G G Try.func23 G G (bW true 1000 20 2000 20000 exBr A4 2 60 0 500 0 _ (ownM.inS S (i:=1) rfl) (by decide)) ?_;clear H a
    rintro _ _ a ⟨tl,th,rfl,S2⟩ H
    replace S:=S.call S2;clear S2
    rw [eW] at H
    refine wpList_nil (And.intro (Or.inr (S.sel [2] G G)) ?_)
    refine aL H G G (fun _ S=>aP rfl) ?_;clear H a;intro a H
    refine aL H G G (fun _ S=>aQ G G) ?_;clear H a;intro a H
    refine aL H G G (fun _ S=>aQ G G) ?_;clear H a;intro a H
    refine aL H G G (fun _ S=>aQ G G) ?_;clear H a;intro a H
    refine aK rfl ?_
    refine aI H rfl S dY ?_;clear H a S;intro b3 _ a hb3 hbw3 S H
    refine wpList_nil (And.intro (Or.inr (S.sel [3] G G)) ?_)
    refine aK rfl ?_
    refine aC H S (i:=1) G G G G aY G G ?_
    clear H a S;intro _ a S H
    refine wpList_nil (And.intro (Or.inr (S.sel [3] G G)) ?_)
    refine aK rfl ?_
    refine aC H S (i:=0) G G G G aY G G ?_
    clear H a S;intro _ a S H
    refine wpList_nil (And.intro (Or.inr (S.sel [3] G G)) ?_)
    refine aL H G G (fun _ S=>bG rfl) ?_;clear H a;intro a H
    refine bF ?_
    refine k3 _ _ ?_
    clear k3 K3
    replace H:=H.keep [2,4] rfl
    refine seq_list fun K10 k10=>?_
    refine aA H G G Try.func25 G G (bQ _) ?_;clear H a
    rintro _ _ a ⟨SA,B0,B1,B2,B3,B4,QA,TA,rfl,S2⟩ H
    replace S:=S.call S2;clear S2
    refine ls 3 H<|sr 3 rfl<|sE ?_;clear H a;intro a H
    refine aI H rfl S gJ ?_;clear H a S;intro b5 _ a hb5 hbw5 S H
    refine aC H S (i:=0) G G G G bY G G ?_
    clear H a S;intro _ a S H
    refine ls 1 H<|sr 1 rfl<|sE ?_;clear H a;intro a H
    refine k10 _ _ ?_;clear k10 K10
    replace H:=H.keep [2,4,5] rfl
    refine seq_list fun K11 k11=>?_
    refine ls 1 H<|sd ((aD cJ bY rfl S (i:=0) G G))<|sE ?_;clear H a;intro a H
    refine aA H G G Try.func26 G G (cP 2 exSw SA 4 exWs QA 5 (exOA B0 B1 B2 B3 B4) exOc _ (ownM.inS S (i:=1) rfl) (ownM.inS S (i:=7) rfl) (fun k hk=>by
      rcases k with _|_|_|_|_|k
      · exact ownM.inS S (i:=2) rfl
      · exact ownM.inS S (i:=3) rfl
      · exact ownM.inS S (i:=4) rfl
      · exact ownM.inS S (i:=5) rfl
      · exact ownM.inS S (i:=6) rfl
      · exact absurd hk (by simp [exWs])
    ) exCir) ?_;clear H a
    rintro _ _ a ⟨A6,c6,rfl,S2⟩ H
    replace S:=S.call S2;clear S2
    rw [eI] at H
    refine ls 5 H<|sr 5 rfl<|sE ?_;clear H a;intro a H
    refine k11 _ _ ?_;clear k11 K11
    replace H:=H.keep [2,4,7,8] rfl
    refine sS H fun K12 k12=>sr 3 rfl<|sg 2 2 29 31 true G G (fun hg3=>sy hg3<|sr 1 rfl<|sy hg3<|sr 1 rfl<|sz 2 G G G)<|sa G G G<|sr 1 rfl<|sg 3 6 33 36 true G G (fun hg7=>sy hg7<|sd ((aD bJ aY rfl S (i:=9) G G))<|sy hg7<|sd (aO fV G G)<|sy hg7<|sd (bL G G)<|sz 3 G G G)<|sa G G G<|sr 1 rfl<|sg 3 11 38 41 true G G (fun hg12=>sy hg12<|sr 1 rfl<|sy hg12<|sL gP rfl<|sy hg12<|sr 1 rfl<|sz 3 G G G)<|sa G G G<|sr 1 rfl<|sE ?_;clear H a;intro a H
    refine k12 _ ?_;clear k12 K12
    refine wp_ret ?_
    refine ret1 (fn:=Try.f7) rfl H rfl ?_
    exact ⟨rfl,(S.sel [] G G)⟩
   ·skip
    refine aI H rfl S dY ?_;clear H a S;intro b3 _ a hb3 hbw3 S H
    refine wpList_nil (And.intro (Or.inr (S.sel [3] G G)) ?_)
    refine aK rfl ?_
    refine aA H G G Try.func23 G G (bW true 1000 20 2000 20000 exBr A4 2 60 0 500 0 _ (ownM.inS S (i:=2) rfl) (by decide)) ?_;clear H a
    rintro _ _ a ⟨tl,th,rfl,S2⟩ H
    replace S:=S.call S2;clear S2
    rw [eW] at H
    refine wpList_nil (And.intro (Or.inr (S.sel [3] G G)) ?_)
    refine aL H G G (fun _ S=>aP rfl) ?_;clear H a;intro a H
    refine aL H G G (fun _ S=>aQ G G) ?_;clear H a;intro a H
    refine aL H G G (fun _ S=>aQ G G) ?_;clear H a;intro a H
    refine aL H G G (fun _ S=>aQ G G) ?_;clear H a;intro a H
    refine aK rfl ?_
    refine aC H S (i:=1) G G G G aY G G ?_
    clear H a S;intro _ a S H
    refine wpList_nil (And.intro (Or.inr (S.sel [3] G G)) ?_)
    refine aK rfl ?_
    refine aC H S (i:=0) G G G G aY G G ?_
    clear H a S;intro _ a S H
    refine wpList_nil (And.intro (Or.inr (S.sel [3] G G)) ?_)
    refine aL H G G (fun _ S=>bG rfl) ?_;clear H a;intro a H
    refine bF ?_
    refine k3 _ _ ?_
    clear k3 K3
    replace H:=H.keep [2,4] rfl
    refine seq_list fun K13 k13=>?_
    refine aA H G G Try.func25 G G (bQ _) ?_;clear H a
    rintro _ _ a ⟨SA,B0,B1,B2,B3,B4,QA,TA,rfl,S2⟩ H
    replace S:=S.call S2;clear S2
    refine ls 3 H<|sr 3 rfl<|sE ?_;clear H a;intro a H
    refine aI H rfl S gJ ?_;clear H a S;intro b5 _ a hb5 hbw5 S H
    refine aC H S (i:=0) G G G G bY G G ?_
    clear H a S;intro _ a S H
    refine ls 1 H<|sr 1 rfl<|sE ?_;clear H a;intro a H
    refine k13 _ _ ?_;clear k13 K13
    replace H:=H.keep [2,4,5] rfl
    refine seq_list fun K14 k14=>?_
    refine ls 1 H<|sd ((aD cJ bY rfl S (i:=0) G G))<|sE ?_;clear H a;intro a H
    refine aA H G G Try.func26 G G (cP 2 exSw SA 4 exWs QA 5 (exOA B0 B1 B2 B3 B4) exOc _ (ownM.inS S (i:=1) rfl) (ownM.inS S (i:=7) rfl) (fun k hk=>by
      rcases k with _|_|_|_|_|k
      · exact ownM.inS S (i:=2) rfl
      · exact ownM.inS S (i:=3) rfl
      · exact ownM.inS S (i:=4) rfl
      · exact ownM.inS S (i:=5) rfl
      · exact ownM.inS S (i:=6) rfl
      · exact absurd hk (by simp [exWs])
    ) exCir) ?_;clear H a
    rintro _ _ a ⟨A6,c6,rfl,S2⟩ H
    replace S:=S.call S2;clear S2
    rw [eI] at H
    refine ls 5 H<|sr 5 rfl<|sE ?_;clear H a;intro a H
    refine k14 _ _ ?_;clear k14 K14
    replace H:=H.keep [2,4,7,8] rfl
    refine sS H fun K15 k15=>sr 3 rfl<|sg 2 2 29 31 true G G (fun hg3=>sy hg3<|sr 1 rfl<|sy hg3<|sr 1 rfl<|sz 2 G G G)<|sa G G G<|sr 1 rfl<|sg 3 6 33 36 true G G (fun hg7=>sy hg7<|sd ((aD bJ aY rfl S (i:=9) G G))<|sy hg7<|sd (aO fV G G)<|sy hg7<|sd (bL G G)<|sz 3 G G G)<|sa G G G<|sr 1 rfl<|sg 3 11 38 41 true G G (fun hg12=>sy hg12<|sr 1 rfl<|sy hg12<|sL gP rfl<|sy hg12<|sr 1 rfl<|sz 3 G G G)<|sa G G G<|sr 1 rfl<|sE ?_;clear H a;intro a H
    refine k15 _ ?_;clear k15 K15
    refine wp_ret ?_
    refine ret1 (fn:=Try.f7) rfl H rfl ?_
    exact ⟨rfl,(S.sel [] G G)⟩
  ·skip
   refine aI H rfl S dY ?_;clear H a S;intro b3 _ a hb3 hbw3 S H
   refine wpList_nil (And.intro (Or.inr (S.sel [2] G G)) ?_)
   refine dB G G ?_ ?_
   ·skip
    refine aA H G G Try.func23 G G (bW true 1000 20 2000 20000 exBr A4 2 60 0 500 0 _ (ownM.inS S (i:=1) rfl) (by decide)) ?_;clear H a
    rintro _ _ a ⟨tl,th,rfl,S2⟩ H
    replace S:=S.call S2;clear S2
    rw [eW] at H
    refine wpList_nil (And.intro (Or.inr (S.sel [2] G G)) ?_)
    refine aL H G G (fun _ S=>aP rfl) ?_;clear H a;intro a H
    refine aL H G G (fun _ S=>aQ G G) ?_;clear H a;intro a H
    refine aL H G G (fun _ S=>aQ G G) ?_;clear H a;intro a H
    refine aL H G G (fun _ S=>aQ G G) ?_;clear H a;intro a H
    refine aK rfl ?_
    refine aI H rfl S dY ?_;clear H a S;intro b2 _ a hb2 hbw2 S H
    refine wpList_nil (And.intro (Or.inr (S.sel [3] G G)) ?_)
    refine aK rfl ?_
    refine aC H S (i:=0) G G G G aY G G ?_
    clear H a S;intro _ a S H
    refine wpList_nil (And.intro (Or.inr (S.sel [3] G G)) ?_)
    refine aK rfl ?_
    refine aC H S (i:=1) G G G G aY G G ?_
    clear H a S;intro _ a S H
    refine wpList_nil (And.intro (Or.inr (S.sel [3] G G)) ?_)
    refine aL H G G (fun _ S=>bG rfl) ?_;clear H a;intro a H
    refine bF ?_
    refine k3 _ _ ?_
    clear k3 K3
    replace H:=H.keep [2,4] rfl
    refine seq_list fun K16 k16=>?_
    refine aA H G G Try.func25 G G (bQ _) ?_;clear H a
    rintro _ _ a ⟨SA,B0,B1,B2,B3,B4,QA,TA,rfl,S2⟩ H
    replace S:=S.call S2;clear S2
    refine ls 3 H<|sr 3 rfl<|sE ?_;clear H a;intro a H
    refine aI H rfl S gJ ?_;clear H a S;intro b5 _ a hb5 hbw5 S H
    refine aC H S (i:=0) G G G G bY G G ?_
    clear H a S;intro _ a S H
    refine ls 1 H<|sr 1 rfl<|sE ?_;clear H a;intro a H
    refine k16 _ _ ?_;clear k16 K16
    replace H:=H.keep [2,4,5] rfl
    refine seq_list fun K17 k17=>?_
    refine ls 1 H<|sd ((aD cJ bY rfl S (i:=0) G G))<|sE ?_;clear H a;intro a H
    refine aA H G G Try.func26 G G (cP 2 exSw SA 4 exWs QA 5 (exOA B0 B1 B2 B3 B4) exOc _ (ownM.inS S (i:=1) rfl) (ownM.inS S (i:=7) rfl) (fun k hk=>by
      rcases k with _|_|_|_|_|k
      · exact ownM.inS S (i:=2) rfl
      · exact ownM.inS S (i:=3) rfl
      · exact ownM.inS S (i:=4) rfl
      · exact ownM.inS S (i:=5) rfl
      · exact ownM.inS S (i:=6) rfl
      · exact absurd hk (by simp [exWs])
    ) exCir) ?_;clear H a
    rintro _ _ a ⟨A6,c6,rfl,S2⟩ H
    replace S:=S.call S2;clear S2
    rw [eI] at H
    refine ls 5 H<|sr 5 rfl<|sE ?_;clear H a;intro a H
    refine k17 _ _ ?_;clear k17 K17
    replace H:=H.keep [2,4,7,8] rfl
    refine sS H fun K18 k18=>sr 3 rfl<|sg 2 2 29 31 true G G (fun hg3=>sy hg3<|sr 1 rfl<|sy hg3<|sr 1 rfl<|sz 2 G G G)<|sa G G G<|sr 1 rfl<|sg 3 6 33 36 true G G (fun hg7=>sy hg7<|sd ((aD bJ aY rfl S (i:=8) G G))<|sy hg7<|sd (aO fV G G)<|sy hg7<|sd (bL G G)<|sz 3 G G G)<|sa G G G<|sr 1 rfl<|sg 3 11 38 41 true G G (fun hg12=>sy hg12<|sr 1 rfl<|sy hg12<|sL gP rfl<|sy hg12<|sr 1 rfl<|sz 3 G G G)<|sa G G G<|sr 1 rfl<|sE ?_;clear H a;intro a H
    refine k18 _ ?_;clear k18 K18
    refine wp_ret ?_
    refine ret1 (fn:=Try.f7) rfl H rfl ?_
    exact ⟨rfl,(S.sel [] G G)⟩
   ·skip
    refine aI H rfl S dY ?_;clear H a S;intro b2 _ a hb2 hbw2 S H
    refine wpList_nil (And.intro (Or.inr (S.sel [3] G G)) ?_)
    refine aK rfl ?_
    refine aA H G G Try.func23 G G (bW true 1000 20 2000 20000 exBr A4 2 60 0 500 0 _ (ownM.inS S (i:=2) rfl) (by decide)) ?_;clear H a
    rintro _ _ a ⟨tl,th,rfl,S2⟩ H
    replace S:=S.call S2;clear S2
    rw [eW] at H
    refine wpList_nil (And.intro (Or.inr (S.sel [3] G G)) ?_)
    refine aL H G G (fun _ S=>aP rfl) ?_;clear H a;intro a H
    refine aL H G G (fun _ S=>aQ G G) ?_;clear H a;intro a H
    refine aL H G G (fun _ S=>aQ G G) ?_;clear H a;intro a H
    refine aL H G G (fun _ S=>aQ G G) ?_;clear H a;intro a H
    refine aK rfl ?_
    refine aC H S (i:=0) G G G G aY G G ?_
    clear H a S;intro _ a S H
    refine wpList_nil (And.intro (Or.inr (S.sel [3] G G)) ?_)
    refine aK rfl ?_
    refine aC H S (i:=1) G G G G aY G G ?_
    clear H a S;intro _ a S H
    refine wpList_nil (And.intro (Or.inr (S.sel [3] G G)) ?_)
    refine aL H G G (fun _ S=>bG rfl) ?_;clear H a;intro a H
    refine bF ?_
    refine k3 _ _ ?_
    clear k3 K3
    replace H:=H.keep [2,4] rfl
    refine seq_list fun K19 k19=>?_
    refine aA H G G Try.func25 G G (bQ _) ?_;clear H a
    rintro _ _ a ⟨SA,B0,B1,B2,B3,B4,QA,TA,rfl,S2⟩ H
    replace S:=S.call S2;clear S2
    refine ls 3 H<|sr 3 rfl<|sE ?_;clear H a;intro a H
    refine aI H rfl S gJ ?_;clear H a S;intro b5 _ a hb5 hbw5 S H
    refine aC H S (i:=0) G G G G bY G G ?_
    clear H a S;intro _ a S H
    refine ls 1 H<|sr 1 rfl<|sE ?_;clear H a;intro a H
    refine k19 _ _ ?_;clear k19 K19
    replace H:=H.keep [2,4,5] rfl
    refine seq_list fun K20 k20=>?_
    refine ls 1 H<|sd ((aD cJ bY rfl S (i:=0) G G))<|sE ?_;clear H a;intro a H
    refine aA H G G Try.func26 G G (cP 2 exSw SA 4 exWs QA 5 (exOA B0 B1 B2 B3 B4) exOc _ (ownM.inS S (i:=1) rfl) (ownM.inS S (i:=7) rfl) (fun k hk=>by
      rcases k with _|_|_|_|_|k
      · exact ownM.inS S (i:=2) rfl
      · exact ownM.inS S (i:=3) rfl
      · exact ownM.inS S (i:=4) rfl
      · exact ownM.inS S (i:=5) rfl
      · exact ownM.inS S (i:=6) rfl
      · exact absurd hk (by simp [exWs])
    ) exCir) ?_;clear H a
    rintro _ _ a ⟨A6,c6,rfl,S2⟩ H
    replace S:=S.call S2;clear S2
    rw [eI] at H
    refine ls 5 H<|sr 5 rfl<|sE ?_;clear H a;intro a H
    refine k20 _ _ ?_;clear k20 K20
    replace H:=H.keep [2,4,7,8] rfl
    refine sS H fun K21 k21=>sr 3 rfl<|sg 2 2 29 31 true G G (fun hg3=>sy hg3<|sr 1 rfl<|sy hg3<|sr 1 rfl<|sz 2 G G G)<|sa G G G<|sr 1 rfl<|sg 3 6 33 36 true G G (fun hg7=>sy hg7<|sd ((aD bJ aY rfl S (i:=8) G G))<|sy hg7<|sd (aO fV G G)<|sy hg7<|sd (bL G G)<|sz 3 G G G)<|sa G G G<|sr 1 rfl<|sg 3 11 38 41 true G G (fun hg12=>sy hg12<|sr 1 rfl<|sy hg12<|sL gP rfl<|sy hg12<|sr 1 rfl<|sz 3 G G G)<|sa G G G<|sr 1 rfl<|sE ?_;clear H a;intro a H
    refine k21 _ ?_;clear k21 K21
    refine wp_ret ?_
    refine ret1 (fn:=Try.f7) rfl H rfl ?_
    exact ⟨rfl,(S.sel [] G G)⟩
 ·skip
  refine aI H rfl S dY ?_;clear H a S;intro b2 _ a hb2 hbw2 S H
  refine wpList_nil (And.intro (Or.inr (S.sel [1] G G)) ?_)
  refine dB G G ?_ ?_
  ·skip
   refine aA H G G Try.func24 G G (eX _) ?_;clear H a
   rintro _ _ a ⟨A4,rfl,S2⟩ H
   replace S:=S.call S2;clear S2
   refine wpList_nil (And.intro (Or.inr (S.sel [2] G G)) ?_)
   refine dB G G ?_ ?_
   ·skip
    refine aA H G G Try.func23 G G (bW true 1000 20 2000 20000 exBr A4 2 60 0 500 0 _ (ownM.inS S (i:=0) rfl) (by decide)) ?_;clear H a
    rintro _ _ a ⟨tl,th,rfl,S2⟩ H
    replace S:=S.call S2;clear S2
    rw [eW] at H
    refine wpList_nil (And.intro (Or.inr (S.sel [2] G G)) ?_)
    refine aL H G G (fun _ S=>aP rfl) ?_;clear H a;intro a H
    refine aL H G G (fun _ S=>aQ G G) ?_;clear H a;intro a H
    refine aL H G G (fun _ S=>aQ G G) ?_;clear H a;intro a H
    refine aL H G G (fun _ S=>aQ G G) ?_;clear H a;intro a H
    refine aK rfl ?_
    refine aI H rfl S dY ?_;clear H a S;intro b3 _ a hb3 hbw3 S H
    refine wpList_nil (And.intro (Or.inr (S.sel [3] G G)) ?_)
    refine aK rfl ?_
    refine aC H S (i:=2) G G G G aY G G ?_
    clear H a S;intro _ a S H
    refine wpList_nil (And.intro (Or.inr (S.sel [3] G G)) ?_)
    refine aK rfl ?_
    refine aC H S (i:=0) G G G G aY G G ?_
    clear H a S;intro _ a S H
    refine wpList_nil (And.intro (Or.inr (S.sel [3] G G)) ?_)
    refine aL H G G (fun _ S=>bG rfl) ?_;clear H a;intro a H
    refine bF ?_
    refine k3 _ _ ?_
    clear k3 K3
    replace H:=H.keep [2,4] rfl
    refine seq_list fun K22 k22=>?_
    refine aA H G G Try.func25 G G (bQ _) ?_;clear H a
    rintro _ _ a ⟨SA,B0,B1,B2,B3,B4,QA,TA,rfl,S2⟩ H
    replace S:=S.call S2;clear S2
    refine ls 3 H<|sr 3 rfl<|sE ?_;clear H a;intro a H
    refine aI H rfl S gJ ?_;clear H a S;intro b5 _ a hb5 hbw5 S H
    refine aC H S (i:=0) G G G G bY G G ?_
    clear H a S;intro _ a S H
    refine ls 1 H<|sr 1 rfl<|sE ?_;clear H a;intro a H
    refine k22 _ _ ?_;clear k22 K22
    replace H:=H.keep [2,4,5] rfl
    refine seq_list fun K23 k23=>?_
    refine ls 1 H<|sd ((aD cJ bY rfl S (i:=0) G G))<|sE ?_;clear H a;intro a H
    refine aA H G G Try.func26 G G (cP 2 exSw SA 4 exWs QA 5 (exOA B0 B1 B2 B3 B4) exOc _ (ownM.inS S (i:=1) rfl) (ownM.inS S (i:=7) rfl) (fun k hk=>by
      rcases k with _|_|_|_|_|k
      · exact ownM.inS S (i:=2) rfl
      · exact ownM.inS S (i:=3) rfl
      · exact ownM.inS S (i:=4) rfl
      · exact ownM.inS S (i:=5) rfl
      · exact ownM.inS S (i:=6) rfl
      · exact absurd hk (by simp [exWs])
    ) exCir) ?_;clear H a
    rintro _ _ a ⟨A6,c6,rfl,S2⟩ H
    replace S:=S.call S2;clear S2
    rw [eI] at H
    refine ls 5 H<|sr 5 rfl<|sE ?_;clear H a;intro a H
    refine k23 _ _ ?_;clear k23 K23
    replace H:=H.keep [2,4,7,8] rfl
    refine sS H fun K24 k24=>sr 3 rfl<|sg 2 2 29 31 true G G (fun hg3=>sy hg3<|sr 1 rfl<|sy hg3<|sr 1 rfl<|sz 2 G G G)<|sa G G G<|sr 1 rfl<|sg 3 6 33 36 true G G (fun hg7=>sy hg7<|sd ((aD bJ aY rfl S (i:=10) G G))<|sy hg7<|sd (aO fV G G)<|sy hg7<|sd (bL G G)<|sz 3 G G G)<|sa G G G<|sr 1 rfl<|sg 3 11 38 41 true G G (fun hg12=>sy hg12<|sr 1 rfl<|sy hg12<|sL gP rfl<|sy hg12<|sr 1 rfl<|sz 3 G G G)<|sa G G G<|sr 1 rfl<|sE ?_;clear H a;intro a H
    refine k24 _ ?_;clear k24 K24
    refine wp_ret ?_
    refine ret1 (fn:=Try.f7) rfl H rfl ?_
    exact ⟨rfl,(S.sel [] G G)⟩
   ·skip
    refine aI H rfl S dY ?_;clear H a S;intro b3 _ a hb3 hbw3 S H
    refine wpList_nil (And.intro (Or.inr (S.sel [3] G G)) ?_)
    refine aK rfl ?_
    refine aA H G G Try.func23 G G (bW true 1000 20 2000 20000 exBr A4 2 60 0 500 0 _ (ownM.inS S (i:=1) rfl) (by decide)) ?_;clear H a
    rintro _ _ a ⟨tl,th,rfl,S2⟩ H
    replace S:=S.call S2;clear S2
    rw [eW] at H
    refine wpList_nil (And.intro (Or.inr (S.sel [3] G G)) ?_)
    refine aL H G G (fun _ S=>aP rfl) ?_;clear H a;intro a H
    refine aL H G G (fun _ S=>aQ G G) ?_;clear H a;intro a H
    refine aL H G G (fun _ S=>aQ G G) ?_;clear H a;intro a H
    refine aL H G G (fun _ S=>aQ G G) ?_;clear H a;intro a H
    refine aK rfl ?_
    refine aC H S (i:=2) G G G G aY G G ?_
    clear H a S;intro _ a S H
    refine wpList_nil (And.intro (Or.inr (S.sel [3] G G)) ?_)
    refine aK rfl ?_
    refine aC H S (i:=0) G G G G aY G G ?_
    clear H a S;intro _ a S H
    refine wpList_nil (And.intro (Or.inr (S.sel [3] G G)) ?_)
    refine aL H G G (fun _ S=>bG rfl) ?_;clear H a;intro a H
    refine bF ?_
    refine k3 _ _ ?_
    clear k3 K3
    replace H:=H.keep [2,4] rfl
    refine seq_list fun K25 k25=>?_
    refine aA H G G Try.func25 G G (bQ _) ?_;clear H a
    rintro _ _ a ⟨SA,B0,B1,B2,B3,B4,QA,TA,rfl,S2⟩ H
    replace S:=S.call S2;clear S2
    refine ls 3 H<|sr 3 rfl<|sE ?_;clear H a;intro a H
    refine aI H rfl S gJ ?_;clear H a S;intro b5 _ a hb5 hbw5 S H
    refine aC H S (i:=0) G G G G bY G G ?_
    clear H a S;intro _ a S H
    refine ls 1 H<|sr 1 rfl<|sE ?_;clear H a;intro a H
    refine k25 _ _ ?_;clear k25 K25
    replace H:=H.keep [2,4,5] rfl
    refine seq_list fun K26 k26=>?_
    refine ls 1 H<|sd ((aD cJ bY rfl S (i:=0) G G))<|sE ?_;clear H a;intro a H
    refine aA H G G Try.func26 G G (cP 2 exSw SA 4 exWs QA 5 (exOA B0 B1 B2 B3 B4) exOc _ (ownM.inS S (i:=1) rfl) (ownM.inS S (i:=7) rfl) (fun k hk=>by
      rcases k with _|_|_|_|_|k
      · exact ownM.inS S (i:=2) rfl
      · exact ownM.inS S (i:=3) rfl
      · exact ownM.inS S (i:=4) rfl
      · exact ownM.inS S (i:=5) rfl
      · exact ownM.inS S (i:=6) rfl
      · exact absurd hk (by simp [exWs])
    ) exCir) ?_;clear H a
    rintro _ _ a ⟨A6,c6,rfl,S2⟩ H
    replace S:=S.call S2;clear S2
    rw [eI] at H
    refine ls 5 H<|sr 5 rfl<|sE ?_;clear H a;intro a H
    refine k26 _ _ ?_;clear k26 K26
    replace H:=H.keep [2,4,7,8] rfl
    refine sS H fun K27 k27=>sr 3 rfl<|sg 2 2 29 31 true G G (fun hg3=>sy hg3<|sr 1 rfl<|sy hg3<|sr 1 rfl<|sz 2 G G G)<|sa G G G<|sr 1 rfl<|sg 3 6 33 36 true G G (fun hg7=>sy hg7<|sd ((aD bJ aY rfl S (i:=10) G G))<|sy hg7<|sd (aO fV G G)<|sy hg7<|sd (bL G G)<|sz 3 G G G)<|sa G G G<|sr 1 rfl<|sg 3 11 38 41 true G G (fun hg12=>sy hg12<|sr 1 rfl<|sy hg12<|sL gP rfl<|sy hg12<|sr 1 rfl<|sz 3 G G G)<|sa G G G<|sr 1 rfl<|sE ?_;clear H a;intro a H
    refine k27 _ ?_;clear k27 K27
    refine wp_ret ?_
    refine ret1 (fn:=Try.f7) rfl H rfl ?_
    exact ⟨rfl,(S.sel [] G G)⟩
  ·skip
   refine aI H rfl S dY ?_;clear H a S;intro b3 _ a hb3 hbw3 S H
   refine wpList_nil (And.intro (Or.inr (S.sel [2] G G)) ?_)
   refine aK rfl ?_
   refine aA H G G Try.func24 G G (eX _) ?_;clear H a
   rintro _ _ a ⟨A4,rfl,S2⟩ H
   replace S:=S.call S2;clear S2
   refine wpList_nil (And.intro (Or.inr (S.sel [3] G G)) ?_)
   refine aK rfl ?_
   refine aA H G G Try.func23 G G (bW true 1000 20 2000 20000 exBr A4 2 60 0 500 0 _ (ownM.inS S (i:=0) rfl) (by decide)) ?_;clear H a
   rintro _ _ a ⟨tl,th,rfl,S2⟩ H
   replace S:=S.call S2;clear S2
   rw [eW] at H
   refine wpList_nil (And.intro (Or.inr (S.sel [3] G G)) ?_)
   refine aL H G G (fun _ S=>aP rfl) ?_;clear H a;intro a H
   refine aL H G G (fun _ S=>aQ G G) ?_;clear H a;intro a H
   refine aL H G G (fun _ S=>aQ G G) ?_;clear H a;intro a H
   refine aL H G G (fun _ S=>aQ G G) ?_;clear H a;intro a H
   refine aK rfl ?_
   refine aC H S (i:=2) G G G G aY G G ?_
   clear H a S;intro _ a S H
   refine wpList_nil (And.intro (Or.inr (S.sel [3] G G)) ?_)
   refine aK rfl ?_
   refine aC H S (i:=1) G G G G aY G G ?_
   clear H a S;intro _ a S H
   refine wpList_nil (And.intro (Or.inr (S.sel [3] G G)) ?_)
   refine aL H G G (fun _ S=>bG rfl) ?_;clear H a;intro a H
   refine bF ?_
   refine k3 _ _ ?_
   clear k3 K3
   replace H:=H.keep [2,4] rfl
   refine seq_list fun K28 k28=>?_
   refine aA H G G Try.func25 G G (bQ _) ?_;clear H a
   rintro _ _ a ⟨SA,B0,B1,B2,B3,B4,QA,TA,rfl,S2⟩ H
   replace S:=S.call S2;clear S2
   refine ls 3 H<|sr 3 rfl<|sE ?_;clear H a;intro a H
   refine aI H rfl S gJ ?_;clear H a S;intro b5 _ a hb5 hbw5 S H
   refine aC H S (i:=0) G G G G bY G G ?_
   clear H a S;intro _ a S H
   refine ls 1 H<|sr 1 rfl<|sE ?_;clear H a;intro a H
   refine k28 _ _ ?_;clear k28 K28
   replace H:=H.keep [2,4,5] rfl
   refine seq_list fun K29 k29=>?_
   refine ls 1 H<|sd ((aD cJ bY rfl S (i:=0) G G))<|sE ?_;clear H a;intro a H
   refine aA H G G Try.func26 G G (cP 2 exSw SA 4 exWs QA 5 (exOA B0 B1 B2 B3 B4) exOc _ (ownM.inS S (i:=1) rfl) (ownM.inS S (i:=7) rfl) (fun k hk=>by
     rcases k with _|_|_|_|_|k
     · exact ownM.inS S (i:=2) rfl
     · exact ownM.inS S (i:=3) rfl
     · exact ownM.inS S (i:=4) rfl
     · exact ownM.inS S (i:=5) rfl
     · exact ownM.inS S (i:=6) rfl
     · exact absurd hk (by simp [exWs])
   ) exCir) ?_;clear H a
   rintro _ _ a ⟨A6,c6,rfl,S2⟩ H
   replace S:=S.call S2;clear S2
   rw [eI] at H
   refine ls 5 H<|sr 5 rfl<|sE ?_;clear H a;intro a H
   refine k29 _ _ ?_;clear k29 K29
   replace H:=H.keep [2,4,7,8] rfl
   refine sS H fun K30 k30=>sr 3 rfl<|sg 2 2 29 31 true G G (fun hg3=>sy hg3<|sr 1 rfl<|sy hg3<|sr 1 rfl<|sz 2 G G G)<|sa G G G<|sr 1 rfl<|sg 3 6 33 36 true G G (fun hg7=>sy hg7<|sd ((aD bJ aY rfl S (i:=10) G G))<|sy hg7<|sd (aO fV G G)<|sy hg7<|sd (bL G G)<|sz 3 G G G)<|sa G G G<|sr 1 rfl<|sg 3 11 38 41 true G G (fun hg12=>sy hg12<|sr 1 rfl<|sy hg12<|sL gP rfl<|sy hg12<|sr 1 rfl<|sz 3 G G G)<|sa G G G<|sr 1 rfl<|sE ?_;clear H a;intro a H
   refine k30 _ ?_;clear k30 K30
   refine wp_ret ?_
   refine ret1 (fn:=Try.f7) rfl H rfl ?_
   exact ⟨rfl,(S.sel [] G G)⟩
 ·skip
  refine aI H rfl S dY ?_;clear H a S;intro b3 _ a hb3 hbw3 S H
  refine wpList_nil (And.intro (Or.inr (S.sel [1] G G)) ?_)
  refine dB G G ?_ ?_
  ·skip
   refine aA H G G Try.func24 G G (eX _) ?_;clear H a
   rintro _ _ a ⟨A4,rfl,S2⟩ H
   replace S:=S.call S2;clear S2
   refine wpList_nil (And.intro (Or.inr (S.sel [2] G G)) ?_)
   refine dB G G ?_ ?_
   ·skip
    refine aA H G G Try.func23 G G (bW true 1000 20 2000 20000 exBr A4 2 60 0 500 0 _ (ownM.inS S (i:=0) rfl) (by decide)) ?_;clear H a
    rintro _ _ a ⟨tl,th,rfl,S2⟩ H
    replace S:=S.call S2;clear S2
    rw [eW] at H
    refine wpList_nil (And.intro (Or.inr (S.sel [2] G G)) ?_)
    refine aL H G G (fun _ S=>aP rfl) ?_;clear H a;intro a H
    refine aL H G G (fun _ S=>aQ G G) ?_;clear H a;intro a H
    refine aL H G G (fun _ S=>aQ G G) ?_;clear H a;intro a H
    refine aL H G G (fun _ S=>aQ G G) ?_;clear H a;intro a H
    refine aK rfl ?_
    refine aI H rfl S dY ?_;clear H a S;intro b2 _ a hb2 hbw2 S H
    refine wpList_nil (And.intro (Or.inr (S.sel [3] G G)) ?_)
    refine aK rfl ?_
    refine aC H S (i:=0) G G G G aY G G ?_
    clear H a S;intro _ a S H
    refine wpList_nil (And.intro (Or.inr (S.sel [3] G G)) ?_)
    refine aK rfl ?_
    refine aC H S (i:=2) G G G G aY G G ?_
    clear H a S;intro _ a S H
    refine wpList_nil (And.intro (Or.inr (S.sel [3] G G)) ?_)
    refine aL H G G (fun _ S=>bG rfl) ?_;clear H a;intro a H
    refine bF ?_
    refine k3 _ _ ?_
    clear k3 K3
    replace H:=H.keep [2,4] rfl
    refine seq_list fun K31 k31=>?_
    refine aA H G G Try.func25 G G (bQ _) ?_;clear H a
    rintro _ _ a ⟨SA,B0,B1,B2,B3,B4,QA,TA,rfl,S2⟩ H
    replace S:=S.call S2;clear S2
    refine ls 3 H<|sr 3 rfl<|sE ?_;clear H a;intro a H
    refine aI H rfl S gJ ?_;clear H a S;intro b5 _ a hb5 hbw5 S H
    refine aC H S (i:=0) G G G G bY G G ?_
    clear H a S;intro _ a S H
    refine ls 1 H<|sr 1 rfl<|sE ?_;clear H a;intro a H
    refine k31 _ _ ?_;clear k31 K31
    replace H:=H.keep [2,4,5] rfl
    refine seq_list fun K32 k32=>?_
    refine ls 1 H<|sd ((aD cJ bY rfl S (i:=0) G G))<|sE ?_;clear H a;intro a H
    refine aA H G G Try.func26 G G (cP 2 exSw SA 4 exWs QA 5 (exOA B0 B1 B2 B3 B4) exOc _ (ownM.inS S (i:=1) rfl) (ownM.inS S (i:=7) rfl) (fun k hk=>by
      rcases k with _|_|_|_|_|k
      · exact ownM.inS S (i:=2) rfl
      · exact ownM.inS S (i:=3) rfl
      · exact ownM.inS S (i:=4) rfl
      · exact ownM.inS S (i:=5) rfl
      · exact ownM.inS S (i:=6) rfl
      · exact absurd hk (by simp [exWs])
    ) exCir) ?_;clear H a
    rintro _ _ a ⟨A6,c6,rfl,S2⟩ H
    replace S:=S.call S2;clear S2
    rw [eI] at H
    refine ls 5 H<|sr 5 rfl<|sE ?_;clear H a;intro a H
    refine k32 _ _ ?_;clear k32 K32
    replace H:=H.keep [2,4,7,8] rfl
    refine sS H fun K33 k33=>sr 3 rfl<|sg 2 2 29 31 true G G (fun hg3=>sy hg3<|sr 1 rfl<|sy hg3<|sr 1 rfl<|sz 2 G G G)<|sa G G G<|sr 1 rfl<|sg 3 6 33 36 true G G (fun hg7=>sy hg7<|sd ((aD bJ aY rfl S (i:=8) G G))<|sy hg7<|sd (aO fV G G)<|sy hg7<|sd (bL G G)<|sz 3 G G G)<|sa G G G<|sr 1 rfl<|sg 3 11 38 41 true G G (fun hg12=>sy hg12<|sr 1 rfl<|sy hg12<|sL gP rfl<|sy hg12<|sr 1 rfl<|sz 3 G G G)<|sa G G G<|sr 1 rfl<|sE ?_;clear H a;intro a H
    refine k33 _ ?_;clear k33 K33
    refine wp_ret ?_
    refine ret1 (fn:=Try.f7) rfl H rfl ?_
    exact ⟨rfl,(S.sel [] G G)⟩
   ·skip
    refine aI H rfl S dY ?_;clear H a S;intro b2 _ a hb2 hbw2 S H
    refine wpList_nil (And.intro (Or.inr (S.sel [3] G G)) ?_)
    refine aK rfl ?_
    refine aA H G G Try.func23 G G (bW true 1000 20 2000 20000 exBr A4 2 60 0 500 0 _ (ownM.inS S (i:=1) rfl) (by decide)) ?_;clear H a
    rintro _ _ a ⟨tl,th,rfl,S2⟩ H
    replace S:=S.call S2;clear S2
    rw [eW] at H
    refine wpList_nil (And.intro (Or.inr (S.sel [3] G G)) ?_)
    refine aL H G G (fun _ S=>aP rfl) ?_;clear H a;intro a H
    refine aL H G G (fun _ S=>aQ G G) ?_;clear H a;intro a H
    refine aL H G G (fun _ S=>aQ G G) ?_;clear H a;intro a H
    refine aL H G G (fun _ S=>aQ G G) ?_;clear H a;intro a H
    refine aK rfl ?_
    refine aC H S (i:=0) G G G G aY G G ?_
    clear H a S;intro _ a S H
    refine wpList_nil (And.intro (Or.inr (S.sel [3] G G)) ?_)
    refine aK rfl ?_
    refine aC H S (i:=2) G G G G aY G G ?_
    clear H a S;intro _ a S H
    refine wpList_nil (And.intro (Or.inr (S.sel [3] G G)) ?_)
    refine aL H G G (fun _ S=>bG rfl) ?_;clear H a;intro a H
    refine bF ?_
    refine k3 _ _ ?_
    clear k3 K3
    replace H:=H.keep [2,4] rfl
    refine seq_list fun K34 k34=>?_
    refine aA H G G Try.func25 G G (bQ _) ?_;clear H a
    rintro _ _ a ⟨SA,B0,B1,B2,B3,B4,QA,TA,rfl,S2⟩ H
    replace S:=S.call S2;clear S2
    refine ls 3 H<|sr 3 rfl<|sE ?_;clear H a;intro a H
    refine aI H rfl S gJ ?_;clear H a S;intro b5 _ a hb5 hbw5 S H
    refine aC H S (i:=0) G G G G bY G G ?_
    clear H a S;intro _ a S H
    refine ls 1 H<|sr 1 rfl<|sE ?_;clear H a;intro a H
    refine k34 _ _ ?_;clear k34 K34
    replace H:=H.keep [2,4,5] rfl
    refine seq_list fun K35 k35=>?_
    refine ls 1 H<|sd ((aD cJ bY rfl S (i:=0) G G))<|sE ?_;clear H a;intro a H
    refine aA H G G Try.func26 G G (cP 2 exSw SA 4 exWs QA 5 (exOA B0 B1 B2 B3 B4) exOc _ (ownM.inS S (i:=1) rfl) (ownM.inS S (i:=7) rfl) (fun k hk=>by
      rcases k with _|_|_|_|_|k
      · exact ownM.inS S (i:=2) rfl
      · exact ownM.inS S (i:=3) rfl
      · exact ownM.inS S (i:=4) rfl
      · exact ownM.inS S (i:=5) rfl
      · exact ownM.inS S (i:=6) rfl
      · exact absurd hk (by simp [exWs])
    ) exCir) ?_;clear H a
    rintro _ _ a ⟨A6,c6,rfl,S2⟩ H
    replace S:=S.call S2;clear S2
    rw [eI] at H
    refine ls 5 H<|sr 5 rfl<|sE ?_;clear H a;intro a H
    refine k35 _ _ ?_;clear k35 K35
    replace H:=H.keep [2,4,7,8] rfl
    refine sS H fun K36 k36=>sr 3 rfl<|sg 2 2 29 31 true G G (fun hg3=>sy hg3<|sr 1 rfl<|sy hg3<|sr 1 rfl<|sz 2 G G G)<|sa G G G<|sr 1 rfl<|sg 3 6 33 36 true G G (fun hg7=>sy hg7<|sd ((aD bJ aY rfl S (i:=8) G G))<|sy hg7<|sd (aO fV G G)<|sy hg7<|sd (bL G G)<|sz 3 G G G)<|sa G G G<|sr 1 rfl<|sg 3 11 38 41 true G G (fun hg12=>sy hg12<|sr 1 rfl<|sy hg12<|sL gP rfl<|sy hg12<|sr 1 rfl<|sz 3 G G G)<|sa G G G<|sr 1 rfl<|sE ?_;clear H a;intro a H
    refine k36 _ ?_;clear k36 K36
    refine wp_ret ?_
    refine ret1 (fn:=Try.f7) rfl H rfl ?_
    exact ⟨rfl,(S.sel [] G G)⟩
  ·skip
   refine aI H rfl S dY ?_;clear H a S;intro b2 _ a hb2 hbw2 S H
   refine wpList_nil (And.intro (Or.inr (S.sel [2] G G)) ?_)
   refine aK rfl ?_
   refine aA H G G Try.func24 G G (eX _) ?_;clear H a
   rintro _ _ a ⟨A4,rfl,S2⟩ H
   replace S:=S.call S2;clear S2
   refine wpList_nil (And.intro (Or.inr (S.sel [3] G G)) ?_)
   refine aK rfl ?_
   refine aA H G G Try.func23 G G (bW true 1000 20 2000 20000 exBr A4 2 60 0 500 0 _ (ownM.inS S (i:=0) rfl) (by decide)) ?_;clear H a
   rintro _ _ a ⟨tl,th,rfl,S2⟩ H
   replace S:=S.call S2;clear S2
   rw [eW] at H
   refine wpList_nil (And.intro (Or.inr (S.sel [3] G G)) ?_)
   refine aL H G G (fun _ S=>aP rfl) ?_;clear H a;intro a H
   refine aL H G G (fun _ S=>aQ G G) ?_;clear H a;intro a H
   refine aL H G G (fun _ S=>aQ G G) ?_;clear H a;intro a H
   refine aL H G G (fun _ S=>aQ G G) ?_;clear H a;intro a H
   refine aK rfl ?_
   refine aC H S (i:=1) G G G G aY G G ?_
   clear H a S;intro _ a S H
   refine wpList_nil (And.intro (Or.inr (S.sel [3] G G)) ?_)
   refine aK rfl ?_
   refine aC H S (i:=2) G G G G aY G G ?_
   clear H a S;intro _ a S H
   refine wpList_nil (And.intro (Or.inr (S.sel [3] G G)) ?_)
   refine aL H G G (fun _ S=>bG rfl) ?_;clear H a;intro a H
   refine bF ?_
   refine k3 _ _ ?_
   clear k3 K3
   replace H:=H.keep [2,4] rfl
   refine seq_list fun K37 k37=>?_
   refine aA H G G Try.func25 G G (bQ _) ?_;clear H a
   rintro _ _ a ⟨SA,B0,B1,B2,B3,B4,QA,TA,rfl,S2⟩ H
   replace S:=S.call S2;clear S2
   refine ls 3 H<|sr 3 rfl<|sE ?_;clear H a;intro a H
   refine aI H rfl S gJ ?_;clear H a S;intro b5 _ a hb5 hbw5 S H
   refine aC H S (i:=0) G G G G bY G G ?_
   clear H a S;intro _ a S H
   refine ls 1 H<|sr 1 rfl<|sE ?_;clear H a;intro a H
   refine k37 _ _ ?_;clear k37 K37
   replace H:=H.keep [2,4,5] rfl
   refine seq_list fun K38 k38=>?_
   refine ls 1 H<|sd ((aD cJ bY rfl S (i:=0) G G))<|sE ?_;clear H a;intro a H
   refine aA H G G Try.func26 G G (cP 2 exSw SA 4 exWs QA 5 (exOA B0 B1 B2 B3 B4) exOc _ (ownM.inS S (i:=1) rfl) (ownM.inS S (i:=7) rfl) (fun k hk=>by
     rcases k with _|_|_|_|_|k
     · exact ownM.inS S (i:=2) rfl
     · exact ownM.inS S (i:=3) rfl
     · exact ownM.inS S (i:=4) rfl
     · exact ownM.inS S (i:=5) rfl
     · exact ownM.inS S (i:=6) rfl
     · exact absurd hk (by simp [exWs])
   ) exCir) ?_;clear H a
   rintro _ _ a ⟨A6,c6,rfl,S2⟩ H
   replace S:=S.call S2;clear S2
   rw [eI] at H
   refine ls 5 H<|sr 5 rfl<|sE ?_;clear H a;intro a H
   refine k38 _ _ ?_;clear k38 K38
   replace H:=H.keep [2,4,7,8] rfl
   refine sS H fun K39 k39=>sr 3 rfl<|sg 2 2 29 31 true G G (fun hg3=>sy hg3<|sr 1 rfl<|sy hg3<|sr 1 rfl<|sz 2 G G G)<|sa G G G<|sr 1 rfl<|sg 3 6 33 36 true G G (fun hg7=>sy hg7<|sd ((aD bJ aY rfl S (i:=9) G G))<|sy hg7<|sd (aO fV G G)<|sy hg7<|sd (bL G G)<|sz 3 G G G)<|sa G G G<|sr 1 rfl<|sg 3 11 38 41 true G G (fun hg12=>sy hg12<|sr 1 rfl<|sy hg12<|sL gP rfl<|sy hg12<|sr 1 rfl<|sz 3 G G G)<|sa G G G<|sr 1 rfl<|sE ?_;clear H a;intro a H
   refine k39 _ ?_;clear k39 K39
   refine wp_ret ?_
   refine ret1 (fn:=Try.f7) rfl H rfl ?_
   exact ⟨rfl,(S.sel [] G G)⟩
end
section
theorem rP (n:Nat) (hn:n≤1000000) (w:World):Calls Try.prog 116 #[.int .u64 (((1:Nat):Int)),.int .u64 ((n:Nat):Int)] w (Ret fun u w'=>u = .tuple #[.int .u64 0,.int .u64 (n:Int)]∧w'=w):=by
  refine Calls.mono (Try.bits_Mul 1 n (by omega) (by omega) w) fun e w' h=>?_
  obtain ⟨rfl,rfl⟩:=h
  refine ⟨?_,rfl⟩
  have h1:1*n/18446744073709551616=0:=by omega
  have h2:1*n%18446744073709551616=n:=by omega
  rw [h1,h2]
  rfl
theorem ownM.w8some' {w0 w:World} {F0:Nat→Prop} {R:List Mem} {e sz n c i:Nat} {A:Option Addr} {cell:Nat→Nat→Value} (S:St w0 F0 R w) (hi:R[i]?=some (ownM e sz A n c cell)) (hn:0<n):∃ b,A=some ⟨b,0,none⟩:=by
  rcases S.holds hi with ⟨_,h,_⟩|⟨b,cs,h,_⟩
  · omega
  · exact ⟨b,h⟩
theorem Bp {v:Value} {j:Nat} (h:j<1):[v].getD j undef=v:=by
  have:j=0:=by omega
  subst this;rfl
theorem Bq (b c lo:Nat) (h:¬ c=lo):cutA (some ⟨b,0,none⟩) c lo 1=some ⟨b,lo,none⟩:=by simp [cutA,h,eM]
theorem jS {P:Program} {f:Nat} {vs:Array Value} {w:World} {R R':Value→World→Prop} (h:Calls P f vs w (Ret R)) (k:∀ v w',R v w'→R' v w'):Calls P f vs w (Ret R'):=Calls.mono h fun e w' he=>by
  cases e with
  | returned v=>exact k v w' he
  | _=>exact he
theorem uU {v:Value} {j k:Nat} (hk:k<1) (h:j<1):([[v]].getD k []).getD j undef=v:=by
  have h1:j=0:=by omega
  have h2:k=0:=by omega
  subst h1;subst h2;rfl
theorem w8one {p:Nat→Prop} (h0:p 0):∀ j,j<1→p j:=by
  intro j hj
  have:j=0:=by omega
  subst this
  exact h0
theorem kW {sz:Nat} {vs:List Value} (h:∀ j,j<sz→(vs.getD j undef).oneCell'=true):∀ k j,k<1→j<sz→(([vs].getD k []).getD j undef).oneCell'=true:=by
  intro k j hk hj
  have e:k=0:=by omega
  subst e
  exact h j hj
theorem mB (A:Option Addr) (cp:Nat) (v:Int) (n:Nat) (w:World) (hl:InS w noF 1 A 1 (fun _ _ => .int .i64 v)) (h0:0<n) (hn:n≤1000000) :
    Calls Try.prog 103 [.slice A 1 cp,.int .i64 (n:Int)].toArray w (Ret (fun u w'=>∃ b,u = .slice (some ⟨b,0,none⟩) n n∧St w noF [ownM 3 1 (some ⟨b,0,none⟩) n n (fun _ _ => .int .i64 v)] w')):=by
 refine enter Try.func103 rfl Try.ntmps103 rfl (fun a H=>?_)
 have S:=St.start w
 refine sS H fun K1 k1=>sr 1 rfl<|sE ?_;clear H a;intro a H
 refine k1 _ ?_;clear k1 K1
 refine wp_seq_k fun K2 k2=>?_
 refine sS H fun K3 k3=>sr 2 rfl<|sE ?_;clear H a;intro a H
 refine k3 _ ?_;clear k3 K3
 refine condL H rfl (fun hc1=>?_) (fun hc1=>?_)
 ·skip
  exfalso;omega
 refine wp_skip ?_
 refine k2 _ _ ?_
 replace H:=H.keep [0,1] rfl
 refine sS H fun K4 k4=>sr 1 rfl<|sL aM rfl<|sd (dS Try.underlying3 Try.underlying64 rfl (by exact u64_in (by omega)))<|sr 1 rfl<|sd (dS Try.underlying3 Try.underlying64 rfl (by exact u64_in (by omega)))<|sc rfl Try.func116 G G (rP n hn _)<|sr 5 rfl<|sE ?_;clear H a;intro a H
 refine k4 _ ?_;clear k4 K4
 refine wp_seq_k fun K5 k5=>?_
 replace H:=H.keep [0,5,6] rfl
 refine sS H fun K6 k6=>sr 1 rfl<|sd (bO G G)<|sr 1 rfl<|sg 2 2 23 25 false G G (fun hg3=>sy hg3<|sr 1 rfl<|sy hg3<|sd (bO G G)<|sz 2 G G G)<|so G G G<|sE ?_;clear H a;intro a H
 refine k6 _ ?_;clear k6 K6
 refine cond_ H rfl (fun hc2=>?_) (fun hc2=>?_)
 ·skip
  try simp only [o1,o2,o3,o4,o5,o6,o7,o8,o9,oa] at hc2
  exfalso;omega
 try simp only [o1,o2,o3,o4,o5,o6,o7,o8,o9,oa] at hc2
 refine wp_skip ?_
 refine k5 _ _ ?_
 replace H:=H.keep [0,6] rfl
 refine seq_list fun K7 k7=>?_
 refine ls 2 H<|sr 1 rfl<|sd (dS Try.underlying64 Try.underlying3 rfl (by exact IntWalk.i64_in _ (by omega)))<|sE ?_;clear H a;intro a H
 refine gA (n:=_) H rfl S aM bC eZ mA rfl (by decide) G G (by omega) (by omega) ?_;clear H a S;intro A1 _ a hA1 S H
 obtain ⟨b,rfl⟩:=ownM.w8some' S (i:=0) rfl h0
 replace S:=S.recell (i:=0) rfl (cell':=fun i _=>if i<0 then .int .i64 v else .int .i64 0) (fun k j _ hj=>by rw [if_neg (by omega)];exact Bp hj)
 refine ls 1 H<|sr 1 rfl<|sE ?_;clear H a;intro a H
 refine k7 _ _ ?_;clear k7 K7
 refine seq_list fun K8 k8=>?_
 refine ls 2 H<|sr 2 rfl<|sE ?_;clear H a;intro a H
 refine oC H rfl S aM bC (i:=0) (lo:=0) G G G (fun h=>by cases h) rfl (hl.now S) (by omega) (fun _ _ _ _=>rfl) (by omega) ?_;clear H a S;intro _ a S H
 replace S:=S.recell (i:=0) rfl (cell':=fun i _=>if i<1 then .int .i64 v else .int .i64 0) (fun k j hk _=>by (try dsimp only);rw [Nat.min_eq_left (by omega)];(repeat' split) <;> first|rfl|(exfalso;omega))
 rw [Nat.min_eq_left (by omega)] at H
 refine ls 1 H<|sr 1 rfl<|sE ?_;clear H a;intro a H
 refine k8 _ _ ?_;clear k8 K8
 refine wp_seq_k fun K9 k9=>?_
 refine wp_block ?_
 refine loop_st (X:=Nat) (R0:=_) [7] H rfl (fun k=>[(8,.int .i64 (k:Int))]) (fun k=>[ownM 3 1 (some ⟨b,0,none⟩) n n (fun i _=>if i<k then .int .i64 v else .int .i64 0)]) (fun g k=>0<k∧k≤n∧g+k=n) (n-1) 1 ?_ (S.sel [0] G G) (H.keep [8,7] rfl) ?_
 · exact ⟨by omega,by omega,by omega⟩
 clear H S a
 intro g1 x1 a w1 hp S H K10 k10
 obtain ⟨k,rfl⟩:∃ y,y=x1:=⟨_,rfl⟩
 refine wp_seq_k fun K11 k11=>?_
 refine sS H fun K12 k12=>sr 2 rfl<|sL aM rfl<|sr 1 rfl<|sE ?_;clear H a;intro a H
 refine k12 _ ?_;clear k12 K12
 refine condL H rfl (fun hc3=>?_) (fun hc3=>?_)
 ·skip
  refine wp_skip ?_
  refine k11 _ _ ?_
  refine wp_block ?_
  replace H:=H.keep [7,8] rfl
  replace S:=S.drew
  refine one_wq [(0,true),(1,true),(2,true),(3,true),(4,true),(5,true),(6,true),(7,false),(8,true),(9,true)] (by kernel_rfl) (by kernel_rfl) (S.sel [] G G) ?_
  refine qF H<|qr 3 rfl<|qd rfl (fun _ S=>iK aM bC rfl (lo:=k) (hi:=n) (.inr ⟨_,rfl,_,rfl⟩) (.inl ⟨rfl,rfl⟩) (by omega) (by omega))<|qr 2 rfl<|qd rfl (fun _ S=>iK aM bC rfl (lo:=0) (hi:=k) (.inl ⟨rfl,rfl⟩) (.inr ⟨_,rfl,_,rfl⟩) (by omega) (by omega))<|qK ?_;clear H a;intro a H
  refine aT rfl ?_
  refine oC H rfl S aM bC (i:=0) (lo:=k) G G (Bq _ _ _ (by omega)) (fun h=>by cases h) rfl (((ownM.inS S (i:=0) rfl).cut (lo:=0) (hi:=k) (by omega) (by omega) (by omega))) (by omega) (fun k' j _ _=>by (try dsimp only);split <;> rfl) (by omega) ?_;clear H a S;intro _ a S H
  replace S:=S.recell (i:=0) rfl (cell':=fun i _=>if i<k+min k (n-k) then .int .i64 v else .int .i64 0) (fun k' j hk _=>by (try dsimp only);(repeat' split) <;> first|rfl|(exfalso;omega))
  refine wpList_nil (And.intro (S.sel [] G G) ?_)
  refine qF H<|qd rfl (fun _ S=>aH G G (by unfold i64ok;omega))<|qr 1 rfl<|qK ?_;clear H a;intro a H
  refine bM ?_
  exact k10 (g1-min k (n-k)) (k+min k (n-k)) a _ (by omega) (⟨by omega,by omega,by omega⟩) (S.sel [0] G G) (H.keep [8,7] rfl)
 refine wp_exit ?_
 refine k9 _ _ ?_
 replace H:=H.keep [7] rfl
 refine sS H fun K14 k14=>sr 2 rfl<|sE ?_;clear H a;intro a H
 refine k14 _ ?_;clear k14 K14
 refine wp_ret ?_
 refine ret1 (fn:=Try.f103) rfl H rfl ?_
 replace S:=S.recell (i:=0) rfl (cell':=fun _ _ => .int .i64 v) (fun k' j hk _=>by rw [if_pos (by omega)])
 exact ⟨_,rfl,(S.sel [0] G G)⟩
end
section
structure Psg where
  a:Int
  b:Int
  kind:Int
  ticks:Int
  wide:Int
  mach:Int
  still:Int
def Psg.zero:Psg:=⟨0,0,0,0,0,0,0⟩
def Psg.cell (p:Psg):Nat→Value
  | 0 => .int .i64 p.a
  | 1 => .int .i64 p.b
  | 2 => .int .i64 p.kind
  | 3 => .int .i64 p.ticks
  | 4 => .int .i64 p.wide
  | 5 => .int .i64 p.mach
  | _ => .int .i64 p.still
def pcell (l:List Psg) (k j:Nat):Value:=(l.getD k Psg.zero).cell j
structure Mv where
  pas:Int
  fr:Int
  at_:Int
  many:Int
def Mv.zero:Mv:=⟨0,0,0,0⟩
def Mv.none:Mv:=⟨-1,0,0,0⟩
def Mv.cells (m:Mv):List Value:=[.int .i64 m.pas,.int .i64 m.fr,.int .i64 m.at_,.int .i64 m.many]
def Mv.cell (m:Mv):Nat→Value
  | 0 => .int .i64 m.pas
  | 1 => .int .i64 m.fr
  | 2 => .int .i64 m.at_
  | _ => .int .i64 m.many
structure Ent where
  to:Nat
  room:Int
  back:Nat
  mv:Mv
def Ent.zero:Ent:=⟨0,0,0,Mv.zero⟩
def Ent.cell (x:Ent):Nat→Value
  | 0 => .int .i64 (x.to:Int)
  | 1 => .int .i64 x.room
  | 2 => .int .i64 (x.back:Int)
  | 3 => .int .i64 x.mv.pas
  | 4 => .int .i64 x.mv.fr
  | 5 => .int .i64 x.mv.at_
  | _ => .int .i64 x.mv.many
abbrev Tab:=Nat→List Ent
def tcell (T:Tab) (i k j:Nat):Value:=((T i).getD k Ent.zero).cell j
def hdc (A:Nat→Option Addr) (n c:Nat→Nat) (i _j:Nat):Value := .slice (A i) (n i) (c i)
def tlen (T:Tab) (i:Nat):Nat:=(T i).length
def joinT (T:Tab) (f t:Nat) (room:Int) (mv:Mv):Tab:=
  upd (upd T f (T f++[⟨t,room,(T t).length,mv⟩])) t (T t++[⟨f,0,(T f).length,Mv.none⟩])
def Tab.net (T:Tab) (k:Nat):Net:=⟨k,tlen T,fun i j=>((T i).getD j Ent.zero).to,fun i j=>((T i).getD j Ent.zero).back⟩
def Tab.room (T:Tab):RM:=fun i j=>((T i).getD j Ent.zero).room
def Tab.mv (T:Tab):Nat→Nat→Mv:=fun i j=>((T i).getD j Ent.zero).mv
def edgeC (N:Net) (r:RM) (mv:Nat→Nat→Mv) (i k:Nat):Nat→Value
  | 0 => .int .i64 (N.to i k:Int)
  | 1 => .int .i64 (r i k)
  | 2 => .int .i64 (N.back i k:Int)
  | 3 => .int .i64 (mv i k).pas
  | 4 => .int .i64 (mv i k).fr
  | 5 => .int .i64 (mv i k).at_
  | _ => .int .i64 (mv i k).many
theorem tW (T:Tab) (k:Nat):tcell T=edgeC (T.net k) T.room T.mv:=by
  funext i q j
  unfold tcell edgeC Ent.cell Tab.net Tab.room Tab.mv
  match j with
  | 0=>rfl
  | 1=>rfl
  | 2=>rfl
  | 3=>rfl
  | 4=>rfl
  | 5=>rfl
  | _+6=>rfl
theorem wF {N:Net} {r:RM} {mv:Nat→Nat→Mv} {p q:Nat} {v:Int}:upd (edgeC N r mv) p (cput (edgeC N r mv p) q 1 (.int .i64 v))=edgeC N (put2 r p q v) mv:=by
  funext i k j
  unfold upd cput
  by_cases h:i=p
  · subst h
    rw [if_pos rfl]
    by_cases h2:k=q∧j=1
    · obtain ⟨rfl,rfl⟩:=h2
      rw [if_pos ⟨rfl,rfl⟩]
      simp only [edgeC,jJ]
    · skip
      rw [if_neg h2]
      match j with
      | 0=>rfl
      | 1=>simp only [edgeC];rw [fX (fun h=>h2 ⟨h.2,rfl⟩)]
      | 2=>rfl
      | 3=>rfl
      | 4=>rfl
      | 5=>rfl
      | _+6=>rfl
  · rw [if_neg h]
    match j with
    | 0=>rfl
    | 1=>simp only [edgeC];rw [fX (fun h2=>h h2.1)]
    | 2=>rfl
    | 3=>rfl
    | 4=>rfl
    | 5=>rfl
    | _+6=>rfl
def lcl (L:Nat→Int) (i _j:Nat):Value := .int .i64 (L i)
def ncl (n:Nat→Nat) (i _j:Nat):Value := .int .i64 (n i:Int)
theorem Br {n:Nat→Nat} {p v:Nat} {x:Int} (h:x=(v:Int)):cput (ncl n) p 0 (.int .i64 x)=fun i j=>if j=0 then ncl (upd n p v) i j else ncl n i j:=by
  subst h
  funext i j
  unfold cput ncl upd
  by_cases h1:i=p <;> by_cases h2:j=0 <;> simp [h1,h2]
def hasI (l:List Int) (x:Int):Bool:=l.any fun y=>decide (x=y)
structure Hd where
  pas:Int
  fr:Int
  to:Int
  ticks:Int
  wide:Int
def Hd.zero:Hd:=⟨0,0,0,0,0⟩
def Hd.cells (h:Hd):List Value:=[.int .i64 h.pas,.int .i64 h.fr,.int .i64 h.to,.int .i64 h.ticks,.int .i64 h.wide]
def bitI (out m:Int):Int:=out/2^m.toNat%2
def eY (out:Int) (p:Psg):Int:=if p.kind=3∧¬ bitI out p.mach=0 then p.still else p.ticks
def iO (out:Int) (p:Psg):Bool:=!(decide (p.kind=3)&&decide (bitI out p.mach=0))
theorem zD {out:Int} {p:Psg} (h:p.kind=3∧out/2^p.mach.toNat%2=0):false=iO out p:=by unfold iO bitI;rw [decide_eq_true h.1,decide_eq_true h.2];rfl
theorem rQ {out:Int} {p:Psg} (h:¬ p.kind=3∨¬ out/2^p.mach.toNat%2=0):true=iO out p:=by
  unfold iO bitI
  rcases h with h|h
  · rw [decide_eq_false h];rfl
  · rw [decide_eq_false h,Bool.and_false];rfl
def hdsA (out:Int) (xs:List Int) (k:Nat) (p:Psg):List Hd:=if hasI xs p.a=true then [] else [⟨k,p.a,p.b,eY out p,p.wide⟩]
def hdsB (out:Int) (xs:List Int) (k:Nat) (p:Psg):List Hd:=if (iO out p&&!hasI xs p.b)=true then [⟨k,p.b,p.a,eY out p,p.wide⟩] else []
def hdsOf (out:Int) (xs:List Int) (k:Nat) (p:Psg):List Hd:=if p.kind=4 then [] else hdsA out xs k p++hdsB out xs k p
def hdsTo (out:Int) (xs:List Int) (ps:List Psg):Nat→List Hd
  | 0=>[]
  | k+1=>hdsTo out xs ps k++hdsOf out xs k (ps.getD k Psg.zero)
def hds (out:Int) (xs:List Int) (ps:List Psg):List Hd:=hdsTo out xs ps ps.length
section
variable {out:Int} {xs:List Int} {ps:List Psg} {k:Nat}
theorem Bs:∀ {n k:Nat},k≤n→∃ t,hdsTo out xs ps n=hdsTo out xs ps k++t:=by
  intro n
  induction n with
  | zero => intro k hk;have:k=0:=by omega
            subst this;exact ⟨[],by simp⟩
  | succ n ih=>
    intro k hk
    by_cases e:k=n+1
    · subst e;exact ⟨[],by simp⟩
    · obtain ⟨t,ht⟩:=ih (k:=k) (by omega)
      exact ⟨t++hdsOf out xs n (ps.getD n Psg.zero),by rw [hdsTo,ht,List.append_assoc]⟩
theorem zE (hk:k<ps.length) {j:Nat} {h:Hd} (hj:(hdsOf out xs k (ps.getD k Psg.zero))[j]?=some h):(hds out xs ps).getD ((hdsTo out xs ps k).length+j) Hd.zero=h∧(hdsTo out xs ps k).length+j<(hds out xs ps).length:=by
  obtain ⟨t,ht⟩:=Bs (out:=out) (xs:=xs) (ps:=ps) (n:=ps.length) (k:=k+1) (by omega)
  have hjl:=(List.getElem?_eq_some_iff.1 hj).1
  unfold hds
  rw [ht,hdsTo]
  refine ⟨?_,by simp only [List.length_append];omega⟩
  rw [List.getD_eq_getElem?_getD,List.append_assoc,List.getElem?_append_right (by omega),List.getElem?_append_left (by omega),show (hdsTo out xs ps k).length+j-(hdsTo out xs ps k).length=j by omega,hj]
  rfl
theorem wG (hk:k<ps.length) (h4:¬ (ps.getD k Psg.zero).kind=4) (ha:hasI xs (ps.getD k Psg.zero).a=false) :
    (hds out xs ps).getD (hdsTo out xs ps k).length Hd.zero=⟨k,(ps.getD k Psg.zero).a,(ps.getD k Psg.zero).b,eY out (ps.getD k Psg.zero),(ps.getD k Psg.zero).wide⟩∧(hdsTo out xs ps k).length<(hds out xs ps).length:=
  zE (out:=out) (xs:=xs) hk (j:=0) (by unfold hdsOf hdsA;rw [if_neg h4,if_neg (by rw [ha];simp)];rfl)
def qA (xs:List Int) (p:Psg):Nat:=if hasI xs p.a=true then 0 else 1
def qB (out:Int) (xs:List Int) (p:Psg):Nat:=if (iO out p&&!hasI xs p.b)=true then 1 else 0
theorem tX (hk:k<ps.length) (h4:¬ (ps.getD k Psg.zero).kind=4) (hb:(iO out (ps.getD k Psg.zero)&&!hasI xs (ps.getD k Psg.zero).b)=true) :
    (hds out xs ps).getD ((hdsTo out xs ps k).length+qA xs (ps.getD k Psg.zero)) Hd.zero=⟨k,(ps.getD k Psg.zero).b,(ps.getD k Psg.zero).a,eY out (ps.getD k Psg.zero),(ps.getD k Psg.zero).wide⟩∧(hdsTo out xs ps k).length+qA xs (ps.getD k Psg.zero)<(hds out xs ps).length:=
  zE (out:=out) (xs:=xs) hk (j:=qA xs (ps.getD k Psg.zero)) (by
    unfold hdsOf hdsA hdsB qA
    rw [if_neg h4,if_pos hb]
    by_cases h:hasI xs (ps.getD k Psg.zero).a=true
    · rw [if_pos h,if_pos h];rfl
    · rw [if_neg h,if_neg h];rfl)
theorem fZ (h4:¬ (ps.getD k Psg.zero).kind=4):(hdsTo out xs ps (k+1)).length=(hdsTo out xs ps k).length+qA xs (ps.getD k Psg.zero)+qB out xs (ps.getD k Psg.zero):=by
  rw [hdsTo,List.length_append]
  unfold hdsOf hdsA hdsB qA qB
  rw [if_neg h4,List.length_append]
  split <;> split <;> simp
theorem jD (h4:(ps.getD k Psg.zero).kind=4):(hdsTo out xs ps (k+1)).length=(hdsTo out xs ps k).length:=by
  rw [hdsTo,List.length_append]
  unfold hdsOf
  rw [if_pos h4]
  rfl
theorem Dk:∀ k,(hdsTo out xs ps k).length≤2*k:=by
  intro k
  induction k with
  | zero=>simp [hdsTo]
  | succ k ih=>
    by_cases h4:(ps.getD k Psg.zero).kind=4
    · rw [jD h4];omega
    · rw [fZ h4]
      have h1:qA xs (ps.getD k Psg.zero)≤1:=by unfold qA;split <;> omega
      have h2:qB out xs (ps.getD k Psg.zero)≤1:=by unfold qB;split <;> omega
      omega
theorem bk3 (b h:Bool):b=false∨(b=true∧h=true)∨(b=true∧h=false):=by cases b <;> cases h <;> simp
end
structure Jn where
  f:Nat
  t:Nat
  room:Int
  mv:Mv
def joins (J:List Jn):Tab:=J.foldl (fun T j=>joinT T j.f j.t j.room j.mv) (fun _=>[])
theorem fF (J:List Jn) (j:Jn):joins (J++[j])=joinT (joins J) j.f j.t j.room j.mv:=by unfold joins;rw [List.foldl_append];rfl
theorem wH (J:List Jn) (hne:∀ j ∈ J,j.f≠j.t) (i:Nat):(joins J i).length≤J.length:=by
  have key:∀ (n:Nat) (J:List Jn),J.length=n→(∀ j ∈ J,j.f≠j.t)→(joins J i).length≤n:=by
    intro n
    induction n with
    | zero => intro J h _;have:J=[]:=List.eq_nil_of_length_eq_zero h
              subst this;exact Nat.le_refl 0
    | succ n ih=>
      intro J h hn
      obtain ⟨J',j,rfl⟩:∃ J' j,J=J'++[j]:=⟨J.dropLast,J.getLast (by intro e;subst e;simp at h),(List.dropLast_concat_getLast _).symm⟩
      have h1:=ih J' (by simpa using h) (fun x hx=>hn x (List.mem_append_left _ hx))
      have h2:=hn j (List.mem_append_right _ (by simp))
      rw [fF]
      unfold joinT upd
      split
      · rename_i e
        subst e
        simp;omega
      · split
        · rename_i e;subst e;simp;omega
        · omega
  exact key _ J rfl hne
def nd (P t p:Nat):Nat:=P*t+p
theorem kX {P T t p:Nat} (ht:t≤T) (hp:p<P):nd P t p<P*(T+1):=by
  have:P*(t+1)≤P*(T+1):=Nat.mul_le_mul_left _ (by omega)
  rw [Nat.mul_add] at this
  unfold nd
  omega
theorem Co {P t t' p p':Nat} (ht:t<t') (hp:p<P):nd P t p≠nd P t' p':=by
  have:P*(t+1)≤P*t':=Nat.mul_le_mul_left _ (by omega)
  rw [Nat.mul_add] at this
  unfold nd
  omega
def pX:Int:=1099511627776
def jBeg (P T:Nat) (pe:List Int) (p:Nat):Jn:=⟨P*(T+1),nd P 0 p,pe.getD p 0,Mv.none⟩
def jWait (P p t:Nat):Jn:=⟨nd P t p,nd P (t+1) p,pX,Mv.none⟩
def jExit (P T p t:Nat):Jn:=⟨nd P t p,P*(T+1)+1,pX,Mv.none⟩
def bX (P p n:Nat):List Jn:=(List.range n).map (jWait P p)
def dE (P T p n:Nat):List Jn:=(List.range n).map (jExit P T p)
def gL (P T:Nat) (pe xs:List Int) (p:Nat):List Jn:=jBeg P T pe p::(bX P p T++(if hasI xs p=true then dE P T p (T+1) else []))
def aU (P T:Nat) (pe xs:List Int):Nat→List Jn
  | 0=>[]
  | p+1=>aU P T pe xs p++gL P T pe xs p
def jHead (P:Nat) (h:Hd) (t:Nat):Jn:=⟨nd P t h.fr.toNat,nd P (t+h.ticks.toNat) h.to.toNat,h.wide,⟨h.pas,h.fr,t,0⟩⟩
def eL (P:Nat) (h:Hd) (n:Nat):List Jn:=(List.range n).map (jHead P h)
def cO (P T:Nat) (hs:List Hd):Nat→List Jn
  | 0=>[]
  | i+1=>cO P T hs i++eL P (hs.getD i Hd.zero) (T+1-(hs.getD i Hd.zero).ticks.toNat)
def jAll (P T:Nat) (pe xs:List Int) (hs:List Hd):List Jn:=aU P T pe xs P++cO P T hs hs.length
theorem kD {f:Nat→Jn} (n:Nat):(List.range (n+1)).map f=(List.range n).map f++[f n]:=by rw [List.range_succ,List.map_append];rfl
section
variable {P T:Nat} {pe xs:List Int} {hs:List Hd}
def JOk (P T:Nat) (j:Jn):Prop:=j.f≠j.t∧j.f<P*(T+1)+2∧j.t<P*(T+1)+2
theorem kY {p:Nat} (hp:p<P):JOk P T (jBeg P T pe p):=by
  have:=kX (P:=P) (T:=T) (Nat.zero_le T) hp
  exact ⟨by show P*(T+1)≠nd P 0 p;omega,by show P*(T+1)<_;omega,by show nd P 0 p<_;omega⟩
theorem jE {p t:Nat} (hp:p<P) (ht:t<T):JOk P T (jWait P p t):=by
  have h1:=kX (P:=P) (T:=T) (show t≤T by omega) hp
  have h2:=kX (P:=P) (T:=T) (show t+1≤T by omega) hp
  exact ⟨Co (by omega) hp,by show nd P t p<_;omega,by show nd P (t+1) p<_;omega⟩
theorem jF {p t:Nat} (hp:p<P) (ht:t≤T):JOk P T (jExit P T p t):=by
  have h1:=kX (P:=P) (T:=T) ht hp
  exact ⟨by show nd P t p≠P*(T+1)+1;omega,by show nd P t p<_;omega,by show P*(T+1)+1<_;omega⟩
theorem jG {h:Hd} {t:Nat} (h1:h.fr.toNat<P) (h2:h.to.toNat<P) (hd:1≤h.ticks.toNat) (ht:t+h.ticks.toNat≤T):JOk P T (jHead P h t):=by
  have h3:=kX (P:=P) (T:=T) (show t≤T by omega) h1
  have h4:=kX (P:=P) (T:=T) ht h2
  exact ⟨Co (by omega) h1,by show nd P t h.fr.toNat<_;omega,by show nd P (t+h.ticks.toNat) h.to.toNat<_;omega⟩
theorem wI {p:Nat} (hp:p<P):∀ j ∈ gL P T pe xs p,JOk P T j:=by
  intro j hj
  unfold gL bX dE at hj
  rcases List.mem_cons.1 hj with rfl|hj
  · exact kY hp
  · rcases List.mem_append.1 hj with hj|hj
    · obtain ⟨t,ht,rfl⟩:=List.mem_map.1 hj
      exact jE hp (List.mem_range.1 ht)
    · split at hj
      · obtain ⟨t,ht,rfl⟩:=List.mem_map.1 hj
        exact jF hp (by have:=List.mem_range.1 ht;omega)
      · cases hj
theorem kE:∀ {n:Nat},n≤P→∀ j ∈ aU P T pe xs n,JOk P T j:=by
  intro n
  induction n with
  | zero=>intro _ j hj;cases hj
  | succ n ih=>
    intro hn j hj
    rcases List.mem_append.1 hj with hj|hj
    · exact ih (by omega) j hj
    · exact wI (by omega) j hj
theorem lY:∀ n,(aU P T pe xs n).length≤n*(2*T+2):=by
  intro n
  induction n with
  | zero=>simp [aU]
  | succ n ih=>
    have:(gL P T pe xs n).length≤2*T+2:=by
      unfold gL bX dE
      split <;> simp <;> omega
    rw [aU,List.length_append,Nat.add_mul]
    omega
def HdOk (P:Nat) (h:Hd):Prop:=(0≤h.fr∧h.fr<P)∧(0≤h.to∧h.to<P)∧(1≤h.ticks∧h.ticks≤20)
theorem oL (hh:∀ i,i<hs.length→HdOk P (hs.getD i Hd.zero)):∀ {n:Nat},n≤hs.length→∀ j ∈ cO P T hs n,JOk P T j:=by
  intro n
  induction n with
  | zero=>intro _ j hj;cases hj
  | succ n ih=>
    intro hn j hj
    rcases List.mem_append.1 hj with hj|hj
    · exact ih (by omega) j hj
    · obtain ⟨t,ht,rfl⟩:=List.mem_map.1 hj
      have h1:=hh n (by omega)
      unfold HdOk at h1
      have:=List.mem_range.1 ht
      exact jG (by omega) (by omega) (by omega) (by omega)
theorem tY:∀ n,(cO P T hs n).length≤n*(T+1):=by
  intro n
  induction n with
  | zero=>simp [cO]
  | succ n ih=>
    rw [cO,List.length_append,Nat.add_mul]
    have:(eL P (hs.getD n Hd.zero) (T+1-(hs.getD n Hd.zero).ticks.toNat)).length≤T+1:=by unfold eL;simp
    omega
end
def allN (p:Nat→Bool):Nat→Bool
  | 0=>true
  | n+1=>allN p n&&p n
theorem iF {p:Nat→Bool}:∀ {n:Nat},allN p n=true↔∀ k,k<n→p k=true:=by
  intro n
  induction n with
  | zero=>exact ⟨fun _ k hk=>absurd hk (Nat.not_lt_zero k),fun _=>rfl⟩
  | succ n ih=>
    simp only [allN,Bool.and_eq_true,ih]
    constructor
    · rintro ⟨h1,h2⟩ k hk
      by_cases e:k=n
      · subst e;exact h2
      · exact h1 k (by omega)
    · intro h
      exact ⟨fun k hk=>h k (by omega),h n (by omega)⟩
theorem cM {p:Nat→Bool} {n:Nat} (h:allN p n=true) (hp:p n=true):allN p (n+1)=true:=by simp only [allN,h,hp];rfl
theorem iP {p:Nat→Bool} {n k:Nat} (hk:k<n) (h:p k=false):allN p n=false:=by
  cases ha:allN p n with
  | false=>rfl
  | true=>rw [iF.1 ha k hk] at h;cases h
def psgOk (P:Int) (p:Psg):Bool:=decide (0≤p.a∧p.a<P∧0≤p.b∧p.b<P∧p.a≠p.b∧1≤p.ticks∧p.ticks≤20∧1≤p.wide∧p.wide≤50 ∧
  ((p.kind=1∨p.kind=2∨p.kind=5)∧p.mach = -1∧p.still=0∨p.kind=3∧(0≤p.mach∧p.mach≤11)∧(1≤p.still∧p.still≤20)∨p.kind=4∧(0≤p.mach∧p.mach≤11)∧p.still=0))
def bA (ps:List Psg) (k:Nat):Int:=(ps.getD k Psg.zero).mach
def cntM (ps:List Psg) (m:Int) (k:Nat):Int:=sm (fun j=>if bA ps j=m then 1 else 0) k
theorem uV {ps:List Psg} {m:Int} {k:Nat}:0≤cntM ps m k:=hX fun i _=>by split <;> omega
theorem Bt {ps:List Psg} {m:Int}:∀ k,cntM ps m k≤k:=by
  intro k
  induction k with
  | zero=>exact Int.le_refl 0
  | succ k ih=>unfold cntM at ih ⊢;rw [sm];split <;> omega
theorem wJ {ps:List Psg} {m:Int} {k:Nat}:cntM ps m k=0↔∀ j,j<k→bA ps j≠m:=by
  constructor
  · intro h j hj e
    have:=jY (f:=fun j=>if bA ps j=m then 1 else 0) (fun i _=>by split <;> omega) h j hj
    simp [e] at this
  · intro h
    exact mC fun i hi=>if_neg (h i hi)
def pasOk (P:Int) (ps:List Psg) (k:Nat):Bool:=psgOk P (ps.getD k Psg.zero)&&decide (bA ps k<0∨cntM ps (bA ps k) k=0)
def exOk (P:Int) (xs:List Int) (k:Nat):Bool:=decide (0≤xs.getD k 0∧xs.getD k 0<P∧(k=0∨xs.getD (k-1) 0<xs.getD k 0))
def stOk (P:Int) (ps:List Psg) (xs:List Int):Bool:=(decide (1≤P∧P≤10∧ps.length≤24)&&allN (pasOk P ps) ps.length)&&allN (exOk P xs) xs.length
def stE (P:Int) (ps:List Psg) (xs:List Int):Int:=if stOk P ps xs=true then 0 else 80
theorem uW {P:Int} {ps:List Psg} {xs:List Int} (h:¬ (1≤P∧P≤10∧ps.length≤24)):stE P ps xs=80:=by
  unfold stE stOk;rw [decide_eq_false h];rfl
theorem iQ {P:Int} {ps:List Psg} {xs:List Int} {k:Nat} (hk:k<ps.length) (h:pasOk P ps k=false):stE P ps xs=80:=by
  unfold stE stOk;rw [iP hk h,Bool.and_false];rfl
theorem Cp {P:Int} {ps:List Psg} {xs:List Int} {k:Nat} (hk:k<xs.length) (h:exOk P xs k=false):stE P ps xs=80:=by
  unfold stE stOk;rw [iP hk h,Bool.and_false];rfl
theorem Cq {P:Int} {ps:List Psg} {xs:List Int} (h1:1≤P∧P≤10∧ps.length≤24) (h2:allN (pasOk P ps) ps.length=true) (h3:allN (exOk P xs) xs.length=true):stE P ps xs=0:=by
  unfold stE stOk;rw [decide_eq_true h1,h2,h3];rfl
theorem Bu {P:Int} {ps:List Psg} {xs:List Int}:stE P ps xs=0↔stOk P ps xs=true:=by
  unfold stE;split <;> simp [*]
def CntMap (ps:List Psg) (k:Nat) (l:List (Int×Value)):Prop:=∀ m:Int,(getL l m).getD (.int .i64 0) = .int .i64 (cntM ps m k)
theorem CntMap.nil (ps:List Psg):CntMap ps 0 []:=fun m=>rfl
theorem CntMap.step {ps:List Psg} {k:Nat} {l:List (Int×Value)} (h:CntMap ps k l):CntMap ps (k+1) (setL l (bA ps k) (.int .i64 (cntM ps (bA ps k) k+1))):=by
  intro m
  rw [xO]
  unfold cntM
  rw [sm]
  by_cases e:m=bA ps k
  · subst e;rw [if_pos rfl,if_pos rfl];rfl
  · rw [if_neg e,if_neg (fun h=>e h.symm),Int.add_zero];exact h m
structure StV (P:Int) (ps:List Psg) (xs:List Int):Prop where
  size:1≤P∧P≤10∧ps.length≤24
  pas:∀ k,k<ps.length→psgOk P (ps.getD k Psg.zero)=true
  mach:∀ k,k<ps.length→0≤bA ps k→∀ j,j<k→bA ps j≠bA ps k
  ex:∀ k,k<xs.length→0≤xs.getD k 0∧xs.getD k 0<P∧(k=0∨xs.getD (k-1) 0<xs.getD k 0)
theorem kZ {P:Int} {ps:List Psg} {xs:List Int} (h:stE P ps xs=0):StV P ps xs:=by
  have h1:=Bu.1 h
  unfold stOk at h1
  simp only [Bool.and_eq_true,decide_eq_true_eq] at h1
  obtain ⟨⟨h1,h2⟩,h3⟩:=h1
  refine ⟨h1,fun k hk=>?_,fun k hk h0=>?_,fun k hk=>?_⟩
  · have:=iF.1 h2 k hk
    unfold pasOk at this
    rw [Bool.and_eq_true] at this
    exact this.1
  · have:=iF.1 h2 k hk
    unfold pasOk at this
    simp only [Bool.and_eq_true,decide_eq_true_eq] at this
    exact wJ.1 (by omega)
  · have:=iF.1 h3 k hk
    unfold exOk at this
    simpa using this
theorem cQ {P:Int} {p:Psg}:psgOk P p=true↔(0≤p.a∧p.a<P∧0≤p.b∧p.b<P∧p.a≠p.b∧1≤p.ticks∧p.ticks≤20∧1≤p.wide∧p.wide≤50 ∧
  ((p.kind=1∨p.kind=2∨p.kind=5)∧p.mach = -1∧p.still=0∨p.kind=3∧(0≤p.mach∧p.mach≤11)∧(1≤p.still∧p.still≤20)∨p.kind=4∧(0≤p.mach∧p.mach≤11)∧p.still=0)):=by
  unfold psgOk;rw [decide_eq_true_eq]
theorem dX {P:Int} {p:Psg} (h:¬ (0≤p.a∧p.a<P∧0≤p.b∧p.b<P∧p.a≠p.b∧1≤p.ticks∧p.ticks≤20∧1≤p.wide∧p.wide≤50 ∧
  ((p.kind=1∨p.kind=2∨p.kind=5)∧p.mach = -1∧p.still=0∨p.kind=3∧(0≤p.mach∧p.mach≤11)∧(1≤p.still∧p.still≤20)∨p.kind=4∧(0≤p.mach∧p.mach≤11)∧p.still=0))):psgOk P p=false:=by
  unfold psgOk;exact decide_eq_false h
theorem tZ {P:Nat} {ps:List Psg} {xs:List Int} {out:Int} (h:StV P ps xs):∀ i,i<(hds out xs ps).length→HdOk P ((hds out xs ps).getD i Hd.zero):=by
  have key:∀ n,n≤ps.length→∀ x ∈ hdsTo out xs ps n,HdOk P x:=by
    intro n
    induction n with
    | zero=>intro _ x hx;cases hx
    | succ n ih=>
      intro hn x hx
      rcases List.mem_append.1 hx with hx|hx
      · exact ih (by omega) x hx
      · have hp:=cQ.1 (h.pas n (by omega))
        have ht:1≤eY out (ps.getD n Psg.zero)∧eY out (ps.getD n Psg.zero)≤20:=by
          unfold eY;split <;> omega
        unfold hdsOf hdsA hdsB at hx
        unfold HdOk
        split at hx
        · cases hx
        · rcases List.mem_append.1 hx with hx|hx
          · split at hx
            · cases hx
            · rw [List.mem_singleton.1 hx];dsimp only;omega
          · split at hx
            · rw [List.mem_singleton.1 hx];dsimp only;omega
            · cases hx
  intro i hi
  rw [List.getD_eq_getElem?_getD,List.getElem?_eq_getElem hi]
  exact key _ (Nat.le_refl _) _ (List.getElem_mem hi)
def fJ (P:Int) (pe:List Int):Bool:=allN (fun k=>decide (0≤pe.getD k 0∧pe.getD k 0≤1000)) pe.length&&decide ((pe.length:Int)=P)
def bS (P:Int) (ps:List Psg) (xs:List Int) (out:Int) (pe:List Int) (T:Int):Int:=
  if stE P ps xs≠0 then stE P ps xs else if (decide (0≤out∧out≤4095)&&fJ P pe&&decide (0≤T∧T≤60))=true then 0 else 1
theorem gD {P:Int} {ps:List Psg} {xs:List Int} {out:Int} {pe:List Int} {T:Int} (h:bS P ps xs out pe T=0):stE P ps xs=0∧(0≤out∧out≤4095)∧fJ P pe=true∧(0≤T∧T≤60):=by
  unfold bS at h
  split at h
  · omega
  · rename_i h1
    split at h
    · rename_i h2
      simp only [Bool.and_eq_true,decide_eq_true_eq] at h2
      exact ⟨by omega,h2.1.1,h2.1.2,h2.2⟩
    · cases h
theorem lA {P:Int} {pe:List Int} (h:fJ P pe=true):(∀ k,k<pe.length→0≤pe.getD k 0∧pe.getD k 0≤1000)∧(pe.length:Int)=P:=by
  unfold fJ at h
  simp only [Bool.and_eq_true,decide_eq_true_eq] at h
  exact ⟨fun k hk=>by simpa using iF.1 h.1 k hk,h.2⟩
theorem jT {l:List Ent} {e:Ent} {j:Nat}:(l++[e]).getD j Ent.zero=if j=l.length then e else l.getD j Ent.zero:=by
  rw [List.getD_eq_getElem?_getD,List.getD_eq_getElem?_getD]
  by_cases h:j=l.length
  · subst h;rw [if_pos rfl,List.getElem?_append_right (Nat.le_refl _),Nat.sub_self];rfl
  · rw [if_neg h]
    rcases Nat.lt_or_ge j l.length with h1|h1
    · rw [List.getElem?_append_left h1]
    · rw [List.getElem?_append_right h1,List.getElem?_eq_none (by simp;omega),List.getElem?_eq_none h1]
section
variable {T:Tab} {f t k:Nat} {room:Int} {mv:Mv}
theorem rR (hft:f≠t) (i:Nat):tlen (joinT T f t room mv) i=tlen T i+(if i=f then 1 else 0)+(if i=t then 1 else 0):=by
  unfold tlen joinT upd
  by_cases h1:i=t
  · subst h1
    rw [if_pos rfl,if_neg (fun e=>hft e.symm),if_pos rfl];simp
  · rw [if_neg h1,if_neg h1]
    by_cases h2:i=f
    · subst h2;rw [if_pos rfl,if_pos rfl];simp
    · rw [if_neg h2,if_neg h2];rfl
def entAt (T:Tab) (i j:Nat):Ent:=(T i).getD j Ent.zero
theorem uX (hft:f≠t) (i j:Nat):entAt (joinT T f t room mv) i j=if i=f∧j=tlen T f then ⟨t,room,tlen T t,mv⟩ else if i=t∧j=tlen T t then ⟨f,0,tlen T f,Mv.none⟩ else entAt T i j:=by
  unfold entAt joinT upd tlen
  by_cases h1:i=t
  · subst h1
    rw [if_pos rfl,if_neg (fun h=>hft h.1.symm),jT]
    by_cases h2:j=(T i).length
    · rw [if_pos h2,if_pos ⟨rfl,h2⟩]
    · rw [if_neg h2,if_neg (fun h=>h2 h.2)]
  · rw [if_neg h1]
    by_cases h2:i=f
    · subst h2
      rw [if_pos rfl,jT]
      by_cases h3:j=(T i).length
      · rw [if_pos h3,if_pos ⟨rfl,h3⟩]
      · rw [if_neg h3,if_neg (fun h=>h3 h.2),if_neg (fun h=>h1 h.1)]
    · rw [if_neg h2,if_neg (fun h=>h2 h.1),if_neg (fun h=>h1 h.1)]
theorem lZ (hft:f≠t) (hf:f<k) (ht:t<k) (W:(T.net k).Wf):((joinT T f t room mv).net k).Wf:=by
  have hlen:=rR (T:=T) (room:=room) (mv:=mv) hft
  have hat:=uX (T:=T) (room:=room) (mv:=mv) hft
  have key:∀ i,i<k→∀ j,j<tlen (joinT T f t room mv) i→(i=f∧j=tlen T f)∨(i=t∧j=tlen T t)∨(¬ (i=f∧j=tlen T f)∧¬ (i=t∧j=tlen T t)∧j<tlen T i):=by
    intro i hi j hj
    rw [hlen] at hj
    by_cases h1:i=f∧j=tlen T f
    · exact .inl h1
    · by_cases h2:i=t∧j=tlen T t
      · exact .inr (.inl h2)
      · refine .inr (.inr ⟨h1,h2,?_⟩)
        by_cases e1:i=f
        · subst e1;rw [if_pos rfl,if_neg hft] at hj;have:j≠tlen T i:=fun e=>h1 ⟨rfl,e⟩;omega
        · by_cases e2:i=t
          · subst e2;rw [if_neg e1,if_pos rfl] at hj;have:j≠tlen T i:=fun e=>h2 ⟨rfl,e⟩;omega
          · rw [if_neg e1,if_neg e2] at hj;omega
  have hne':¬ (t=f∧tlen T t=tlen T f):=fun h=>hft h.1.symm
  have kold:∀ i,i<k→∀ j,j<tlen T i→entAt (joinT T f t room mv) i j=entAt T i j:=by
    intro i hi j hj
    rw [hat,if_neg (fun h=>by rw [h.1,h.2] at hj;omega),if_neg (fun h=>by rw [h.1,h.2] at hj;omega)]
  have hW:∀ i,i<k→∀ j,j<tlen T i→(entAt T i j).to<k∧(entAt T i j).to≠i∧(entAt T i j).back<tlen T (entAt T i j).to∧(entAt T (entAt T i j).to (entAt T i j).back).to=i∧(entAt T (entAt T i j).to (entAt T i j).back).back=j:=
    fun i hi j hj=>⟨W.to_lt i hi j hj,W.to_ne i hi j hj,W.bk_lt i hi j hj,W.bk_to i hi j hj,W.bk_bk i hi j hj⟩
  have all:∀ i,i<k→∀ j,j<tlen (joinT T f t room mv) i→(entAt (joinT T f t room mv) i j).to<k∧(entAt (joinT T f t room mv) i j).to≠i∧(entAt (joinT T f t room mv) i j).back<tlen (joinT T f t room mv) (entAt (joinT T f t room mv) i j).to ∧
      (entAt (joinT T f t room mv) (entAt (joinT T f t room mv) i j).to (entAt (joinT T f t room mv) i j).back).to=i∧(entAt (joinT T f t room mv) (entAt (joinT T f t room mv) i j).to (entAt (joinT T f t room mv) i j).back).back=j:=by
    intro i hi j hj
    rcases key i hi j hj with ⟨rfl,rfl⟩|⟨rfl,rfl⟩|⟨h1,h2,h3⟩
    · have e1:entAt (joinT T i t room mv) i (tlen T i)=⟨t,room,tlen T t,mv⟩:=by rw [hat,if_pos ⟨rfl,rfl⟩]
      have e2:entAt (joinT T i t room mv) t (tlen T t)=⟨i,0,tlen T i,Mv.none⟩:=by rw [hat,if_neg hne',if_pos ⟨rfl,rfl⟩]
      rw [e1]
      dsimp only
      rw [e2]
      refine ⟨ht,fun h=>hft h.symm,?_,rfl,rfl⟩
      rw [hlen,if_pos rfl];omega
    · have e1:entAt (joinT T f i room mv) i (tlen T i)=⟨f,0,tlen T f,Mv.none⟩:=by rw [hat,if_neg hne',if_pos ⟨rfl,rfl⟩]
      have e2:entAt (joinT T f i room mv) f (tlen T f)=⟨i,room,tlen T i,mv⟩:=by rw [hat,if_pos ⟨rfl,rfl⟩]
      rw [e1]
      dsimp only
      rw [e2]
      refine ⟨hf,hft,?_,rfl,rfl⟩
      rw [hlen,if_pos rfl];omega
    · rw [kold i hi j h3]
      obtain ⟨g1,g2,g3,g4,g5⟩:=hW i hi j h3
      rw [kold _ g1 _ g3]
      refine ⟨g1,g2,?_,g4,g5⟩
      rw [hlen];omega
  exact ⟨fun i hi j hj=>(all i hi j hj).1,fun i hi j hj=>(all i hi j hj).2.1,fun i hi j hj=>(all i hi j hj).2.2.1,fun i hi j hj=>(all i hi j hj).2.2.2.1,fun i hi j hj=>(all i hi j hj).2.2.2.2⟩
theorem rS {B:Int} (hft:f≠t) (hf:f<k) (ht:t<k) (hr:0≤room∧room≤B) (W:(T.net k).Wf) (O:Ok (T.net k) T.room B):Ok ((joinT T f t room mv).net k) (joinT T f t room mv).room B:=by
  have hlen:=rR (T:=T) (room:=room) (mv:=mv) hft
  have hat:=uX (T:=T) (room:=room) (mv:=mv) hft
  have W':=lZ (room:=room) (mv:=mv) hft hf ht W
  have hroom:∀ i j,(joinT T f t room mv).room i j=if i=f∧j=tlen T f then room else if i=t∧j=tlen T t then 0 else T.room i j:=by
    intro i j
    show (entAt (joinT T f t room mv) i j).room=_
    rw [hat]
    split
    · rfl
    · split <;> rfl
  have hold:∀ i,i<k→∀ j,j<tlen (joinT T f t room mv) i→¬ (i=f∧j=tlen T f)→¬ (i=t∧j=tlen T t)→j<tlen T i:=by
    intro i hi j hj h1 h2
    rw [hlen] at hj
    by_cases e1:i=f
    · subst e1;rw [if_pos rfl,if_neg hft] at hj;have:j≠tlen T i:=fun e=>h1 ⟨rfl,e⟩;omega
    · by_cases e2:i=t
      · subst e2;rw [if_neg e1,if_pos rfl] at hj;have:j≠tlen T i:=fun e=>h2 ⟨rfl,e⟩;omega
      · rw [if_neg e1,if_neg e2] at hj;omega
  refine ⟨fun i hi j hj=>?_,fun i hi j hj=>?_⟩
  · rw [hroom]
    split
    · exact hr.1
    · rename_i h1
      split
      · exact Int.le_refl _
      · rename_i h2
        exact O.nn i hi j (hold i hi j hj h1 h2)
  · have hne':¬ (t=f∧tlen T t=tlen T f):=fun h=>hft h.1.symm
    show (joinT T f t room mv).room i j+(joinT T f t room mv).room (entAt (joinT T f t room mv) i j).to (entAt (joinT T f t room mv) i j).back≤B
    by_cases h1:i=f∧j=tlen T f
    · rw [hat,if_pos h1]
      dsimp only
      rw [hroom,hroom,if_pos h1,if_neg hne',if_pos ⟨rfl,rfl⟩]
      omega
    · by_cases h2:i=t∧j=tlen T t
      · rw [hat,if_neg h1,if_pos h2]
        dsimp only
        rw [hroom,hroom,if_neg h1,if_pos h2,if_pos ⟨rfl,rfl⟩]
        omega
      · have h3:=hold i hi j hj h1 h2
        have g1:=W.to_lt i hi j h3
        have g3:=W.bk_lt i hi j h3
        rw [hat,if_neg h1,if_neg h2,hroom,hroom,if_neg h1,if_neg h2]
        have e1:¬ ((entAt T i j).to=f∧(entAt T i j).back=tlen T f):=fun h=>by
          have:(entAt T i j).back<tlen T (entAt T i j).to:=g3
          rw [h.1,h.2] at this;omega
        have e2:¬ ((entAt T i j).to=t∧(entAt T i j).back=tlen T t):=fun h=>by
          have:(entAt T i j).back<tlen T (entAt T i j).to:=g3
          rw [h.1,h.2] at this;omega
        rw [if_neg e1,if_neg e2]
        exact O.pair i hi j h3
theorem nH {e:Ent} {S:Nat→Bool} (hf:f<k):resid (Tab.net (upd T f (T f++[e])) k) (Tab.room (upd T f (T f++[e]))) S=resid (T.net k) T.room S+(if S f=true∧S e.to=false then e.room else 0):=by
  unfold resid
  have hrow:∀ i,i≠f→upd T f (T f++[e]) i=T i:=fun i h=>bI _ _ h
  have h:=mW (f:=fun i=>sm (fun j=>if S i=true∧S ((T.net k).to i j)=false then T.room i j else 0) ((T.net k).n i))
    (g:=fun i=>sm (fun j=>if S i=true∧S ((Tab.net (upd T f (T f++[e])) k).to i j)=false then Tab.room (upd T f (T f++[e])) i j else 0) ((Tab.net (upd T f (T f++[e])) k).n i)) hf
    (fun i hi hne=>by
      show sm (fun j=>if S i=true∧S (entAt (upd T f (T f++[e])) i j).to=false then (entAt (upd T f (T f++[e])) i j).room else 0) (tlen (upd T f (T f++[e])) i)=_
      unfold entAt tlen
      rw [hrow i hne]
      rfl)
  show sm _ k=_
  refine h.trans ?_
  congr 1
  have e1:sm (fun j=>if S f=true∧S (entAt (upd T f (T f++[e])) f j).to=false then (entAt (upd T f (T f++[e])) f j).room else 0) (tlen (upd T f (T f++[e])) f) =
      sm (fun j=>if S f=true∧S (entAt T f j).to=false then (entAt T f j).room else 0) (tlen T f)+(if S f=true∧S e.to=false then e.room else 0):=by
    have hl:tlen (upd T f (T f++[e])) f=tlen T f+1:=by unfold tlen;rw [bH];simp
    rw [hl,sm]
    have hlast:entAt (upd T f (T f++[e])) f (tlen T f)=e:=by unfold entAt tlen;rw [bH,jT,if_pos rfl]
    rw [hlast]
    congr 1
    refine hH fun j hj=>?_
    have:entAt (upd T f (T f++[e])) f j=entAt T f j:=by unfold entAt;rw [bH,jT,if_neg (by unfold tlen at hj;omega)]
    rw [this]
  show sm (fun j=>if S f=true∧S (entAt (upd T f (T f++[e])) f j).to=false then (entAt (upd T f (T f++[e])) f j).room else 0) (tlen (upd T f (T f++[e])) f) -
      sm (fun j=>if S f=true∧S (entAt T f j).to=false then (entAt T f j).room else 0) (tlen T f)=_
  omega
end
def capJ (S:Nat→Bool):List Jn→Int
  | []=>0
  | j::J=>(if S j.f=true∧S j.t=false then j.room else 0)+capJ S J
theorem gV (S:Nat→Bool) (J J':List Jn):capJ S (J++J')=capJ S J+capJ S J':=by
  induction J with
  | nil=>simp [capJ]
  | cons j J ih=>simp only [List.cons_append,capJ,ih];omega
theorem oM {S:Nat→Bool} {J:List Jn} (h:∀ j ∈ J,S j.f=true→S j.t=false→j.room=0):capJ S J=0:=by
  induction J with
  | nil=>rfl
  | cons j J ih=>
    rw [capJ,ih (fun x hx=>h x (List.mem_cons_of_mem _ hx))]
    split
    · rename_i h1;rw [h j (List.mem_cons_self ..) h1.1 h1.2];rfl
    · rfl
theorem wK {k:Nat} {S:Nat→Bool}:resid (Tab.net (fun _=>[]) k) (Tab.room (fun _=>[])) S=0:=mC fun i _=>rfl
theorem wL {k:Nat} {B:Int} (hB:0≤B):∀ (J:List Jn),(∀ j ∈ J,j.f≠j.t∧j.f<k∧j.t<k∧0≤j.room∧j.room≤B)→((joins J).net k).Wf∧Ok ((joins J).net k) (joins J).room B∧∀ S,resid ((joins J).net k) (joins J).room S=capJ S J:=by
  have key:∀ (n:Nat) (J:List Jn),J.length=n→(∀ j ∈ J,j.f≠j.t∧j.f<k∧j.t<k∧0≤j.room∧j.room≤B)→((joins J).net k).Wf∧Ok ((joins J).net k) (joins J).room B∧∀ S,resid ((joins J).net k) (joins J).room S=capJ S J:=by
    intro n
    induction n with
    | zero=>
      intro J h _
      have:J=[]:=List.eq_nil_of_length_eq_zero h
      subst this
      exact ⟨⟨fun i _ j hj=>absurd hj (Nat.not_lt_zero j),fun i _ j hj=>absurd hj (Nat.not_lt_zero j),fun i _ j hj=>absurd hj (Nat.not_lt_zero j),fun i _ j hj=>absurd hj (Nat.not_lt_zero j),fun i _ j hj=>absurd hj (Nat.not_lt_zero j)⟩,
        ⟨fun i _ j hj=>absurd hj (Nat.not_lt_zero j),fun i _ j hj=>absurd hj (Nat.not_lt_zero j)⟩,fun S=>wK⟩
    | succ n ih=>
      intro J h hn
      obtain ⟨J',j,rfl⟩:∃ J' j,J=J'++[j]:=⟨J.dropLast,J.getLast (by intro e;subst e;simp at h),(List.dropLast_concat_getLast _).symm⟩
      obtain ⟨W,O,hr⟩:=ih J' (by simpa using h) (fun x hx=>hn x (List.mem_append_left _ hx))
      obtain ⟨h1,h2,h3,h4,h5⟩:=hn j (List.mem_append_right _ (by simp))
      rw [fF]
      refine ⟨lZ h1 h2 h3 W,rS h1 h2 h3 ⟨h4,h5⟩ W O,fun S=>?_⟩
      rw [gV]
      unfold joinT
      have e1:=nH (T:=joins J') (f:=j.f) (k:=k) (e:=⟨j.t,j.room,(joins J' j.t).length,j.mv⟩) (S:=S) h2
      have e2:=nH (T:=upd (joins J') j.f (joins J' j.f++[⟨j.t,j.room,(joins J' j.t).length,j.mv⟩])) (f:=j.t) (k:=k) (e:=⟨j.f,0,(joins J' j.f).length,Mv.none⟩) (S:=S) h3
      rw [bI (i:=j.t) _ _ (fun e=>h1 e.symm)] at e2
      rw [e2,e1,hr S]
      simp only [capJ]
      split <;> split <;> omega
  intro J h
  exact key _ J rfl h
section
variable {P T:Nat} {pe xs:List Int} {hs:List Hd}
def JRoom (B:Int) (j:Jn):Prop:=0≤j.room∧j.room≤B
theorem uA {p:Nat} (hpe:∀ k,k<pe.length→0≤pe.getD k 0∧pe.getD k 0≤1000):∀ j ∈ gL P T pe xs p,JRoom 1099511627776 j:=by
  intro j hj
  unfold gL bX dE at hj
  rcases List.mem_cons.1 hj with rfl|hj
  · unfold JRoom jBeg
    dsimp only
    by_cases h:p<pe.length
    · have:=hpe p h;omega
    · rw [List.getD_eq_getElem?_getD,List.getElem?_eq_none (by omega)];simp
  · rcases List.mem_append.1 hj with hj|hj
    · obtain ⟨t,_,rfl⟩:=List.mem_map.1 hj
      unfold JRoom jWait pX;dsimp only;omega
    · split at hj
      · obtain ⟨t,_,rfl⟩:=List.mem_map.1 hj
        unfold JRoom jExit pX;dsimp only;omega
      · cases hj
theorem rT (hpe:∀ k,k<pe.length→0≤pe.getD k 0∧pe.getD k 0≤1000):∀ n,∀ j ∈ aU P T pe xs n,JRoom 1099511627776 j:=by
  intro n
  induction n with
  | zero=>intro j hj;cases hj
  | succ n ih=>
    intro j hj
    rcases List.mem_append.1 hj with hj|hj
    · exact ih j hj
    · exact uA hpe j hj
theorem uB (hw:∀ i,i<hs.length→1≤(hs.getD i Hd.zero).wide∧(hs.getD i Hd.zero).wide≤50):∀ {n},n≤hs.length→∀ j ∈ cO P T hs n,JRoom 1099511627776 j:=by
  intro n
  induction n with
  | zero=>intro _ j hj;cases hj
  | succ n ih=>
    intro hn j hj
    rcases List.mem_append.1 hj with hj|hj
    · exact ih (by omega) j hj
    · obtain ⟨t,_,rfl⟩:=List.mem_map.1 hj
      have:=hw n (by omega)
      unfold JRoom jHead;dsimp only;omega
theorem wM (hpe:∀ k,k<pe.length→0≤pe.getD k 0∧pe.getD k 0≤1000) (hh:∀ i,i<hs.length→HdOk P (hs.getD i Hd.zero)):capJ (fun v=>decide (v=P*(T+1))) (jAll P T pe xs hs)≤1000*P:=by
  have h1 : ∀ n,n≤P→capJ (fun v=>decide (v=P*(T+1))) (aU P T pe xs n)≤1000*n:=by
    intro n
    induction n with
    | zero=>intro _;simp [aU,capJ]
    | succ n ih=>
      intro hn
      rw [aU,gV]
      have h2:=ih (by omega)
      have h3 : capJ (fun v=>decide (v=P*(T+1))) (gL P T pe xs n)≤1000:=by
        unfold gL
        rw [capJ,oM (J:=bX P n T++_)]
        · have hb:(jBeg P T pe n).room≤1000:=by
            unfold jBeg;dsimp only
            by_cases h:n<pe.length
            · have:=hpe n h;omega
            · rw [List.getD_eq_getElem?_getD,List.getElem?_eq_none (by omega)];simp
          split <;> omega
        · intro j hj hf
          exfalso
          have hf':j.f=P*(T+1):=by simpa using hf
          unfold bX dE at hj
          rcases List.mem_append.1 hj with hj|hj
          · obtain ⟨t,ht,rfl⟩:=List.mem_map.1 hj
            have:=kX (P:=P) (T:=T) (t:=t) (p:=n) (by have:=List.mem_range.1 ht;omega) (by omega)
            have e:(jWait P n t).f=nd P t n:=rfl
            omega
          · split at hj
            · obtain ⟨t,ht,rfl⟩:=List.mem_map.1 hj
              have:=kX (P:=P) (T:=T) (t:=t) (p:=n) (by have:=List.mem_range.1 ht;omega) (by omega)
              have e:(jExit P T n t).f=nd P t n:=rfl
              omega
            · cases hj
      push_cast
      omega
  have h2:∀ n,n≤hs.length→capJ (fun v=>decide (v=P*(T+1))) (cO P T hs n)=0:=by
    intro n
    induction n with
    | zero=>intro _;rfl
    | succ n ih=>
      intro hn
      rw [cO,gV,ih (by omega),oM]
      · rfl
      · intro j hj hf
        exfalso
        have hf':j.f=P*(T+1):=by simpa using hf
        obtain ⟨t,ht,rfl⟩:=List.mem_map.1 hj
        have h9:=hh n (by omega)
        unfold HdOk at h9
        have:=kX (P:=P) (T:=T) (t:=t) (p:=(hs.getD n Hd.zero).fr.toNat) (by have:=List.mem_range.1 ht;omega) (by omega)
        have e:(jHead P (hs.getD n Hd.zero) t).f=nd P t (hs.getD n Hd.zero).fr.toNat:=rfl
        omega
  unfold jAll
  rw [gV,h2 _ (Nat.le_refl _)]
  have:=h1 P (Nat.le_refl _)
  omega
end
def layT (P T:Nat) (pe xs:List Int) (hs:List Hd):Tab:=joins (jAll P T pe xs hs)
def layN (P T:Nat) (pe xs:List Int) (hs:List Hd):Net:=(layT P T pe xs hs).net (P*(T+1)+2)
structure LayOk (P T:Nat) (pe xs:List Int) (hs:List Hd):Prop where
  wf:(layN P T pe xs hs).Wf
  ok:Ok (layN P T pe xs hs) (layT P T pe xs hs).room 2199023255552
  cap:∀ S,resid (layN P T pe xs hs) (layT P T pe xs hs).room S=capJ S (jAll P T pe xs hs)
  beg:resid (layN P T pe xs hs) (layT P T pe xs hs).room (fun v=>decide (v=P*(T+1)))≤1000*P
theorem zF {P:Int} {ps:List Psg} {xs:List Int} {out:Int} (h:StV P ps xs):∀ i,i<(hds out xs ps).length→1≤((hds out xs ps).getD i Hd.zero).wide∧((hds out xs ps).getD i Hd.zero).wide≤50:=by
  have key:∀ n,n≤ps.length→∀ x ∈ hdsTo out xs ps n,1≤x.wide∧x.wide≤50:=by
    intro n
    induction n with
    | zero=>intro _ x hx;cases hx
    | succ n ih=>
      intro hn x hx
      rcases List.mem_append.1 hx with hx|hx
      · exact ih (by omega) x hx
      · have hp:=cQ.1 (h.pas n (by omega))
        unfold hdsOf hdsA hdsB at hx
        split at hx
        · cases hx
        · rcases List.mem_append.1 hx with hx|hx
          · split at hx
            · cases hx
            · rw [List.mem_singleton.1 hx];dsimp only;omega
          · split at hx
            · rw [List.mem_singleton.1 hx];dsimp only;omega
            · cases hx
  intro i hi
  rw [List.getD_eq_getElem?_getD,List.getElem?_eq_getElem hi]
  exact key _ (Nat.le_refl _) _ (List.getElem_mem hi)
theorem zG {P T:Nat} {ps:List Psg} {pe xs:List Int} {out:Int} (h:StV P ps xs) (hpe:∀ k,k<pe.length→0≤pe.getD k 0∧pe.getD k 0≤1000):LayOk P T pe xs (hds out xs ps):=by
  obtain ⟨W,O,hr⟩:=wL (k:=P*(T+1)+2) (B:=2199023255552) (by omega) (jAll P T pe xs (hds out xs ps)) (by
    intro j hj
    have h1:JOk P T j∧JRoom 1099511627776 j:=by
      rcases List.mem_append.1 hj with hj|hj
      · exact ⟨kE (Nat.le_refl _) j hj,rT hpe P j hj⟩
      · exact ⟨oL (tZ h) (Nat.le_refl _) j hj,uB (zF h) (Nat.le_refl _) j hj⟩
    obtain ⟨⟨a1,a2,a3⟩,a4,a5⟩:=h1
    exact ⟨a1,a2,a3,a4,by omega⟩)
  exact ⟨W,O,hr,Int.le_trans (Int.le_of_eq (hr _)) (wM hpe (tZ h))⟩
structure EndP (P T:Nat) (pe xs:List Int) (hs:List Hd) (v:Int) (r:RM) (L:Nat→Int):Prop where
  fl:Fl (layN P T pe xs hs) (layT P T pe xs hs).room r (P*(T+1)) (P*(T+1)+1) v
  nn:0≤v
  lev:LevOk (layN P T pe xs hs) r (P*(T+1)) L
  full:L (P*(T+1)+1)<0
def fstB (f:Nat→Bool):Nat→Nat
  | 0=>0
  | n+1=>if fstB f n<n then fstB f n else if f n=true then n else n+1
theorem zH {f:Nat→Bool}:∀ {n},(∀ q,q<n→f q=false)→fstB f n=n:=by
  intro n
  induction n with
  | zero=>intro _;rfl
  | succ n ih=>intro h;rw [fstB,ih (fun q hq=>h q (by omega)),if_neg (by omega),if_neg (by rw [h n (by omega)];simp)]
def sumI (l:List Int):Nat→Int:=sm (fun k=>l.getD k 0)
theorem nI {N:Net} {r:RM} {S:Nat→Bool} (hn:∀ i,i<N.k→∀ j,j<N.n i→0≤r i j) (h:resid N r S=0):∀ u,u<N.k→S u=true→∀ j,j<N.n u→0<r u j→S (N.to u j)=true:=by
  intro u hu hS j hj hr
  have h1:=jY (f:=fun i=>sm (fun j=>if S i=true∧S (N.to i j)=false then r i j else 0) (N.n i)) (fun i hi=>hX fun j hj=>by split;exact hn i hi j hj;exact Int.le_refl _) h u hu
  have h2:=jY (f:=fun j=>if S u=true∧S (N.to u j)=false then r u j else 0) (fun j hj=>by split;exact hn u hu j hj;exact Int.le_refl _) h1 j hj
  cases hs:S (N.to u j) with
  | true=>rfl
  | false=>
    skip
    rw [if_pos ⟨hS,hs⟩] at h2
    omega
def eJ (L:Nat→Int) (v:Nat):Bool:=decide (0≤L v)
section
variable {P T:Nat} {pe xs:List Int} {hs:List Hd} {v v':Int} {r r':RM} {L L':Nat→Int}
theorem pY {S:Nat→Bool} (hb:S (P*(T+1))=true) (hx:S (P*(T+1)+1)=false):ind S (P*(T+1))-ind S (P*(T+1)+1)=1:=by
  unfold ind;rw [hb,hx];rfl
theorem EndP.bound (O:LayOk P T pe xs hs) (h:EndP P T pe xs hs v r L) {S:Nat→Bool} (hb:S (P*(T+1))=true) (hx:S (P*(T+1)+1)=false):v≤capJ S (jAll P T pe xs hs):=by
  have h1:=kN (S:=S) (h.fl.ok O.ok)
  rw [h.fl.cut,O.cap,pY hb hx] at h1
  omega
theorem EndP.at_reach (O:LayOk P T pe xs hs) (h:EndP P T pe xs hs v r L):eJ L (P*(T+1))=true∧eJ L (P*(T+1)+1)=false∧capJ (eJ L) (jAll P T pe xs hs)=v:=by
  have hb:eJ L (P*(T+1))=true:=by unfold eJ;rw [h.lev.b0];rfl
  have hx:eJ L (P*(T+1)+1)=false:=by unfold eJ;rw [decide_eq_false_iff_not];have:=h.full;omega
  refine ⟨hb,hx,?_⟩
  have h0:resid (layN P T pe xs hs) r (eJ L)=0:=mC fun i hi=>mC fun j hj=>by
    split
    · rename_i hc
      obtain ⟨h1,h2⟩:=hc
      unfold eJ at h1 h2
      simp only [decide_eq_true_eq,decide_eq_false_iff_not] at h1 h2
      have h3:=h.fl.nn i hi j hj
      by_cases h4:0<r i j
      · exact absurd (h.lev.cl i hi h1 j hj h4) h2
      · omega
    · rfl
  rw [h.fl.cut,O.cap,pY hb hx] at h0
  omega
theorem EndP.unique (O:LayOk P T pe xs hs) (h:EndP P T pe xs hs v r L) (h':EndP P T pe xs hs v' r' L'):v=v':=by
  obtain ⟨a1,a2,a3⟩:=h.at_reach O
  obtain ⟨b1,b2,b3⟩:=h'.at_reach O
  have h1:=h.bound O b1 b2
  have h2:=h'.bound O a1 a2
  omega
theorem EndP.inside (O:LayOk P T pe xs hs) (h:EndP P T pe xs hs v r L) {S:Nat→Bool} (hb:S (P*(T+1))=true) (hx:S (P*(T+1)+1)=false) (hc:capJ S (jAll P T pe xs hs)=v):∀ u,u<P*(T+1)+2→0≤L u→S u=true:=by
  have h0:resid (layN P T pe xs hs) r S=0:=by rw [h.fl.cut,O.cap,pY hb hx];omega
  exact h.lev.least hb (nI h.fl.nn h0)
theorem EndP.same (O:LayOk P T pe xs hs) (h:EndP P T pe xs hs v r L) (h':EndP P T pe xs hs v' r' L'):∀ u,u<P*(T+1)+2→eJ L u=eJ L' u:=by
  have e:=h.unique O h'
  obtain ⟨a1,a2,a3⟩:=h.at_reach O
  obtain ⟨b1,b2,b3⟩:=h'.at_reach O
  intro u hu
  have h1:=h.inside O b1 b2 (by omega) u hu
  have h2:=h'.inside O a1 a2 (by omega) u hu
  unfold eJ at h1 h2 ⊢
  exact decide_eq_decide.2 ⟨fun h=>of_decide_eq_true (h1 h),fun h=>of_decide_eq_true (h2 h)⟩
end
open Classical in
noncomputable def mfv (P T:Nat) (pe xs:List Int) (hs:List Hd):Int:=if h:∃ v,∃ r L,EndP P T pe xs hs v r L then Classical.choose h else 0
section
variable {P T:Nat} {pe xs:List Int} {hs:List Hd} {v:Int} {r:RM} {L:Nat→Int}
theorem zI (O:LayOk P T pe xs hs) (h:EndP P T pe xs hs v r L):mfv P T pe xs hs=v:=by
  have he:∃ v,∃ r L,EndP P T pe xs hs v r L:=⟨v,r,L,h⟩
  unfold mfv
  rw [dif_pos he]
  obtain ⟨r',L',h'⟩:=Classical.choose_spec he
  exact h'.unique O h
end
def opn (out:Int) (help:Bool) (p:Psg):Bool:=(decide (p.kind=1)||(decide (p.kind=4)&&decide (bitI out p.mach=0)))||(decide (p.kind=5)&&help)
def othr (p:Psg) (a:Int):Int:=if p.a=a then p.b else if p.b=a then p.a else -1
def oth (out:Int) (help:Bool) (p:Psg) (a:Int):Int:=if opn out help p=false then -1 else othr p a
inductive Wk (ps:List Psg) (out:Int) (help:Bool):Nat→Nat→Nat→List Nat→Prop
  | nil (a:Nat):Wk ps out help a a 0 []
  | cons {a b c n k:Nat} {l:List Nat} (hk:k<ps.length) (ho:oth out help (ps.getD k Psg.zero) a=(b:Int)) (h:Wk ps out help b c n l):Wk ps out help a c ((ps.getD k Psg.zero).ticks.toNat+n) (k::l)
def PsV (P:Nat) (ps:List Psg):Prop:=∀ k,k<ps.length→(0≤(ps.getD k Psg.zero).a∧(ps.getD k Psg.zero).a<P)∧(0≤(ps.getD k Psg.zero).b∧(ps.getD k Psg.zero).b<P)∧1≤(ps.getD k Psg.zero).ticks∧(ps.getD k Psg.zero).ticks≤20
theorem uC {P:Nat} {ps:List Psg} (V:PsV P ps) {out:Int} {help:Bool} {k:Nat} (hk:k<ps.length) {a:Int} (h:0≤oth out help (ps.getD k Psg.zero) a):opn out help (ps.getD k Psg.zero)=true∧oth out help (ps.getD k Psg.zero) a<P∧((ps.getD k Psg.zero).a=a∧oth out help (ps.getD k Psg.zero) a=(ps.getD k Psg.zero).b∨(ps.getD k Psg.zero).b=a∧oth out help (ps.getD k Psg.zero) a=(ps.getD k Psg.zero).a):=by
  have:=V k hk
  unfold oth othr at h ⊢
  split at h
  · omega
  · rename_i h1
    refine ⟨by simpa using h1,?_⟩
    rw [if_neg h1]
    split at h
    · rename_i h2;rw [if_pos h2];exact ⟨by omega,.inl ⟨h2,rfl⟩⟩
    · rename_i h2
      rw [if_neg h2]
      split at h
      · rename_i h3;rw [if_pos h3];exact ⟨by omega,.inr ⟨h3,rfl⟩⟩
      · omega
def FixAt (ps:List Psg) (out:Int) (help:Bool) (tk:Nat→Int) (i k:Nat):Prop:=∀ b:Nat,oth out help (ps.getD k Psg.zero) i=(b:Int)→0≤tk b→0≤tk i∧tk i≤tk b+(ps.getD k Psg.zero).ticks
def potF (P:Nat) (tk:Nat→Int):Int:=sm (fun i=>if tk i<0 then 1000 else tk i) P
def cntF (P:Nat) (tk:Nat→Int):Int:=sm (fun i=>if tk i<0 then 0 else 1) P
structure FarI (P:Nat) (ps:List Psg) (out:Int) (help:Bool) (to:Nat) (tk:Nat→Int):Prop where
  to0:tk to=0
  low:∀ i,-1≤tk i
  walk:∀ i,i<P→0≤tk i→∃ l,Wk ps out help i to (tk i).toNat l
  bd:∀ i,i<P→tk i≤20*(cntF P tk-1)
theorem Bv {P:Nat} {tk:Nat→Int}:cntF P tk≤P:=by
  unfold cntF
  induction P with
  | zero=>exact Int.le_refl 0
  | succ n ih=>rw [sm];split <;> omega
section
variable {P:Nat} {ps:List Psg} {out:Int} {help:Bool} {to:Nat} {tk:Nat→Int}
theorem FarI.small (I:FarI P ps out help to tk) (hP:P≤10) {i:Nat} (hi:i<P):tk i≤180:=by
  have:=I.bd i hi
  have:=Bv (P:=P) (tk:=tk)
  omega
theorem FarI.relax (I:FarI P ps out help to tk) (V:PsV P ps) {i b k:Nat} (hi:i<P) (hb:b<P) (hk:k<ps.length) (ho:oth out help (ps.getD k Psg.zero) i=(b:Int)) (h0:0≤tk b) (hl:tk i<0∨tk b+(ps.getD k Psg.zero).ticks<tk i) :
    FarI P ps out help to (upd tk i (tk b+(ps.getD k Psg.zero).ticks))∧potF P (upd tk i (tk b+(ps.getD k Psg.zero).ticks))+1≤potF P tk∨900<tk b+(ps.getD k Psg.zero).ticks:=by
  by_cases hbig:900<tk b+(ps.getD k Psg.zero).ticks
  · exact .inr hbig
  refine .inl ?_
  have ht:1≤(ps.getD k Psg.zero).ticks∧(ps.getD k Psg.zero).ticks≤20:=(V k hk).2.2
  have hti:i≠to:=fun e=>by subst e;have:=I.to0;omega
  have hbi:b≠i:=fun e=>by subst e;omega
  have hc:cntF P (upd tk i (tk b+(ps.getD k Psg.zero).ticks))=cntF P tk+(if tk i<0 then 1 else 0):=by
    unfold cntF
    rw [mW (f:=fun i=>if tk i<0 then 0 else 1) hi (fun j _ hj=>by rw [bI _ _ hj]),bH,if_neg (by omega)]
    split <;> omega
  refine ⟨⟨by rw [bI _ _ (fun e=>hti e.symm)];exact I.to0,fun j=>?_,fun j hj h=>?_,fun j hj=>?_⟩,?_⟩
  · by_cases e:j=i
    · subst e;rw [bH];omega
    · rw [bI _ _ e];exact I.low j
  · by_cases e:j=i
    · subst e
      rw [bH]
      obtain ⟨l,hw⟩:=I.walk b hb h0
      have:=Wk.cons hk ho hw
      rw [show (tk b+(ps.getD k Psg.zero).ticks).toNat=(ps.getD k Psg.zero).ticks.toNat+(tk b).toNat by omega]
      exact ⟨_,this⟩
    · rw [bI _ _ e] at h ⊢;exact I.walk j hj h
  · rw [hc]
    have hbb:=I.bd b hb
    by_cases e:j=i
    · subst e
      rw [bH]
      have:=I.bd j hj
      split <;> omega
    · rw [bI _ _ e];have:=I.bd j hj;split <;> omega
  · unfold potF
    rw [mW (f:=fun i=>if tk i<0 then 1000 else tk i) hi (fun j _ hj=>by rw [bI _ _ hj]),bH,if_neg (by omega)]
    split <;> omega
theorem FarI.step (I:FarI P ps out help to tk) (V:PsV P ps) (hP:P≤10) {i b k:Nat} (hi:i<P) (hb:b<P) (hk:k<ps.length) (ho:oth out help (ps.getD k Psg.zero) i=(b:Int)) (h0:0≤tk b) (hl:tk i<0∨tk b+(ps.getD k Psg.zero).ticks<tk i) :
    FarI P ps out help to (upd tk i (tk b+(ps.getD k Psg.zero).ticks))∧potF P (upd tk i (tk b+(ps.getD k Psg.zero).ticks))+1≤potF P tk:=by
  rcases I.relax V hi hb hk ho h0 hl with h|h
  · exact h
  · exfalso
    have:=I.small hP hb
    have:(ps.getD k Psg.zero).ticks≤20:=(V k hk).2.2.2
    omega
end
def b2i (b:Bool):Int:=if b=true then 1 else 0
theorem FarI.up {P:Nat} {ps:List Psg} {out:Int} {help:Bool} {to:Nat} {tk:Nat→Int} (I:FarI P ps out help to tk) (V:PsV P ps) (hP:P≤10) {i k:Nat} {X:Int} {m:Bool} {Q:Prop} (hi:i<P) (hk:k<ps.length) (ho:0≤oth out help (ps.getD k Psg.zero) i) (hb:oth out help (ps.getD k Psg.zero) i<P) (h0:0≤tk (oth out help (ps.getD k Psg.zero) i).toNat)
    (hl:tk i<0∨tk (oth out help (ps.getD k Psg.zero) i).toNat+(ps.getD k Psg.zero).ticks<tk i) (hp:potF P tk+b2i m≤X) :
    FarI P ps out help to (upd tk i (tk (oth out help (ps.getD k Psg.zero) i).toNat+(ps.getD k Psg.zero).ticks))∧potF P (upd tk i (tk (oth out help (ps.getD k Psg.zero) i).toNat+(ps.getD k Psg.zero).ticks))+b2i true≤X∧(true=false→Q):=by
  have h:=I.step V hP hi (b:=(oth out help (ps.getD k Psg.zero) i).toNat) (by omega) hk (by omega) h0 hl
  have h8:b2i true=1:=rfl
  have h9:0≤b2i m:=by unfold b2i;split <;> omega
  exact ⟨h.1,by omega,fun e=>by cases e⟩
structure FarOk (P:Nat) (ps:List Psg) (out:Int) (help:Bool) (to:Nat) (tk:Nat→Int):Prop where
  to0:tk to=0
  low:∀ i,-1≤tk i
  walk:∀ i,i<P→0≤tk i→∃ l,Wk ps out help i to (tk i).toNat l
  fix:∀ i,i<P→∀ k,k<ps.length→FixAt ps out help tk i k
  sml:∀ i,i<P→tk i≤200
section
variable {P:Nat} {ps:List Psg} {out:Int} {help:Bool} {to:Nat} {tk tk':Nat→Int}
theorem FarI.done (I:FarI P ps out help to tk) (hP:P≤10) (h:∀ i,i<P→∀ k,k<ps.length→FixAt ps out help tk i k):FarOk P ps out help to tk:=
  ⟨I.to0,I.low,I.walk,h,fun i hi=>by have:=I.small hP hi;omega⟩
theorem FarOk.least (h:FarOk P ps out help to tk) (V:PsV P ps) {a c n:Nat} {l:List Nat} (W:Wk ps out help a c n l):a<P→c=to→0≤tk a∧tk a≤n:=by
  induction W with
  | nil a=>intro _ e;subst e;rw [h.to0];exact ⟨Int.le_refl 0,Int.le_refl 0⟩
  | @cons a b c n k l hk ho _ ih=>
    intro ha e
    have hb:=(uC V hk (a:=(a:Int)) (by rw [ho];omega)).2.1
    rw [ho] at hb
    have h1:=ih (by omega) e
    have h2:=h.fix a ha k hk b ho h1.1
    have:=(V k hk).2.2
    omega
theorem FarOk.unique (h:FarOk P ps out help to tk) (h':FarOk P ps out help to tk') (V:PsV P ps) {i:Nat} (hi:i<P):tk i=tk' i:=by
  have key:∀ {t t':Nat→Int},FarOk P ps out help to t→FarOk P ps out help to t'→0≤t i→0≤t' i∧t' i≤t i:=fun {t t'} H H' h0=>by
    obtain ⟨l,W⟩:=H.walk i hi h0
    have:=H'.least V W hi rfl
    omega
  have l1:=h.low i
  have l2:=h'.low i
  by_cases h0:0≤tk i
  · have h1:=key h h' h0
    have h2:=key h' h h1.1
    omega
  · by_cases h1:0≤tk' i
    · have:=key h' h h1;omega
    · omega
end
open Classical in
noncomputable def dst (P:Nat) (ps:List Psg) (out:Int) (help:Bool) (to:Nat) (i:Nat):Int:=if h:∃ tk,FarOk P ps out help to tk then (if i<P then Classical.choose h i else -1) else 0
section
variable {P:Nat} {ps:List Psg} {out:Int} {help:Bool} {to:Nat} {tk:Nat→Int}
end
def stepB (ps:List Psg) (out:Int) (help:Bool) (d:Nat→Int) (at_ k:Nat):Bool:=
  decide (0≤oth out help (ps.getD k Psg.zero) at_)&&(decide (0≤d (oth out help (ps.getD k Psg.zero) at_).toNat)&&decide (d (oth out help (ps.getD k Psg.zero) at_).toNat+(ps.getD k Psg.zero).ticks=d at_))
def stepK (ps:List Psg) (out:Int) (help:Bool) (d:Nat→Int) (at_:Nat):Nat:=fstB (stepB ps out help d at_) ps.length
def wayG (ps:List Psg) (out:Int) (help:Bool) (d:Nat→Int) (to:Nat):Nat→Nat→List Nat
  | 0,_=>[]
  | g+1,a=>if a=to then [] else stepK ps out help d a::wayG ps out help d to g (oth out help (ps.getD (stepK ps out help d a) Psg.zero) a).toNat
section
variable {P:Nat} {ps:List Psg} {out:Int} {help:Bool} {to:Nat} {d:Nat→Int}
theorem uY {g:Nat}:wayG ps out help d to g to=[]:=by
  cases g with
  | zero=>rfl
  | succ g=>unfold wayG;rw [if_pos rfl]
theorem uZ (V:PsV P ps) {a k:Nat} (hk:k<ps.length) (h:stepB ps out help d a k=true):∃ b:Nat,oth out help (ps.getD k Psg.zero) a=(b:Int)∧b<P∧0≤d b∧d b+(ps.getD k Psg.zero).ticks=d a∧1≤(ps.getD k Psg.zero).ticks:=by
  unfold stepB at h
  simp only [Bool.and_eq_true,decide_eq_true_eq] at h
  have h1:=uC V hk h.1
  have hV:=(V k hk).2.2
  exact ⟨(oth out help (ps.getD k Psg.zero) a).toNat,by omega,by omega,h.2.1,h.2.2,hV.1⟩
theorem FarOk.step_ex (h:FarOk P ps out help to d) (V:PsV P ps) {a:Nat} (ha:a<P) (h0:0≤d a) (hne:a≠to):∃ k,k<ps.length∧stepB ps out help d a k=true:=by
  obtain ⟨l,W⟩:=h.walk a ha h0
  generalize hn:(d a).toNat=n at W
  cases W with
  | nil=>exact absurd rfl hne
  | @cons _ b _ n2 k l2 hk ho W2=>
    have hb:=(uC V hk (a:=(a:Int)) (by rw [ho];omega)).2.1
    rw [ho] at hb
    have h1:=h.least V W2 (by omega) rfl
    have h2:=h.fix a ha k hk b ho h1.1
    have:=(V k hk).2.2
    refine ⟨k,hk,?_⟩
    unfold stepB
    simp only [Bool.and_eq_true,decide_eq_true_eq]
    rw [ho,Int.toNat_natCast]
    omega
theorem FarOk.stp (h:FarOk P ps out help to d) (V:PsV P ps) {a:Nat} (ha:a<P) (h0:0≤d a) (hne:a≠to):stepK ps out help d a<ps.length∧stepB ps out help d a (stepK ps out help d a)=true∧∀ q,q<stepK ps out help d a→stepB ps out help d a q=false:=by
  obtain ⟨k,hk,hs⟩:=h.step_ex V ha h0 hne
  have key:∀ n,(∃ k,k<n∧stepB ps out help d a k=true)→fstB (stepB ps out help d a) n<n∧stepB ps out help d a (fstB (stepB ps out help d a) n)=true∧∀ q,q<fstB (stepB ps out help d a) n→stepB ps out help d a q=false:=by
    intro n
    induction n with
    | zero=>rintro ⟨k,hk,_⟩;omega
    | succ n ih=>
      rintro ⟨k,hk,hs⟩
      by_cases he:∃ k,k<n∧stepB ps out help d a k=true
      · obtain ⟨h1,h2,h3⟩:=ih he
        rw [fstB,if_pos h1]
        exact ⟨by omega,h2,h3⟩
      · have hno:∀ q,q<n→stepB ps out help d a q=false:=fun q hq=>by
          cases hb:stepB ps out help d a q with
          | false=>rfl
          | true=>exact absurd ⟨q,hq,hb⟩ he
        have hkn:k=n:=by
          by_cases e:k<n
          · exact absurd ⟨k,e,hs⟩ he
          · omega
        subst hkn
        rw [fstB,zH hno,if_neg (by omega),if_pos hs]
        exact ⟨by omega,hs,hno⟩
  exact key _ ⟨k,hk,hs⟩
theorem wN {a k g:Nat} (hne:a≠to) (h:stepK ps out help d a=k):wayG ps out help d to (g+1) a=k::wayG ps out help d to g (oth out help (ps.getD k Psg.zero) a).toNat:=by
  rw [wayG,if_neg hne,h]
theorem FarOk.way (h:FarOk P ps out help to d) (V:PsV P ps):∀ (g a:Nat),a<P→0≤d a→d a≤g→Wk ps out help a to (d a).toNat (wayG ps out help d to g a):=by
  intro g
  induction g with
  | zero=>
    intro a ha h0 hg
    by_cases e:a=to
    · subst e;rw [uY,h.to0];exact Wk.nil _
    · obtain ⟨h1,h2,h3⟩:=h.stp V ha h0 e
      obtain ⟨b,hb,hbP,hb0,hbd,hbt⟩:=uZ V h1 h2
      omega
  | succ g ih=>
    intro a ha h0 hg
    by_cases e:a=to
    · subst e;rw [uY,h.to0];exact Wk.nil _
    · obtain ⟨h1,h2,h3⟩:=h.stp V ha h0 e
      obtain ⟨b,hb,hbP,hb0,hbd,hbt⟩:=uZ V h1 h2
      rw [wN e rfl,hb,Int.toNat_natCast]
      have:=Wk.cons h1 hb (ih b hbP hb0 (by omega))
      rw [show (d a).toNat=(ps.getD (stepK ps out help d a) Psg.zero).ticks.toNat+(d b).toNat by omega]
      exact this
end
def wcl (l:List Nat) (k _j:Nat):Value := .int .i64 ((l.getD k 0:Nat):Int)
theorem zJ {l:List Nat} {x:Nat} {v:Value} (hv:v = .int .i64 (x:Int)):∀ k j,k<l.length+1→j<1→capp l.length (wcl l) (fun k' j=>([[v]].getD k' []).getD j undef) k j=wcl (l++[x]) k j:=by
  intro k j hk hj
  have:j=0:=by omega
  subst this
  subst hv
  unfold capp wcl
  by_cases h:k<l.length
  · rw [if_pos h,List.getD_eq_getElem?_getD,List.getD_eq_getElem?_getD,List.getElem?_append_left h]
  · have e:k=l.length:=by omega
    subst e
    rw [if_neg h,Nat.sub_self,List.getD_eq_getElem?_getD,List.getElem?_append_right (Nat.le_refl _),Nat.sub_self]
    rfl
section
variable {ps:List Psg} {out:Int} {help:Bool} {d:Nat→Int} {p:Nat} {k:Nat}
theorem vA {q:Psg} {a:Int} (h:opn out help q=true):oth out help q a=othr q a:=by unfold oth;rw [if_neg (by rw [h];simp)]
theorem zK {q:Psg} {a:Int} (h:opn out help q=false):oth out help q a = -1:=by unfold oth;rw [if_pos h]
end
def machB (ps:List Psg) (out kind:Int) (m i:Nat):Bool:=(decide ((ps.getD i Psg.zero).kind=kind)&&decide ((ps.getD i Psg.zero).mach=(m:Int)))&&!decide (out/2^m%2=1)
def machR (ps:List Psg) (out kind:Int) (m:Nat):Nat→List Nat
  | 0=>[]
  | i+1=>machR ps out kind m i++(if machB ps out kind m i=true then [m] else [])
def machL (ps:List Psg) (out kind:Int):Nat→List Nat
  | 0=>[]
  | m+1=>machL ps out kind m++machR ps out kind m ps.length
section
variable {ps:List Psg} {out kind:Int}
theorem wO {m:Nat}:∀ i,(machR ps out kind m i).length≤i:=by
  intro i
  induction i with
  | zero=>exact Nat.le_refl 0
  | succ i ih=>rw [machR,List.length_append];split <;> simp <;> omega
theorem wP (h:ps.length≤24):∀ m,(machL ps out kind m).length≤24*m:=by
  intro m
  induction m with
  | zero=>exact Nat.le_refl 0
  | succ m ih=>rw [machL,List.length_append];have:=wO (ps:=ps) (out:=out) (kind:=kind) (m:=m) ps.length;omega
theorem oN {m:Nat}:∀ {n},(∀ i,i<n→machB ps out kind m i=false)→machR ps out kind m n=[]:=by
  intro n
  induction n with
  | zero=>intro _;rfl
  | succ n ih=>intro h;rw [machR,ih (fun i hi=>h i (by omega)),if_neg (by rw [h n (by omega)];simp)];rfl
theorem wQ {m i:Nat} (hb:machB ps out kind m i=true):∀ {n},i<n→(∀ j,j<n→j≠i→machB ps out kind m j=false)→machR ps out kind m n=[m]:=by
  intro n
  induction n with
  | zero=>intro h;omega
  | succ n ih=>
    intro hi h
    rw [machR]
    by_cases e:i=n
    · subst e
      rw [oN (fun j hj=>h j (by omega) (by omega)),if_pos hb]
      rfl
    · rw [ih (by omega) (fun j hj=>h j (by omega)),if_neg (by rw [h n (by omega) (by omega)];simp)]
      rfl
end
theorem Wk.mono' {ps:List Psg} {out out':Int} {help help':Bool} {a c n:Nat} {l:List Nat} (W:Wk ps out help a c n l):(∀ k,k ∈ l→k<ps.length→opn out help (ps.getD k Psg.zero)=true→opn out' help' (ps.getD k Psg.zero)=true)→Wk ps out' help' a c n l:=by
  induction W with
  | nil a=>exact fun _ => .nil a
  | @cons a b c n k l hk ho _ ih=>
    intro h
    have ho1:opn out help (ps.getD k Psg.zero)=true:=by
      cases hb:opn out help (ps.getD k Psg.zero) with
      | true=>rfl
      | false=>rw [zK hb] at ho;omega
    refine .cons hk ?_ (ih fun q hq=>h q (List.mem_cons_of_mem _ hq))
    rw [vA (h k (List.mem_cons_self ..) hk ho1),←vA ho1]
    exact ho
theorem Wk.mono {ps:List Psg} {out out':Int} {help help':Bool} (h:∀ k,k<ps.length→opn out help (ps.getD k Psg.zero)=true→opn out' help' (ps.getD k Psg.zero)=true) {a c n:Nat} {l:List Nat} (W:Wk ps out help a c n l):Wk ps out' help' a c n l:=W.mono' fun k _=>h k
def toI (l:List Nat):List Int:=l.map fun (n:Nat)=>(n:Int)
theorem mK (l:List Nat):(toI l).length=l.length:=List.length_map ..
theorem zL (l:List Nat) (k:Nat):(toI l).getD k 0=((l.getD k 0:Nat):Int):=by
  unfold toI
  rw [List.getD_eq_getElem?_getD,List.getD_eq_getElem?_getD,List.getElem?_map]
  cases l[k]? <;> rfl
theorem vB (l:List Nat):wcl l=icl (toI l):=by
  funext k j
  unfold wcl icl
  rw [zL]
theorem rU {out:Int} {m:Nat} (ho:0≤out∧out≤4095) (hm:m<12) (h:¬ out/2^m%2=1):0≤out+2^m∧out+2^m≤4095:=by
  obtain ⟨o,rfl⟩:=Int.eq_ofNat_of_zero_le ho.1
  have h1:o/2^m%2=0:=by
    have h2:((o/2^m%2:Nat):Int)≠1:=by push_cast;exact h
    omega
  have h2:o ||| 2^m<2^12:=Nat.or_lt_two_pow (by omega) (Nat.pow_lt_pow_right (by omega) hm)
  rw [xV h1,show (2:Nat)^12=4096 by decide] at h2
  have h3:((o+2^m:Nat):Int)=(o:Int)+2^m:=by push_cast;rfl
  have:(0:Int)<2^m:=Int.pow_pos (by decide)
  omega
end
section
theorem zM {b:Nat}:∀ k j,j<1→cput (fun _ _ => .int .i64 (-1)) b 0 (.int .i64 0) k j=lcl (fun v=>if v=b then 0 else -1) k j:=by
  intro k j hj
  have:j=0:=by omega
  subst this
  unfold cput lcl
  by_cases e:k=b <;> simp [e]
theorem Bw {L:Nat→Int} {p:Nat} {v:Int}:∀ k j,j<1→cput (lcl L) p 0 (.int .i64 v) k j=lcl (upd L p v) k j:=by
  intro k j hj
  have:j=0:=by omega
  subst this
  unfold cput lcl upd
  by_cases e:k=p <;> simp [e]
theorem Ep {q:Nat→Nat} {n ql h v:Nat} (hn:h+n=ql):∀ k,k<n+1→(if k=n then ((v:Nat):Int) else ((q (h+k):Nat):Int))=((upd q ql v (h+k):Nat):Int):=by
  intro k hk
  unfold upd
  by_cases e:k=n
  · rw [if_pos e,if_pos (by omega)]
  · rw [if_neg e,if_neg (by omega)]
theorem zN (N:Net) (r:RM) (mv:Nat→Nat→Mv) (nb:Nat) (pl tk:Int) (st1 st2:Value) (EA:Option Addr) (A:Nat→Option Addr) (c:Nat→Nat) (b x:Nat) (p t:Int) (w:World) (F:Nat→Prop) (S:St w F [boxM nb 146 [.int .i64 pl,st1,st2,.int .i64 tk,.slice EA N.k N.k,.int .i64 (b:Int),.int .i64 (x:Int)]] w) (hp : -100000≤p∧p≤100000) (ht:i64ok (pl*t)) (ht2:i64ok (pl*t+p)) :
    Calls Try.prog 74 [.pointer (some ⟨nb,0,none⟩),.int .i64 p,.int .i64 t].toArray w (Ret (fun u w'=>u = .int .i64 (pl*t+p)∧St w F [boxM nb 146 [.int .i64 pl,st1,st2,.int .i64 tk,.slice EA N.k N.k,.int .i64 (b:Int),.int .i64 (x:Int)]] w')):=by
 refine enter Try.func74 rfl Try.ntmps74 rfl (fun a H=>?_)
 skip
 refine sS H fun K1 k1=>sr 1 rfl<|sE ?_;clear H a;intro a H
 refine k1 _ ?_;clear k1 K1
 replace H:=H.keep [0,1,2] rfl
 refine sS H fun K2 k2=>sr 2 rfl<|sf yC rfl<|sf eE rfl<|sl S 0 aE G G G<|sr 1 rfl<|sd (mL G G (ht))<|sr 1 rfl<|sd (aH G G (ht2))<|sr 1 rfl<|sE ?_;clear H a;intro a H
 refine k2 _ ?_;clear k2 K2
 refine wp_ret ?_
 refine ret1 (fn:=Try.f74) rfl H rfl ?_
 exact ⟨rfl,(S.sel [0] G G)⟩
theorem uD (N:Net) (r:RM) (mv:Nat→Nat→Mv) (nb:Nat) (pl tk:Int) (st1 st2:Value) (EA:Option Addr) (A:Nat→Option Addr) (c:Nat→Nat) (b x:Nat) (w:World) (F:Nat→Prop) (S:St w F [boxM nb 146 [.int .i64 pl,st1,st2,.int .i64 tk,.slice EA N.k N.k,.int .i64 (b:Int),.int .i64 (x:Int)],ownM 194 1 EA N.k N.k (hdc A N.n c),ragM 196 7 (fun q=>q<N.k) A N.n c (edgeC N r mv)] w) (W:N.Wf) (hO:Ok N r 2199023255552) (hb:b<N.k) (hx:x<N.k) (hbx:b≠x) (hk:N.k≤1000000) :
    Calls Try.prog 76 [.pointer (some ⟨nb,0,none⟩)].toArray w (Ret (fun u w'=>∃ LA L,u = .slice LA N.k N.k∧LevOk N r b L∧St w F [ownM 3 1 LA N.k N.k (lcl L),boxM nb 146 [.int .i64 pl,st1,st2,.int .i64 tk,.slice EA N.k N.k,.int .i64 (b:Int),.int .i64 (x:Int)],ownM 194 1 EA N.k N.k (hdc A N.n c),ragM 196 7 (fun q=>q<N.k) A N.n c (edgeC N r mv)] w')):=by
 refine enter Try.func76 rfl Try.ntmps76 rfl (fun a H=>?_)
 skip
 refine sS H fun K1 k1=>sr 1 rfl<|sE ?_;clear H a;intro a H
 refine k1 _ ?_;clear k1 K1
 refine seq_list fun K2 k2=>?_
 refine bB H rfl S aM bC eZ G G G G G G G G G ?_;clear H a S;intro A1 _ a hA1 S H
 refine ls 5 H<|sr 2 rfl<|sf dG rfl<|sl S 1 eD G G G<|sL eP rfl<|sE ?_;clear H a;intro a H
 refine aA H G G Try.func103 G G (mB _ _ (-1) N.k _ ((ownM.inS S (i:=0) rfl).congr (fun k j hk hj=>uU hk hj)) (by omega) (by omega)) ?_;clear H a
 rintro _ _ a ⟨lb,rfl,S2⟩ H
 replace S:=S.call S2;clear S2
 refine ls 1 H<|sr 1 rfl<|sE ?_;clear H a;intro a H
 refine k2 _ _ ?_;clear k2 K2
 replace H:=H.keep [0,3] rfl
 refine seq_list fun K3 k3=>?_
 refine ls 6 H<|sr 3 rfl<|sf kS rfl<|sl S 2 aE G G G<|si aM bC G G (ownM.adr S (i:=0) rfl (by omega)) (by omega)<|sE ?_;clear H a;intro a H
 refine bP H S (i:=0) G G G (by omega) (by omega) bC rfl ?_
 clear H a S;intro _ a S H
 replace S:=S.recell (i:=0) rfl (cell':=lcl (fun v=>if v=b then 0 else -1)) (fun k j hk hj=>zM k j hj)
 refine k3 _ _ ?_;clear k3 K3
 replace H:=H.keep [0,3] rfl
 refine seq_list fun K4 k4=>?_
 refine ls 4 H<|sr 2 rfl<|sf kS rfl<|sl S 2 aE G G G<|sE ?_;clear H a;intro a H
 refine bB H rfl S aM bC eZ G G G G G G G G G ?_;clear H a S;intro A2 _ a hA2 S H
 replace S:=queM.of_own S (i:=0) rfl (f:=fun i=>(((fun _=>b:Nat→Nat) (0+i):Nat):Int)) (by omega) (fun k hk=>uU hk (by omega))
 refine ls 1 H<|sr 1 rfl<|sE ?_;clear H a;intro a H
 refine k4 _ _ ?_;clear k4 K4
 refine wp_seq_k fun K5 k5=>?_
 refine wp_block ?_
 refine loop_st (X:=(Nat→Int)×(Nat→Nat)×Nat×Nat×Option Addr×Nat) (R0:=_) [0,3] H rfl (fun ⟨L,qf,ql,h,QA,qc⟩=>[(4,.slice QA (ql-h) qc)]) (fun ⟨L,qf,ql,h,QA,qc⟩=>[ownM 3 1 (some ⟨lb,0,none⟩) N.k N.k (lcl L),queM 3 QA (ql-h) qc (fun i=>((qf (h+i):Nat):Int))]) (fun g ⟨L,qf,ql,h,QA,qc⟩=>Bfs N r b L qf ql h 0∧h≤ql∧g+h=N.k) (N.k) (fun v=>if v=b then 0 else -1,fun _=>b,1,0,_,_) ?_ (S.sel [1,0,2,3,4,5] G G) (H.keep [4,0,3] rfl) ?_
 · exact ⟨Bfs.start hb (fun _ _=>rfl) rfl,by omega,by omega⟩
 clear H S a
 intro g1 x1 a w1 hp S H K6 k6
 obtain ⟨L,qf,ql,h,QA,qc⟩:=x1
 dsimp only at hp S H
 obtain ⟨hB,hhq,hgh⟩:=hp
 have hql:=hB.le
 refine wp_seq_k fun K7 k7=>?_
 refine sS H fun K8 k8=>sr 1 rfl<|sL aM rfl<|sr 1 rfl<|sE ?_;clear H a;intro a H
 refine k8 _ ?_;clear k8 K8
 refine condL H rfl (fun hc1=>?_) (fun hc1=>?_)
 ·skip
  refine wp_skip ?_
  refine k7 _ _ ?_
  refine wp_block ?_
  have hqk:qf h<N.k:=(hB.mem h (by omega)).1
  refine sS H fun K9 k9=>sr 1 rfl<|sI aM bC G G (queM.adr S (i:=1) rfl) (by omega) (by omega)<|sd ((aF aE rfl (queM.rd S (i:=1) (k:=0) rfl (by omega)):Does _ _ _ _ (.int .i64 (qf h:Int))))<|sr 1 rfl<|sE ?_;clear H a;intro a H
  refine k9 _ ?_;clear k9 K9
  have hqle:=queM.le S (i:=1) rfl
  replace H:=H.keep [0,3,4,5] rfl
  refine sS H fun K10 k10=>sr 1 rfl<|sd (iK aM bC rfl (lo:=1) (hi:=ql-h) (.inr ⟨_,rfl,_,rfl⟩) (.inl ⟨rfl,rfl⟩) (by omega) (by omega))<|sr 1 rfl<|sE ?_;clear H a;intro a H
  refine k10 _ ?_;clear k10 K10
  replace S:=queM.cut1 S (i:=1) rfl (by omega)
  replace H:=H.keep [0,3,4,5] rfl
  refine sS H fun K11 k11=>sr 2 rfl<|sf dG rfl<|sl S 3 eD G G G<|sr 1 rfl<|si eP eO G G (ownM.adr S (i:=4) rfl (by omega)) (by omega)<|slm gO rfl (ownM.rd S (i:=4) rfl (by omega) (by omega))<|sL fT rfl<|sr 1 rfl<|sE ?_;clear H a;intro a H
  refine k11 _ ?_;clear k11 K11
  refine wp_block ?_
  replace S:=queM.congr S (i:=1) rfl (f':=fun i=>((qf (h+1+i):Nat):Int)) (fun k hk=>by (try dsimp only);rw [show h+1+k=h+(k+1) by omega])
  rw [show ql-h-1=ql-(h+1) by omega] at H S
  refine loop_st (X:=(Nat→Int)×(Nat→Nat)×Nat×Nat×Option Addr×Nat) (R0:=_) [0,3,5,40,41] H rfl (fun ⟨L2,qf2,ql2,J,QA2,qc2⟩=>[(4,.slice QA2 (ql2-(h+1)) qc2),(42,.int .i64 (J:Int))]) (fun ⟨L2,qf2,ql2,J,QA2,qc2⟩=>[ownM 3 1 (some ⟨lb,0,none⟩) N.k N.k (lcl L2),queM 3 QA2 (ql2-(h+1)) qc2 (fun i=>((qf2 (h+1+i):Nat):Int))]) (fun g ⟨L2,qf2,ql2,J,QA2,qc2⟩=>Bfs N r b L2 qf2 ql2 h J∧h<ql2∧J≤N.n (qf h)∧g+J=N.n (qf h)∧qf2 h=qf h) (N.n (qf h)) (L,qf,ql,0,_,_) ?_ (S.sel [0,1,2,3,4,5] G G) (H.keep [4,42,0,3,5,40,41] rfl) ?_
  · exact ⟨hB,by omega,by omega,by omega,rfl⟩
  clear H S a
  intro g2 x2 a w2 hp S H K12 k12
  obtain ⟨L2,qf2,ql2,J,QA2,qc2⟩:=x2
  dsimp only at hp S H
  obtain ⟨hB2,hhq2,hJn,hgJ,hqe⟩:=hp
  have hql2:=hB2.le
  have hr2:=hB2.low
  refine sS H fun K13 k13=>sr 1 rfl<|sE ?_;clear H a;intro a H
  refine k13 _ ?_;clear k13 K13
  refine wp_seq_k fun K14 k14=>?_
  refine condL H rfl (fun hc2=>?_) (fun hc2=>?_)
  ·skip
   refine wp_skip ?_
   refine k14 _ _ ?_
   refine wp_seq_k fun K15 k15=>?_
   refine wp_block ?_
   have htk:=W.to_lt (qf h) hqk J (by omega)
   have hnl:=ragM.le S (i:=5) rfl hqk
   have hmx:maxLen=9223372036854775807:=rfl
   refine seq_list fun K16 k16=>?_
   refine ls 2 H<|si fT gW G G (ragM.adr S (i:=5) rfl hqk (by omega)) (by omega)<|sd ((oW Az gW rfl (ragM.pull S (i:=5) rfl hqk) (i:=0) rfl (by omega) (by omega)))<|sE ?_;clear H a;intro a H
   refine aI H rfl S lN ?_;clear H a S;intro b7 _ a hb7 hbw7 S H
   refine aC H S (i:=0) G G G G gW G G ?_
   clear H a S;intro _ a S H
   refine k16 _ _ ?_;clear k16 K16
   replace H:=H.keep [0,3,4,5,7,40,41,42] rfl
   refine sS H fun K17 k17=>sf gI rfl<|sl S 0 aE G G G<|sr 2 rfl<|sg 6 3 49 55 true G G (fun hg4=>sy hg4<|sr 1 rfl<|sy hg4<|sf iB rfl<|sy hg4<|sl S 0 aE G G G<|sy hg4<|si aM bC G G (ownM.adr S (i:=1) rfl (by omega)) (by omega)<|sy hg4<|slm aE rfl (ownM.rd S (i:=1) rfl (by omega) (by omega))<|sy hg4<|sr 1 rfl<|sz 6 G G G)<|sa G G G<|sE ?_;clear H a;intro a H
   refine k17 _ ?_;clear k17 K17
   refine cond_ H rfl (fun hc3=>?_) (fun hc3=>?_)
   ·skip
    try simp only [o1,o2,o3,o4,o5,o6,o7,o8,o9,oa] at hc3
    have hLu:=(hB2.mem h (by omega)).2
    rw [hqe] at hLu
    replace H:=H.keep [0,3,4,5,7,40,41,42] rfl
    refine mR 9 (by kernel_rfl) (by kernel_rfl) fun K18 k18=>?_
    replace S:=S.drew
    refine sF H<|sr 1 rfl<|sf iB rfl<|sl S 0 aE G G G<|sr 2 rfl<|si aM bC G G (ownM.adr S (i:=1) rfl (by omega)) (by omega)<|slm aE rfl (ownM.rd S (i:=1) rfl (by omega) (by omega))<|sd (aH G G (by unfold i64ok;omega))<|si aM bC G G (ownM.adr S (i:=1) rfl (by omega)) (by omega)<|sE ?_;clear H a;intro a H
    refine bP H S (i:=1) G G G htk (by omega) bC rfl ?_
    clear H a S;intro _ a S H
    replace S:=S.recell (i:=1) rfl (cell':=lcl (upd L2 (N.to (qf h) J) (L2 (qf h)+1))) (fun k j hk hj=>Bw k j hj)
    refine k18 _ _ ?_;clear k18 K18
    replace H:=H.keep [0,3,4,5,7,40,41,42] rfl
    refine one_list ?_
    refine ls 3 H<|sr 1 rfl<|sf iB rfl<|sl S 0 aE G G G<|sE ?_;clear H a;intro a H
    refine bB H rfl S aM bC eZ G G G G G G G G G ?_;clear H a S;intro A3 _ a hA3 S H
    refine vP H rfl S aM bC eZ mA rfl (i:=3) G G G (ownM.inS S (i:=0) rfl) (v:=((N.to (qf h) J:Nat):Int)) rfl (by omega) (by omega) ?_;clear H a S;intro QA3 qc3 _ a S H
    replace S:=queM.congr S (i:=3) rfl (f':=fun i=>((upd qf2 ql2 (N.to (qf h) J) (h+1+i):Nat):Int)) (fun k hk=>Ep (by omega) k hk)
    rw [show ql2-(h+1)+1=ql2+1-(h+1) by omega] at H S
    refine ls 1 H<|sr 1 rfl<|sE ?_;clear H a;intro a H
    refine k15 _ _ ?_
    refine sO H<|sd (aH G G (by unfold i64ok;omega))<|sr 1 rfl<|sE ?_;clear H a;intro a H
    exact k12 (g2-1) (_,_,_,J+1,_,_) a _ (by omega) (by first|exact ⟨(by have:=hB2.visit W hhq2 (by rw [hqe];omega) (by rw [hqe];exact hc3.1) (by rw [hqe];exact hc3.2);rw [hqe] at this;exact this),by omega,by omega,by omega,by rw [bI _ _ (by omega)];exact hqe⟩|exact ⟨hB2.skip (by rw [hqe];intro h9;omega),hhq2,by omega,by omega,hqe⟩) (S.sel [2,3,4,5,6,7] G G) (H.keep [4,42,0,3,5,40,41] rfl)
   try simp only [o1,o2,o3,o4,o5,o6,o7,o8,o9,oa] at hc3
   refine wp_skip ?_
   refine k15 _ _ ?_
   replace H:=H.keep [0,3,4,5,40,41,42] rfl
   refine sO H<|sd (aH G G (by unfold i64ok;omega))<|sr 1 rfl<|sE ?_;clear H a;intro a H
   exact k12 (g2-1) (_,_,_,J+1,_,_) a _ (by omega) (by first|exact ⟨(by have:=hB2.visit W hhq2 (by rw [hqe];omega) (by rw [hqe];exact hc3.1) (by rw [hqe];exact hc3.2);rw [hqe] at this;exact this),by omega,by omega,by omega,by rw [bI _ _ (by omega)];exact hqe⟩|exact ⟨hB2.skip (by rw [hqe];intro h9;omega),hhq2,by omega,by omega,hqe⟩) (S.sel [1,2,3,4,5,6] G G) (H.keep [4,42,0,3,5,40,41] rfl)
  refine wp_exit ?_
  exact k6 (g1-1) (L2,qf2,ql2,h+1,QA2,qc2) a _ (by omega) (⟨hB2.next (by rw [hqe];omega),by omega,by omega⟩) (S.sel [0,1,2,3,4,5] G G) (H.keep [4,0,3] rfl)
 refine wp_exit ?_
 refine k5 _ _ ?_
 refine sS H fun K22 k22=>sr 2 rfl<|sE ?_;clear H a;intro a H
 refine k22 _ ?_;clear k22 K22
 refine wp_ret ?_
 refine ret1 (fn:=Try.f76) rfl H rfl ?_
 exact ⟨_,L,rfl,hB.done (by omega),(S.sel [0,3,4,5] G G)⟩
end
section
theorem nJ {N:Net} {r:RM} {mv:Nat→Nat→Mv} {p q:Nat} {v:Int}:∀ i k j,k<N.n i→j<7→upd (edgeC N r mv) p (cput (edgeC N r mv p) q (0+1) (.int .i64 v)) i k j=edgeC N (put2 r p q v) mv i k j:=by
  intro i k j _ _
  rw [show (0+1:Nat)=1 from rfl,wF]
theorem wR {n:Nat→Nat} {p v:Nat} {x:Int} (h:x=(v:Int)):∀ k j,j<1→cput (ncl n) p 0 (.int .i64 x) k j=ncl (upd n p v) k j:=by
  intro k j hj
  have:j=0:=by omega
  subst this
  rw [Br h]
  exact if_pos rfl
theorem PushI.same {N:Net} {L:Nat→Int} {x u:Nat} {r r1:RM} {nx nx1:Nat→Nat} {j:Nat} (I:PushI N L x u r nx 0 r1 nx1) (hu:u<N.k) (hj:j<N.n u) (h:¬ (0<r1 u j∧L (N.to u j)=L u+1)) (hr:0<r u j) (hl:L (N.to u j)=L u+1):False:=by
  have:=(I.zero rfl).1 u hu j hj
  exact h ⟨by omega,hl⟩
def PushC (N:Net) (mv:Nat→Nat→Mv) (nb:Nat) (pl tk:Int) (st1 st2:Value) (EA:Option Addr) (A:Nat→Option Addr) (c:Nat→Nat) (b x:Nat) (L:Nat→Int) (LA:Option Addr) (lc:Nat) (NA:Option Addr) (d:Int):Prop:=
  ∀ (u:Nat) (most:Int) (r:RM) (nx:Nat→Nat) (w:World) (F:Nat→Prop) (S:St w F [boxM nb 146 [.int .i64 pl,st1,st2,.int .i64 tk,.slice EA N.k N.k,.int .i64 (b:Int),.int .i64 (x:Int)],ownM 194 1 EA N.k N.k (hdc A N.n c),ragM 196 7 (fun q=>q<N.k) A N.n c (edgeC N r mv),ownM 3 1 NA N.k N.k (ncl nx)] w) (hl:InS w F 1 LA N.k (lcl L)) (hO:Ok N r 2199023255552) (hn:∀ i,i<N.k→nx i≤N.n i) (hu:u<N.k) (hm:0≤most∧most≤2199023255552) (_:d≤L u),Calls Try.prog 77 [.pointer (some ⟨nb,0,none⟩),.int .i64 (u:Int),.int .i64 most,.slice LA N.k lc,.slice NA N.k N.k].toArray w (Ret (fun v w'=>∃ m r' nx',v = .int .i64 m∧PushR N L x u r nx most m r' nx'∧St w F [boxM nb 146 [.int .i64 pl,st1,st2,.int .i64 tk,.slice EA N.k N.k,.int .i64 (b:Int),.int .i64 (x:Int)],ownM 194 1 EA N.k N.k (hdc A N.n c),ragM 196 7 (fun q=>q<N.k) A N.n c (edgeC N r' mv),ownM 3 1 NA N.k N.k (ncl nx')] w'))
theorem wS (N:Net) (r:RM) (mv:Nat→Nat→Mv) (nb:Nat) (pl tk:Int) (st1 st2:Value) (EA:Option Addr) (A:Nat→Option Addr) (c:Nat→Nat) (b x:Nat) (L:Nat→Int) (LA:Option Addr) (lc:Nat) (NA:Option Addr) (d:Int) (u:Nat) (most:Int) (nx:Nat→Nat) (W:N.Wf) (hb:b<N.k) (hx:x<N.k) (hk:N.k≤1000000) (hL:∀ v,v<N.k → -1≤L v∧L v<N.k) (w:World) (F:Nat→Prop) (S:St w F [boxM nb 146 [.int .i64 pl,st1,st2,.int .i64 tk,.slice EA N.k N.k,.int .i64 (b:Int),.int .i64 (x:Int)],ownM 194 1 EA N.k N.k (hdc A N.n c),ragM 196 7 (fun q=>q<N.k) A N.n c (edgeC N r mv),ownM 3 1 NA N.k N.k (ncl nx)] w) (hl:InS w F 1 LA N.k (lcl L)) (hO:Ok N r 2199023255552) (hn:∀ i,i<N.k→nx i≤N.n i) (hu:u<N.k) (hm:0≤most∧most≤2199023255552) (hd:d≤L u+1) (ih:PushC N mv nb pl tk st1 st2 EA A c b x L LA lc NA d) :
    Calls Try.prog 77 [.pointer (some ⟨nb,0,none⟩),.int .i64 (u:Int),.int .i64 most,.slice LA N.k lc,.slice NA N.k N.k].toArray w (Ret (fun v w'=>∃ m r' nx',v = .int .i64 m∧PushR N L x u r nx most m r' nx'∧St w F [boxM nb 146 [.int .i64 pl,st1,st2,.int .i64 tk,.slice EA N.k N.k,.int .i64 (b:Int),.int .i64 (x:Int)],ownM 194 1 EA N.k N.k (hdc A N.n c),ragM 196 7 (fun q=>q<N.k) A N.n c (edgeC N r' mv),ownM 3 1 NA N.k N.k (ncl nx')] w')):=by
 refine enter Try.func77 rfl Try.ntmps77 rfl (fun a H=>?_)
 skip
 refine sS H fun K1 k1=>sr 1 rfl<|sE ?_;clear H a;intro a H
 refine k1 _ ?_;clear k1 K1
 refine wp_seq_k fun K2 k2=>?_
 refine sS H fun K3 k3=>sr 3 rfl<|sf nC rfl<|sl S 0 aE G G G<|sr 1 rfl<|sE ?_;clear H a;intro a H
 refine k3 _ ?_;clear k3 K3
 refine condE H rfl (fun hc1=>?_) (fun hc1=>?_)
 ·skip
  refine sS H fun K4 k4=>sr 2 rfl<|sE ?_;clear H a;intro a H
  refine k4 _ ?_;clear k4 K4
  refine wp_ret ?_
  refine ret1 (fn:=Try.f77) rfl H rfl ?_
  have hux:u=x:=by omega
  subst hux
  exact ⟨_,r,nx,rfl,PushR.here hO hn hm.1,(S.sel [0,1,2,3] G G)⟩
 refine wp_skip ?_
 refine k2 _ _ ?_
 replace H:=H.keep [0,1,2,3,4] rfl
 refine sS H fun K5 k5=>sr 1 rfl<|sE ?_;clear H a;intro a H
 refine k5 _ ?_;clear k5 K5
 refine wp_seq_k fun K6 k6=>?_
 refine wp_block ?_
 refine loop_st (X:=Int×RM×(Nat→Nat)) (R0:=_) [0,1,2,3,4] H rfl (fun ⟨sent,r1,nx1⟩=>[(11,.int .i64 sent)]) (fun ⟨sent,r1,nx1⟩=>[ragM 196 7 (fun q=>q<N.k) A N.n c (edgeC N r1 mv),ownM 3 1 NA N.k N.k (ncl nx1)]) (fun g ⟨sent,r1,nx1⟩=>PushI N L x u r nx sent r1 nx1∧0≤sent∧sent≤most∧g+nx1 u=N.n u) (N.n u-nx u) (0,r,nx) ?_ (S.sel [2,3,0,1] G G) (H.keep [11,0,1,2,3,4] rfl) ?_
 · exact ⟨PushI.start hO hn,by omega,by omega,by have:=hn u hu;omega⟩
 clear H S a
 intro g1 x1 a w1 hp S H K7 k7
 obtain ⟨sent,r1,nx1⟩:=x1
 dsimp only at hp S H
 obtain ⟨hI,h0s,hsm,hgj⟩:=hp
 have hO1:=hI.fl.ok hO
 have hxn:=(hI.nxl u hu).2
 refine wp_seq_k fun K8 k8=>?_
 replace H:=H.keep [0,1,2,3,4,11] rfl
 replace S:=S.drew
 refine sD H fun K9 k9=>sr 2 rfl<|si aM bC G G (ownM.adr S (i:=1) rfl (by omega)) (by omega)<|slm aE rfl (ownM.rd S (i:=1) rfl (by omega) (by omega))<|sr 2 rfl<|sf dG rfl<|sl S 2 eD G G G<|sr 1 rfl<|si eP eO G G (ownM.adr S (i:=3) rfl (by omega)) (by omega)<|slm gO rfl (ownM.rd S (i:=3) rfl (by omega) (by omega))<|sL fT rfl<|sr 1 rfl<|sE ?_;clear H a;intro a H
 refine k9 _ ?_;clear k9 K9
 refine condL H rfl (fun hc2=>?_) (fun hc2=>?_)
 ·skip
  refine wp_skip ?_
  refine k8 _ _ ?_
  refine wp_seq_k fun K10 k10=>?_
  refine wp_block ?_
  obtain ⟨j,hjd⟩:∃ j,j=nx1 u:=⟨_,rfl⟩
  have hjn:j<N.n u:=by omega
  have htk:=W.to_lt u hu j hjn
  have hbk:=W.bk_lt u hu j hjn
  have hru0:=hO1.nn u hu j hjn;have hrl0:=hO1.le W hu hjn
  have hLu:=hL u hu;have hLt:=hL _ htk
  have hnl:=ragM.le S (i:=0) rfl hu
  have hmx:maxLen=9223372036854775807:=rfl
  replace H:=H.keep [0,1,2,3,4,11] rfl
  replace S:=S.drew
  refine sD H fun K11 k11=>sr 2 rfl<|sf dG rfl<|sl S 2 eD G G G<|sr 1 rfl<|si eP eO G G (ownM.adr S (i:=3) rfl (by omega)) (by omega)<|slm gO rfl (ownM.rd S (i:=3) rfl (by omega) (by omega))<|sr 2 rfl<|si aM bC G G (ownM.adr S (i:=1) rfl (by omega)) (by omega)<|sd ((aF aE rfl (ownM.rd S (i:=1) rfl (by omega) (by omega))).to (v' := .int .i64 (j:Int)) (by rw [hjd];rfl))<|si fT gW G G (ragM.adr S (i:=0) (p:=u) rfl hu (by omega)) (by omega)<|sr 1 rfl<|sE ?_;clear H a;intro a H
  refine k11 _ ?_;clear k11 K11
  have SR:=(S.sel [2,3] G G)
  refine meet_sr (X:=Int×RM×(Nat→Nat)) [0,1,2,3,4] H rfl (fun ⟨sent2,r2,nx2⟩=>[(11,.int .i64 sent2)]) (fun ⟨sent2,r2,nx2⟩=>[ragM 196 7 (fun q=>q<N.k) A N.n c (edgeC N r2 mv),ownM 3 1 NA N.k N.k (ncl nx2)]) (fun ⟨sent2,r2,nx2⟩=>PushI N L x u r nx sent2 r2 nx2∧0≤sent2∧sent2≤most∧nx2 u=j∧(sent2≠most→sent2=0→Dead N r L x nx→0<r u j→L (N.to u j)=L u+1→¬ Path N r L x (N.to u j))) SR (fun K13 k13=>?_) ?_
  ·skip
   replace H:=H.keep [0,1,2,3,4,11,12] rfl
   replace S:=S.drew
   refine sD H fun K14 k14=>sr 2 rfl<|sp gI rfl<|slm aE rfl (ragM.rd S (i:=0) (p:=u) rfl hu (by omega) (by omega))<|sr 2 rfl<|sg 13 5 57 70 true G G (fun hg6=>sy hg6<|sr 1 rfl<|sy hg6<|sr 1 rfl<|sy hg6<|sr 1 rfl<|sy hg6<|sp iB rfl<|sy hg6<|slm aE rfl (ragM.rd S (i:=0) (p:=u) rfl hu (by omega) (by omega))<|sy hg6<|si aM bC G G (hl.adr (by omega)) (by omega)<|sy hg6<|slm aE rfl (hl.rd S (by omega) (by omega))<|sy hg6<|sr 1 rfl<|sy hg6<|sr 1 rfl<|sy hg6<|si aM bC G G (hl.adr (by omega)) (by omega)<|sy hg6<|slm aE rfl (hl.rd S (by omega) (by omega))<|sy hg6<|sd (aH G G (by unfold i64ok;omega))<|sy hg6<|sr 1 rfl<|sz 13 G G G)<|sa G G G<|sE ?_;clear H a;intro a H
   refine k14 _ ?_;clear k14 K14
   refine cond_ H rfl (fun hc3=>?_) (fun hc3=>?_)
   ·skip
    try simp only [o1,o2,o3,o4,o5,o6,o7,o8,o9,oa] at hc3
    replace H:=H.keep [0,1,2,3,4,11,12] rfl
    refine mR 15 (by kernel_rfl) (by kernel_rfl) fun K15 k15=>?_
    replace S:=S.drew
    refine sF H<|sr 3 rfl<|sp iB rfl<|slm aE rfl (ragM.rd S (i:=0) (p:=u) rfl hu (by omega) (by omega))<|sr 2 rfl<|sd (cH G G (by unfold i64ok;omega))<|sr 2 rfl<|sp gI rfl<|slm aE rfl (ragM.rd S (i:=0) (p:=u) rfl hu (by omega) (by omega))<|sd (xG G G)<|sr 2 rfl<|sE ?_;clear H a;intro a H
    have S1:=(S.sel [2,3,0,1] G G)
    refine aA H G G Try.func77 G G (ih (N.to u j) (min (most-sent) (r1 u j)) r1 nx1 _ _ S1.startR (hl.nowR S1) hO1 (fun i hi=>(hI.nxl i hi).2) htk (by omega) (by omega)) ?_;clear H a
    rintro _ _ a ⟨m2,r2,nx2,rfl,hK,S2⟩ H
    replace S:=(S.sel [2,3,0,1] G G).callR (M:=[_,_,_,_]) S2;clear S1 S2
    have hru:r2 u j=r1 u j:=hK.low u hu j hjn (by omega)
    have hO2:=hK.fl.ok hO1
    have hkm:=hK.ml;have hk0:=hK.m0
    have hr2n:=hO2.nn _ htk _ hbk;have hr2l:=hO2.le W htk hbk
    have hpn:put2 r2 u j (r2 u j-m2) (N.to u j) (N.back u j)=r2 (N.to u j) (N.back u j):=fX (fun h=>W.to_ne u hu j hjn h.1)
    have hce:put2 (put2 r2 u j (r2 u j-m2)) (N.to u j) (N.back u j) (put2 r2 u j (r2 u j-m2) (N.to u j) (N.back u j)+m2)=along N r2 u j m2:=by rw [hpn];rfl
    have hE:=hI.edge W hu hjn hc3.2 h0s hK
    refine ls 1 H<|sr 1 rfl<|sE ?_;clear H a;intro a H
    refine k15 _ _ ?_;clear k15 K15
    replace H:=H.keep [0,1,2,3,4,11,12,13] rfl
    refine seq_list fun K16 k16=>?_
    refine ls 8 H<|sr 2 rfl<|sp gI rfl<|slm aE rfl (ragM.rd S (i:=2) (p:=u) rfl hu (by omega) (by omega))<|sr 1 rfl<|sd (cH G G (by unfold i64ok;omega))<|sr 1 rfl<|sp gI rfl<|sE ?_;clear H a;intro a H
    refine iU H S (i:=2) (p:=u) G G G hu hjn (by omega) bC rfl ?_;clear H a S;intro _ a S H
    replace S:=ragM.congr S (i:=2) rfl (cell':=edgeC N (put2 r2 u j (r2 u j-m2)) mv) (fun _ _=>rfl) (fun _ _=>rfl) (fun _ _=>rfl) (fun i _=>nJ i)
    refine k16 _ _ ?_;clear k16 K16
    replace H:=H.keep [0,1,2,3,4,11,12,13] rfl
    refine mR 21 (by kernel_rfl) (by kernel_rfl) fun K17 k17=>?_
    replace S:=S.drew
    refine sF H<|sr 2 rfl<|sf dG rfl<|sl S 0 eD G G G<|sr 2 rfl<|sp iB rfl<|slm aE rfl (ragM.rd S (i:=2) (p:=u) rfl hu (by omega) (by omega))<|si eP eO G G (ownM.adr S (i:=1) rfl (by omega)) (by omega)<|slm gO rfl (ownM.rd S (i:=1) rfl (by omega) (by omega))<|sr 2 rfl<|sp yG rfl<|slm aE rfl (ragM.rd S (i:=2) (p:=u) rfl hu (by omega) (by omega))<|si fT gW G G (ragM.adr S (i:=2) (p:=N.to u j) rfl htk (by omega)) (by omega)<|sp gI rfl<|slm aE rfl (ragM.rd S (i:=2) (p:=N.to u j) rfl htk hbk (by omega))<|sr 1 rfl<|sd (aH G G (by rw [hpn];unfold i64ok;omega))<|si fT gW G G (ragM.adr S (i:=2) (p:=N.to u j) rfl htk (by omega)) (by omega)<|sp gI rfl<|sE ?_;clear H a;intro a H
    refine iU H S (i:=2) (p:=N.to u j) G G G htk hbk (by omega) bC rfl ?_;clear H a S;intro _ a S H
    replace S:=ragM.congr S (i:=2) rfl (cell':=edgeC N (along N r2 u j m2) mv) (fun _ _=>rfl) (fun _ _=>rfl) (fun _ _=>rfl) (fun i _ k j hk hj=>by rw [nJ i k j hk hj];exact congrArg (fun r=>edgeC N r mv i k j) hce)
    refine k17 _ _ ?_;clear k17 K17
    replace H:=H.keep [0,1,2,3,4,11,13] rfl
    refine sO H<|sr 2 rfl<|sd (aH G G (by unfold i64ok;omega))<|sr 1 rfl<|sE ?_;clear H a;intro a H
    exact k13 (sent+m2,along N r2 u j m2,nx2) a _ (⟨hE,by omega,by omega,by rw [hK.nlow u hu (by omega)];omega,fun h1 h2 hd h3 h4=>(by
      have h5:sent=0:=by omega
      obtain ⟨e1,e2⟩:=hI.zero h5
      have h6:=hK.none (by omega) (jZ W e1 (e2 hd)) (by omega)
      exact fun hp=>h6 (mX W (fun i hi q hq=>(e1 i hi q hq).symm) hp htk))⟩) (S.sel [2,3,0,1] G G) (H.keep [11,0,1,2,3,4] rfl)
   try simp only [o1,o2,o3,o4,o5,o6,o7,o8,o9,oa] at hc3
   refine wp_skip ?_
   exact k13 (sent,r1,nx1) a _ (⟨hI,h0s,hsm,hjd.symm,fun h1 h2 hd h3 h4=>by subst h2;exact (hI.same hu hjn (by intro h9;omega) h3 h4).elim⟩) (S.sel [0,1,2,3] G G) (H.keep [11,0,1,2,3,4] rfl)
  clear SR H S a
  intro xm a wm hp S H
  obtain ⟨sent2,r2,nx2⟩:=xm
  obtain ⟨hI2,h0s2,hsm2,hnj,hp2⟩:=hp
  refine sS H fun K19 k19=>sr 3 rfl<|sE ?_;clear H a;intro a H
  refine k19 _ ?_;clear k19 K19
  refine condE H rfl (fun hc4=>?_) (fun hc4=>?_)
  ·skip
   refine sS H fun K20 k20=>sr 2 rfl<|sE ?_;clear H a;intro a H
   refine k20 _ ?_;clear k20 K20
   refine wp_ret ?_
   refine ret1 (fn:=Try.f77) rfl H rfl ?_
   exact ⟨_,_,_,rfl,hI2.full h0s2 (by omega),(S.sel [2,3,0,1] G G)⟩
  refine wp_skip ?_
  refine k10 _ _ ?_
  replace H:=H.keep [0,1,2,3,4,11] rfl
  refine one_list ?_
  refine ls 6 H<|sr 2 rfl<|si aM bC G G (ownM.adr S (i:=1) rfl (by omega)) (by omega)<|slm aE rfl (ownM.rd S (i:=1) rfl (by omega) (by omega))<|sd (aH G G (by unfold i64ok;omega))<|si aM bC G G (ownM.adr S (i:=1) rfl (by omega)) (by omega)<|sE ?_;clear H a;intro a H
  refine bP H S (i:=1) G G G (by omega) (by omega) bC rfl ?_
  clear H a S;intro _ a S H
  replace S:=S.recell (i:=1) rfl (cell':=ncl (upd nx2 u (j+1))) (fun k q hk hq=>wR (by rw [hnj];omega) k q hq)
  exact k7 (g1-1) (sent2,r2,upd nx2 u (j+1)) a _ (by omega) (⟨hI2.skip W hu hnj hjn (fun h0 hd h1 h2=>hp2 (by omega) h0 hd h1 h2),by omega,by omega,by rw [bH];omega⟩) (S.sel [0,1,2,3] G G) (H.keep [11,0,1,2,3,4] rfl)
 refine wp_exit ?_
 refine k6 _ _ ?_
 refine sS H fun K22 k22=>sr 2 rfl<|sE ?_;clear H a;intro a H
 refine k22 _ ?_;clear k22 K22
 refine wp_ret ?_
 refine ret1 (fn:=Try.f77) rfl H rfl ?_
 exact ⟨_,_,_,rfl,hI.done hu (by omega) (by omega) h0s hsm,(S.sel [2,3,0,1] G G)⟩
end
section
theorem zO (N:Net) (mv:Nat→Nat→Mv) (nb:Nat) (pl tk:Int) (st1 st2:Value) (EA:Option Addr) (A:Nat→Option Addr) (c:Nat→Nat) (b x:Nat) (L:Nat→Int) (LA:Option Addr) (lc:Nat) (NA:Option Addr) (W:N.Wf) (hb:b<N.k) (hx:x<N.k) (hk:N.k≤1000000) (hL:∀ v,v<N.k → -1≤L v∧L v<N.k):∀ n:Nat,PushC N mv nb pl tk st1 st2 EA A c b x L LA lc NA ((N.k:Int)-n):=by
  intro n
  induction n with
  | zero=>intro u most r nx w F S hl hO hn hu hm hd;have:=(hL u hu).2;omega
  | succ n ih=>
    intro u most r nx w F S hl hO hn hu hm hd
    exact wS N r mv nb pl tk st1 st2 EA A c b x L LA lc NA _ u most nx W hb hx hk hL w F S hl hO hn hu hm (by omega) ih
theorem Fl.bound {N:Net} {r r':RM} {b x:Nat} {v B:Int} (h:Fl N r r' b x v) (o:Ok N r B) (hbx:b≠x):v≤resid N r (fun v=>decide (v=b)):=by
  have h1:=kN (S:=(fun v=>decide (v=b))) (h.ok o)
  rw [h.cut] at h1
  unfold ind at h1
  have hxb:¬ x=b:=fun e=>hbx e.symm
  simp [hxb] at h1
  omega
theorem Dl:∀ k j,j<1→[Value.int .i64 0].getD j undef=ncl (fun _=>0) k j:=by
  intro k j hj
  have:j=0:=by omega
  subst this;rfl
theorem dead0 {N:Net} {r:RM} {L:Nat→Int} {x:Nat}:Dead N r L x (fun _=>0):=fun u hu j hj=>absurd hj (Nat.not_lt_zero j)
theorem rV (N:Net) (r:RM) (mv:Nat→Nat→Mv) (nb:Nat) (pl tk:Int) (st1 st2:Value) (EA:Option Addr) (A:Nat→Option Addr) (c:Nat→Nat) (b x:Nat) (w:World) (F:Nat→Prop) (S:St w F [boxM nb 146 [.int .i64 pl,st1,st2,.int .i64 tk,.slice EA N.k N.k,.int .i64 (b:Int),.int .i64 (x:Int)],ownM 194 1 EA N.k N.k (hdc A N.n c),ragM 196 7 (fun q=>q<N.k) A N.n c (edgeC N r mv)] w) (W:N.Wf) (hO:Ok N r 2199023255552) (hb:b<N.k) (hx:x<N.k) (hbx:b≠x) (hk:N.k≤1000000) (hV:resid N r (fun v=>decide (v=b))≤1000000000) :
    Calls Try.prog 42 [.pointer (some ⟨nb,0,none⟩)].toArray w (Ret (fun u w'=>∃ v r',u = .int .i64 v∧Fl N r r' b x v∧0≤v∧(∃ L,LevOk N r' b L∧L x<0)∧St w F [boxM nb 146 [.int .i64 pl,st1,st2,.int .i64 tk,.slice EA N.k N.k,.int .i64 (b:Int),.int .i64 (x:Int)],ownM 194 1 EA N.k N.k (hdc A N.n c),ragM 196 7 (fun q=>q<N.k) A N.n c (edgeC N r' mv)] w')):=by
 refine enter Try.func42 rfl Try.ntmps42 rfl (fun a H=>?_)
 skip
 refine sS H fun K1 k1=>sr 1 rfl<|sE ?_;clear H a;intro a H
 refine k1 _ ?_;clear k1 K1
 refine sS H fun K2 k2=>sr 1 rfl<|sE ?_;clear H a;intro a H
 refine k2 _ ?_;clear k2 K2
 refine wp_block ?_
 refine loop_st (X:=Int×RM) (R0:=_) [0] H rfl (fun ⟨sum,r1⟩=>[(3,.int .i64 sum)]) (fun ⟨sum,r1⟩=>[ragM 196 7 (fun q=>q<N.k) A N.n c (edgeC N r1 mv)]) (fun g ⟨sum,r1⟩=>Fl N r r1 b x sum∧0≤sum∧(g:Int)+sum=resid N r (fun v=>decide (v=b))) ((resid N r (fun v=>decide (v=b))).toNat) (0,r) ?_ (S.sel [2,0,1] G G) (H.keep [3,0] rfl) ?_
 · exact ⟨Fl.zero hO,by omega,by have:=kN (S:=(fun v=>decide (v=b))) hO;omega⟩
 clear H S a
 intro g1 x1 a w1 hp S H K3 k3
 obtain ⟨sum,r1⟩:=x1
 dsimp only at hp S H
 obtain ⟨hF,h0,hg⟩:=hp
 have hO1:=hF.ok hO
 have hFb0:=hF.bound hO hbx
 refine wp_block ?_
 refine seq_list fun K4 k4=>?_
 refine ls 1 H<|sr 1 rfl<|sE ?_;clear H a;intro a H
 have S1:=(S.sel [1,2,0] G G)
 refine aA H G G Try.func76 G G (uD N r1 mv nb pl tk st1 st2 EA A c b x _ _ S1.startR W hO1 hb hx hbx hk) ?_;clear H a
 rintro _ _ a ⟨LA,L,rfl,hLv,S2⟩ H
 replace S:=(S.sel [1,2,0] G G).callR (M:=[_,_,_]) S2;clear S1 S2
 refine ls 1 H<|sr 1 rfl<|sE ?_;clear H a;intro a H
 refine k4 _ _ ?_;clear k4 K4
 refine wp_seq_k fun K5 k5=>?_
 replace H:=H.keep [0,3,4] rfl
 refine sS H fun K6 k6=>sr 3 rfl<|sf nC rfl<|sl S 1 aE G G G<|si aM bC G G (ownM.adr S (i:=0) rfl (by omega)) (by omega)<|slm aE rfl (ownM.rd S (i:=0) rfl (by omega) (by omega))<|sr 1 rfl<|sE ?_;clear H a;intro a H
 refine k6 _ ?_;clear k6 K6
 refine condL H rfl (fun hc1=>?_) (fun hc1=>?_)
 ·skip
  replace H:=H.keep [3] rfl
  refine sS H fun K7 k7=>sr 2 rfl<|sE ?_;clear H a;intro a H
  refine k7 _ ?_;clear k7 K7
  refine wp_ret ?_
  refine ret1 (fn:=Try.f42) rfl H rfl ?_
  exact ⟨_,_,rfl,hF,h0,⟨L,hLv,by omega⟩,(S.sel [1,2,3] G G)⟩
 refine wp_skip ?_
 refine k5 _ _ ?_
 replace H:=H.keep [0,3,4] rfl
 replace S:=S.drew
 refine one_wq [(0,true),(1,true),(2,true),(3,true),(4,true),(5,true),(6,true),(7,true),(8,true),(9,true),(10,true),(11,true),(12,false),(13,false),(14,true),(15,true)] (by kernel_rfl) (by kernel_rfl) (S.sel [0,1,2] G G) ?_
 refine qF H<|qr 4 rfl<|qd rfl (fun _ S=>(aB kS rfl))<|qd rfl (fun _ S=>aF aE rfl (boxM.rd S (i:=1) G G))<|qr 3 rfl<|qd rfl (fun _ S=>(aB dG rfl))<|qd rfl (fun _ S=>aF eD rfl (boxM.rd S (i:=1) G G))<|qd rfl (fun _ S=>dF eP rfl)<|qK ?_;clear H a;intro a H
 refine aT rfl ?_
 refine gA (n:=_) H rfl S aM bC eZ mA rfl (by decide) G G (by omega) (by omega) ?_;clear H a S;intro A1 _ a hA1 S H
 replace S:=S.recell (i:=0) rfl (cell':=ncl (fun _=>0)) (fun k j hk hj=>Dl k j hj)
 refine wpList_nil (And.intro (S.sel [1,2,3] G G) ?_)
 refine aT rfl ?_
 have S1:=(S.sel [2,3,4,0] G G)
 refine aA H G G Try.func77 G G ((by have:=zO N mv nb pl tk st1 st2 EA A c b x L LA N.k _ W hb hx hk hLv.rng N.k b 1099511627776 r1 (fun _=>0) _ _ S1.startR (ownM.inF S (i:=1) rfl [2,3,4,0] G G) hO1 (fun i hi=>Nat.zero_le _) hb (by omega) (by rw [hLv.b0];omega);exact this)) ?_;clear H a
 rintro _ _ a ⟨m2,r2,nx2,rfl,hK,S2⟩ H
 replace S:=(S.sel [2,3,4,0,1] G G).callR (M:=[_,_,_,_]) S2;clear S1 S2
 have hm0:=hK.m0
 have hm1:m2≠0:=fun h=>hK.none h dead0 (by omega) (Ax hLv hx (by omega))
 have hF2:=hF.more hK.fl
 have hFb:=hF2.bound hO hbx
 refine wpList_nil (And.intro (S.sel [4,0,1] G G) ?_)
 refine qF H<|qd rfl (fun _ S=>aH G G (by unfold i64ok;omega))<|qr 1 rfl<|qK ?_;clear H a;intro a H
 refine bM ?_
 exact k3 ((resid N r (fun v=>decide (v=b))-(sum+m2)).toNat) (sum+m2,r2) a _ (by omega) (⟨hF2,by omega,by omega⟩) (S.sel [2,0,1] G G) (H.keep [3,0] rfl)
end
section
theorem seven {p:Nat→Prop} (h0:p 0) (h1:p 1) (h2:p 2) (h3:p 3) (h4:p 4) (h5:p 5) (h6:p 6):∀ j,j<7→p j:=by
  intro j hj
  match j,hj with
  | 0,_=>exact h0
  | 1,_=>exact h1
  | 2,_=>exact h2
  | 3,_=>exact h3
  | 4,_=>exact h4
  | 5,_=>exact h5
  | 6,_=>exact h6
theorem nK {T:Tab} {f:Nat} {e:Ent} (q:Nat):upd (tlen T) f (tlen T f+1) q=tlen (upd T f (T f++[e])) q:=by
  unfold tlen upd
  split <;> simp
theorem rW {T:Tab} {f:Nat} {e:Ent}:((tlen (upd T f (T f++[e])) f:Nat):Int)=((T f).length:Int)+1:=by
  unfold tlen
  rw [bH,List.length_append]
  simp
theorem vC {T:Tab} {f t:Nat} {l:List Ent} (h:f≠t):tlen (upd T f l) t=tlen T t:=by unfold tlen;rw [bI _ _ (fun e=>h e.symm)]
theorem zP {T:Tab} {f t:Nat} {room:Int} {mv:Mv} (h:f≠t):joinT T f t room mv=upd (upd T f (T f++[⟨t,room,(T t).length,mv⟩])) t ((upd T f (T f++[⟨t,room,(T t).length,mv⟩])) t++[⟨f,0,(T f).length,Mv.none⟩]):=by
  unfold joinT
  rw [bI (i:=t) _ _ (fun e=>h e.symm)]
theorem nL {T:Tab} {f:Nat} {e:Ent} {vs:List Value} (h:∀ j,j<7→vs.getD j undef=e.cell j):∀ i k j,k<upd (tlen T) f (tlen T f+1) i→j<7 →
    upd (tcell T) f (capp (tlen T f) (tcell T f) (fun k' j=>([vs].getD k' []).getD j undef)) i k j=tcell (upd T f (T f++[e])) i k j:=by
  intro i k j hk hj
  by_cases hi:i=f
  · subst hi
    rw [bH] at hk ⊢
    unfold capp tcell
    rw [bH]
    unfold tlen at hk ⊢
    by_cases h1:k<(T i).length
    · rw [if_pos h1,List.getD_eq_getElem?_getD,List.getD_eq_getElem?_getD,List.getElem?_append_left h1]
    · have h2:k=(T i).length:=by omega
      subst h2
      rw [if_neg h1,Nat.sub_self]
      rw [List.getD_eq_getElem?_getD (l:=T i++[e]),List.getElem?_append_right (Nat.le_refl _),Nat.sub_self]
      exact h j hj
  · rw [bI _ _ hi] at hk ⊢
    unfold tcell
    rw [bI _ _ hi]
theorem zQ {T:Tab} {f:Nat} {e:Ent} {A:Nat→Option Addr} {c:Nat→Nat} {A1:Option Addr} {c1:Nat}:∀ k j,j<1→cput (hdc A (tlen T) c) f 0 (.slice A1 (tlen T f+1) c1) k j=hdc (upd A f A1) (tlen (upd T f (T f++[e]))) (upd c f c1) k j:=by
  intro k j hj
  have:j=0:=by omega
  subst this
  unfold cput hdc
  rw [←nK]
  by_cases h:k=f
  · subst h;simp [bH]
  · simp [bI _ _ h,h]
theorem rX {l:List Int} {x:Int} {k:Nat} (hk:k<l.length) (h:(l.take k).any (fun y=>decide (x=y))=false) (hx:¬ x=l.getD k 0):(l.take (k+1)).any (fun y=>decide (x=y))=false:=by
  rw [List.take_succ_eq_append_getElem hk,List.any_append,h]
  rw [List.getD_eq_getElem?_getD,List.getElem?_eq_getElem hk] at hx
  simpa using hx
theorem zR {l:List Int} {x:Int} {k:Nat} (hk:k<l.length) (hx:x=l.getD k 0):hasI l x=true:=by
  rw [List.getD_eq_getElem?_getD,List.getElem?_eq_getElem hk] at hx
  unfold hasI
  rw [List.any_eq_true]
  exact ⟨l[k],List.getElem_mem hk,by simpa using hx⟩
theorem lB (T:Tab) (k nb:Nat) (pl tk:Int) (st1 st2:Value) (EA:Option Addr) (A:Nat→Option Addr) (c:Nat→Nat) (b x:Nat) (f t:Nat) (room m1 m2 m3 m4:Int) (w:World) (F:Nat→Prop) (S:St w F [boxM nb 146 [.int .i64 pl,st1,st2,.int .i64 tk,.slice EA k k,.int .i64 (b:Int),.int .i64 (x:Int)],ownM 194 1 EA k k (hdc A (tlen T) c),ragM 196 7 (fun q=>q<k) A (tlen T) c (tcell T)] w) (hf:f<k) (ht:t<k) (hft:f≠t) (hlen:∀ i,i<k→(T i).length≤1000000) :
    Calls Try.prog 73 [.pointer (some ⟨nb,0,none⟩),.int .i64 (f:Int),.int .i64 (t:Int),.int .i64 room,.agg [.int .i64 m1,.int .i64 m2,.int .i64 m3,.int .i64 m4].toArray].toArray w (Ret (fun u w'=>u = .tuple #[]∧∃ A' c',St w F [boxM nb 146 [.int .i64 pl,st1,st2,.int .i64 tk,.slice EA k k,.int .i64 (b:Int),.int .i64 (x:Int)],ownM 194 1 EA k k (hdc A' (tlen (joinT T f t room ⟨m1,m2,m3,m4⟩)) c'),ragM 196 7 (fun q=>q<k) A' (tlen (joinT T f t room ⟨m1,m2,m3,m4⟩)) c' (tcell (joinT T f t room ⟨m1,m2,m3,m4⟩))] w')):=by
 refine enter Try.func73 rfl Try.ntmps73 rfl (fun a H=>?_)
 skip
 refine seq_list fun K1 k1=>?_
 refine aV H rfl S G G ?_;clear H a S;intro b9 _ a hb9 hbw9 S H
 refine k1 _ _ ?_;clear k1 K1
 replace H:=H.keep [0,1,2,3,9] rfl
 replace S:=S.drew
 refine seq_wt 27 (.p 0 (.p 1 (.p 2 (.q 3 (.p 4 (.p 5 (.p 6 (.p 7 (.q 8 (.p 9 (.p 10 (.q 11 (.p 12 (.p 13 (.p 14 (.p 15 (.p 16 (.q 17 (.p 18 (.p 19 (.q 20 (.p 21 (.q 22 (.p 23 (.e 24 (.e 25 (.p 26 (.e 27 .nil)))))))))))))))))))))))))))) (by kernel_rfl) (by kernel_rfl) (S.sel [0,1,2] G G) fun K2 k2=>?_
 refine aN H G G (fun _=>aP rfl) ?_;clear H a;intro a H
 refine aN H G G (fun _=>bE rfl) ?_;clear H a;intro a H
 refine aN H G G (fun _=>(aB dG rfl)) ?_;clear H a;intro a H
 refine aL H G G (fun _ S=>aF eD rfl (boxM.rd S (i:=1) G G)) ?_;clear H a;intro a H
 refine aN H G G (fun _=>aP rfl) ?_;clear H a;intro a H
 refine aN H G G (fun _=>aP rfl) ?_;clear H a;intro a H
 refine aN H G G (fun _=>bE rfl) ?_;clear H a;intro a H
 refine aN H G G (fun _=>(aB dG rfl)) ?_;clear H a;intro a H
 refine aL H G G (fun _ S=>aF eD rfl (boxM.rd S (i:=1) G G)) ?_;clear H a;intro a H
 refine aN H G G (fun _=>aP rfl) ?_;clear H a;intro a H
 refine aN H G G (fun _=>dA eP eO G G (ownM.adr S (i:=2) rfl (by omega)) (by omega)) ?_;clear H a;intro a H
 refine aL H G G (fun _ S=>aF gO rfl (ownM.rd S (i:=2) rfl (by omega) (by omega))) ?_;clear H a;intro a H
 refine aN H G G (fun _=>aP rfl) ?_;clear H a;intro a H
 refine aN H G G (fun _=>aP rfl) ?_;clear H a;intro a H
 refine aN H G G (fun _=>aP rfl) ?_;clear H a;intro a H
 refine aN H G G (fun _=>bE rfl) ?_;clear H a;intro a H
 refine aN H G G (fun _=>(aB dG rfl)) ?_;clear H a;intro a H
 refine aL H G G (fun _ S=>aF eD rfl (boxM.rd S (i:=1) G G)) ?_;clear H a;intro a H
 refine aN H G G (fun _=>aP rfl) ?_;clear H a;intro a H
 refine aN H G G (fun _=>dA eP eO G G (ownM.adr S (i:=2) rfl (by omega)) (by omega)) ?_;clear H a;intro a H
 refine aL H G G (fun _ S=>aF gO rfl (ownM.rd S (i:=2) rfl (by omega) (by omega))) ?_;clear H a;intro a H
 refine aN H G G (fun _=>dF fT rfl) ?_;clear H a;intro a H
 refine aL H G G (fun _ S=>(aD mE nA rfl S (i:=0) G G)) ?_;clear H a;intro a H
 refine aN H G G (fun _=>aO yR G G) ?_;clear H a;intro a H
 refine aK rfl ?_
 refine bB H rfl S fT gW lN G G G G G G G G G ?_;clear H a S;intro A1 _ a hA1 S H
 refine wpList_nil (And.intro (Or.inr (S.sel [1,2,3] G G)) ?_)
 refine aK rfl ?_
 replace S:=ragM.pull S (i:=4) rfl hf
 refine cK H rfl S fT gW lN yM G G (i:=0) G G G (ownM.inS S (i:=0+1) rfl) (kW (seven G G G G G G G)) (by have:=hlen f hf;have h9:tlen T f=(T f).length:=rfl;omega) (by have:=hlen f hf;have h9:tlen T f=(T f).length:=rfl;omega) ?_;clear H a S;intro Af cf _ a S H
 replace S:=ragM.put S (i:=4) (p:=f) rfl hf
 replace S:=ragM.congr S (i:=4) rfl (n':=tlen (upd T f (T f++[⟨t,room,(T t).length,⟨m1,m2,m3,m4⟩⟩]))) (cell':=tcell (upd T f (T f++[⟨t,room,(T t).length,⟨m1,m2,m3,m4⟩⟩]))) (fun _ _=>rfl) (fun q _=>nK q) (fun _ _=>rfl) (fun i _=>nL (seven G G G G G G G) i)
 refine wpList_nil (And.intro (Or.inr (S.sel [1,2,3] G G)) ?_)
 refine aN H G G (fun _=>dA eP eO G G (ownM.adr S (i:=3) rfl (by omega)) (by omega)) ?_;clear H a;intro a H
 refine aK rfl ?_
 refine bP H S (i:=3) G G G (by omega) (by omega) eO rfl ?_
 clear H a S;intro _ a S H
 replace S:=S.recell (i:=3) rfl (cell':=hdc (upd A f Af) (tlen (upd T f (T f++[⟨t,room,(T t).length,⟨m1,m2,m3,m4⟩⟩]))) (upd c f cf)) (fun k j hk hj=>zQ k j hj)
 refine wpList_nil (And.intro (Or.inl rfl) ?_)
 refine bF ?_
 refine k2 _ _ ?_
 clear k2 K2
 replace H:=H.keep [0,1,2] rfl
 replace S:=S.drew
 refine one_wt 27 (.p 0 (.p 1 (.p 2 (.q 3 (.p 4 (.p 5 (.p 6 (.p 7 (.q 8 (.p 9 (.p 10 (.q 11 (.p 12 (.p 13 (.p 14 (.p 15 (.q 16 (.p 17 (.p 18 (.q 19 (.p 20 (.p 21 (.p 22 (.p 23 (.e 24 (.e 25 (.p 26 (.e 27 .nil)))))))))))))))))))))))))))) (by kernel_rfl) (by kernel_rfl) (S.sel [0,1,2,3] G G) ?_
 refine aN H G G (fun _=>aP rfl) ?_;clear H a;intro a H
 refine aN H G G (fun _=>bE rfl) ?_;clear H a;intro a H
 refine aN H G G (fun _=>(aB dG rfl)) ?_;clear H a;intro a H
 refine aL H G G (fun _ S=>aF eD rfl (boxM.rd S (i:=2) G G)) ?_;clear H a;intro a H
 refine aN H G G (fun _=>aP rfl) ?_;clear H a;intro a H
 refine aN H G G (fun _=>aP rfl) ?_;clear H a;intro a H
 refine aN H G G (fun _=>bE rfl) ?_;clear H a;intro a H
 refine aN H G G (fun _=>(aB dG rfl)) ?_;clear H a;intro a H
 refine aL H G G (fun _ S=>aF eD rfl (boxM.rd S (i:=2) G G)) ?_;clear H a;intro a H
 refine aN H G G (fun _=>aP rfl) ?_;clear H a;intro a H
 refine aN H G G (fun _=>dA eP eO G G (ownM.adr S (i:=3) rfl (by omega)) (by omega)) ?_;clear H a;intro a H
 refine aL H G G (fun _ S=>aF gO rfl (ownM.rd S (i:=3) rfl (by omega) (by omega))) ?_;clear H a;intro a H
 refine aN H G G (fun _=>aP rfl) ?_;clear H a;intro a H
 refine aN H G G (fun _=>aP rfl) ?_;clear H a;intro a H
 refine aN H G G (fun _=>bE rfl) ?_;clear H a;intro a H
 refine aN H G G (fun _=>(aB dG rfl)) ?_;clear H a;intro a H
 refine aL H G G (fun _ S=>aF eD rfl (boxM.rd S (i:=2) G G)) ?_;clear H a;intro a H
 refine aN H G G (fun _=>aP rfl) ?_;clear H a;intro a H
 refine aN H G G (fun _=>dA eP eO G G (ownM.adr S (i:=3) rfl (by omega)) (by omega)) ?_;clear H a;intro a H
 refine aL H G G (fun _ S=>aF gO rfl (ownM.rd S (i:=3) rfl (by omega) (by omega))) ?_;clear H a;intro a H
 refine aN H G G (fun _=>dF fT rfl) ?_;clear H a;intro a H
 refine aN H G G (fun _=>(cH G G (by rw [rW];have:=hlen f hf;unfold i64ok;omega)).to (v' := .int .i64 ((T f).length:Int)) (by rw [rW];congr 1;omega)) ?_;clear H a;intro a H
 refine aN H G G (fun _=>aO tO G G) ?_;clear H a;intro a H
 refine aN H G G (fun _=>aO yR G G) ?_;clear H a;intro a H
 refine aK rfl ?_
 refine bB H rfl S fT gW lN G G G G G G G G G ?_;clear H a S;intro A2 _ a hA2 S H
 refine wpList_nil (And.intro (Or.inr (S.sel [1,2,3,4] G G)) ?_)
 refine aK rfl ?_
 replace S:=ragM.pull S (i:=5) rfl ht
 refine cK H rfl S fT gW lN yM G G (i:=0) G G G (ownM.inS S (i:=0+1) rfl) (kW (seven G G G G G G G)) (by have:=hlen t ht;rw [vC hft];have h9:tlen T t=(T t).length:=rfl;omega) (by have:=hlen t ht;rw [vC hft];have h9:tlen T t=(T t).length:=rfl;omega) ?_;clear H a S;intro At ct _ a S H
 replace S:=ragM.put S (i:=5) (p:=t) rfl ht
 replace S:=ragM.congr S (i:=5) rfl (n':=tlen (upd (upd T f (T f++[⟨t,room,(T t).length,⟨m1,m2,m3,m4⟩⟩])) t ((upd T f (T f++[⟨t,room,(T t).length,⟨m1,m2,m3,m4⟩⟩])) t++[⟨f,0,(T f).length,Mv.none⟩]))) (cell':=tcell (upd (upd T f (T f++[⟨t,room,(T t).length,⟨m1,m2,m3,m4⟩⟩])) t ((upd T f (T f++[⟨t,room,(T t).length,⟨m1,m2,m3,m4⟩⟩])) t++[⟨f,0,(T f).length,Mv.none⟩]))) (fun _ _=>rfl) (fun q _=>nK q) (fun _ _=>rfl) (fun i _=>nL (seven G G G G G G G) i)
 refine wpList_nil (And.intro (Or.inr (S.sel [1,2,3,4] G G)) ?_)
 refine aN H G G (fun _=>dA eP eO G G (ownM.adr S (i:=4) rfl (by omega)) (by omega)) ?_;clear H a;intro a H
 refine aK rfl ?_
 refine bP H S (i:=4) G G G (by omega) (by omega) eO rfl ?_
 clear H a S;intro _ a S H
 replace S:=S.recell (i:=4) rfl (cell':=hdc (upd (upd A f Af) t At) (tlen (upd (upd T f (T f++[⟨t,room,(T t).length,⟨m1,m2,m3,m4⟩⟩])) t ((upd T f (T f++[⟨t,room,(T t).length,⟨m1,m2,m3,m4⟩⟩])) t++[⟨f,0,(T f).length,Mv.none⟩]))) (upd (upd c f cf) t ct)) (fun k j hk hj=>zQ k j hj)
 refine wpList_nil (And.intro (Or.inl rfl) ?_)
 refine bF ?_
 refine ret0 (fn:=Try.f73) rfl H ?_
 rw [zP hft]
 exact ⟨rfl,_,_,(S.sel [3,4,5] G G)⟩
theorem pZ (l:List Int) (A:Option Addr) (cp:Nat) (x:Int) (w:World) (hl:InS w noF 1 A l.length (icl l)) (hn:l.length≤9223372036854775807) :
    Calls Try.prog 84 [.slice A l.length cp,.int .i64 x].toArray w (Ret (fun u w'=>∃ n:Int,u = .int .i64 n∧decide (0≤n)=hasI l x∧St w noF [] w')):=by
 refine enter Try.func84 rfl Try.ntmps84 rfl (fun a H=>?_)
 have S:=St.start w
 refine sS H fun K1 k1=>sr 1 rfl<|sE ?_;clear H a;intro a H
 refine k1 _ ?_;clear k1 K1
 refine wp_seq_k fun K2 k2=>?_
 refine sS H fun K3 k3=>sr 1 rfl<|sL aM rfl<|sr 1 rfl<|sE ?_;clear H a;intro a H
 refine k3 _ ?_;clear k3 K3
 refine wp_block ?_
 refine loop_st (X:=Nat) (R0:=_) [0,1,7] H rfl (fun k=>[(8,.int .i64 (k:Int))]) (fun k=>[]) (fun g k=>k≤l.length∧g+k=l.length∧(l.take k).any (fun y=>decide (x=y))=false) (l.length) 0 ?_ (S.sel [] G G) (H.keep [8,0,1,7] rfl) ?_
 · exact ⟨by omega,by omega,rfl⟩
 clear H S a
 intro g1 x1 a w1 hp S H K4 k4
 obtain ⟨k,rfl⟩:∃ y,y=x1:=⟨_,rfl⟩
 refine sS H fun K5 k5=>sr 1 rfl<|sE ?_;clear H a;intro a H
 refine k5 _ ?_;clear k5 K5
 refine wp_seq_k fun K6 k6=>?_
 refine condL H rfl (fun hc1=>?_) (fun hc1=>?_)
 ·skip
  refine wp_skip ?_
  refine k6 _ _ ?_
  refine wp_seq_k fun K7 k7=>?_
  refine wp_block ?_
  refine sS H fun K8 k8=>sr 2 rfl<|sE ?_;clear H a;intro a H
  refine k8 _ ?_;clear k8 K8
  refine sS H fun K9 k9=>sr 3 rfl<|si aM bC G G (hl.adr (by omega)) (by omega)<|slm aE rfl (hl.rd S (by omega) (by omega))<|sr 1 rfl<|sE ?_;clear H a;intro a H
  refine k9 _ ?_;clear k9 K9
  refine condE H rfl (fun hc2=>?_) (fun hc2=>?_)
  ·skip
   replace H:=H.keep [5] rfl
   refine sS H fun K10 k10=>sr 2 rfl<|sE ?_;clear H a;intro a H
   refine k10 _ ?_;clear k10 K10
   refine wp_ret ?_
   refine ret1 (fn:=Try.f84) rfl H rfl ?_
   exact ⟨_,rfl,by rw [zR (k:=k) (by omega) hc2];exact decide_eq_true (by omega),(S.sel [] G G)⟩
  refine wp_skip ?_
  refine k7 _ _ ?_
  refine sO H<|sd (aH G G (by unfold i64ok;omega))<|sr 1 rfl<|sE ?_;clear H a;intro a H
  exact k4 (g1-1) (k+1) a _ (by omega) (⟨by omega,by omega,rX (by omega) hp.2.2 hc2⟩) (S.sel [] G G) (H.keep [8,0,1,7] rfl)
 refine wp_exit ?_
 refine k2 _ _ ?_
 refine sS H fun K12 k12=>sr 1 rfl<|sE ?_;clear H a;intro a H
 refine k12 _ ?_;clear k12 K12
 refine wp_ret ?_
 refine ret1 (fn:=Try.f84) rfl H rfl ?_
 exact ⟨_,rfl,by unfold hasI;rw [←List.take_of_length_le (l:=l) (i:=k) (by omega),hp.2.2];rfl,(S.sel [] G G)⟩
theorem dJ (l:List Int) (A:Option Addr) (cp:Nat) (x:Int) (w:World) (hl:InS w noF 1 A l.length (icl l)) (hn:l.length≤9223372036854775807) :
    Calls Try.prog 51 [.slice A l.length cp,.int .i64 x].toArray w (Ret (fun u w'=>u = .bool (hasI l x)∧St w noF [] w')):=by
 refine enter Try.func51 rfl Try.ntmps51 rfl (fun a H=>?_)
 have S:=St.start w
 refine sS H fun K1 k1=>sr 1 rfl<|sE ?_;clear H a;intro a H
 refine k1 _ ?_;clear k1 K1
 refine seq_list fun K2 k2=>?_
 refine ls 2 H<|sr 2 rfl<|sE ?_;clear H a;intro a H
 refine aA H G G Try.func84 G G (pZ l A cp x _ (hl.now S) hn) ?_;clear H a
 rintro _ _ a ⟨n,rfl,hn2,S2⟩ H
 replace S:=S.call S2;clear S2
 refine ls 2 H<|sr 2 rfl<|sE ?_;clear H a;intro a H
 refine k2 _ _ ?_;clear k2 K2
 refine wp_ret ?_
 refine ret1 (fn:=Try.f51) rfl H rfl ?_
 exact ⟨congrArg Value.bool hn2,(S.sel [] G G)⟩
end
section
theorem nY (pl:Int) (ps:List Psg) (PA:Option Addr) (pc:Nat) (xs:List Int) (XA:Option Addr) (xc:Nat) (out:Int) (w:World) :
    Calls Try.prog 75 [.agg [.int .i64 pl,.slice PA ps.length pc,.slice XA xs.length xc].toArray,.int .i64 out].toArray w (Ret (fun u w'=>∃ b2 b3,u = .func (.func 102) #[] #[.pointer (some ⟨b2,0,none⟩),.pointer (some ⟨b3,0,none⟩)]∧St w noF [boxM b2 25 [.int .i64 pl,.slice PA ps.length pc,.slice XA xs.length xc],boxM b3 3 [.int .i64 out]] w')):=by
 refine enter Try.func75 rfl Try.ntmps75 rfl (fun a H=>?_)
 have S:=St.start w
 refine seq_list fun K1 k1=>?_
 refine aV H rfl S G G ?_;clear H a S;intro b2 _ a hb2 hbw2 S H
 refine aV H rfl S G G ?_;clear H a S;intro b3 _ a hb3 hbw3 S H
 refine ls 1 H<|sr 1 rfl<|sE ?_;clear H a;intro a H
 refine k1 _ _ ?_;clear k1 K1
 refine sS H fun K2 k2=>sr 2 rfl<|sE ?_;clear H a;intro a H
 refine k2 _ ?_;clear k2 K2
 refine wp_ret ?_
 refine ret1 (fn:=Try.f75) rfl H rfl ?_
 exact ⟨_,_,rfl,(S.sel [1,0] G G)⟩
theorem uE (pl:Int) (ps:List Psg) (PA:Option Addr) (pc:Nat) (xs:List Int) (XA:Option Addr) (xc:Nat) (out:Int) (b2 b3 l:Nat) (Jm:Nat→Mem→Prop) (m:Mem) (w:World) (F:Nat→Prop) (h0:Jm 0 m) (S:St w F [m,boxM b2 25 [.int .i64 pl,.slice PA ps.length pc,.slice XA xs.length xc],boxM b3 3 [.int .i64 out]] w) (hps:InS w F 7 PA ps.length (pcell ps)) (hpn:ps.length≤9223372036854775807) (hxs:InS w F 1 XA xs.length (icl xs)) (hxn:xs.length≤9223372036854775807) (hmv:∀ k,k<ps.length→(ps.getD k Psg.zero).kind=3→0≤(ps.getD k Psg.zero).mach∧(ps.getD k Psg.zero).mach≤11) (hout:0≤out) (hr:∀ i m' x w1,i<(hds out xs ps).length→Jm i m'→St w F [m',x] w1→Round Try.prog l (.agg (Hd.cells ((hds out xs ps).getD i Hd.zero)).toArray) Jm w F i x w1) :
    Calls Try.prog 102 [.func (.yield l) #[] #[],.pointer (some ⟨b2,0,none⟩),.pointer (some ⟨b3,0,none⟩)].toArray w (Ret (fun u w'=>∃ m',Jm (hds out xs ps).length m'∧St w F [m',boxM b2 25 [.int .i64 pl,.slice PA ps.length pc,.slice XA xs.length xc],boxM b3 3 [.int .i64 out]] w')):=by
 refine enter Try.func102 rfl Try.ntmps102 rfl (fun a H=>?_)
 skip
 refine sS H fun K1 k1=>sf eF rfl<|sl S 1 fR G G G<|sL gH rfl<|sr 1 rfl<|sE ?_;clear H a;intro a H
 refine k1 _ ?_;clear k1 K1
 refine wp_block ?_
 refine loop_st (X:=Nat×Mem) (R0:=_) [0,1,2,9,10] H rfl (fun ⟨k,m⟩=>[(11,.int .i64 (k:Int))]) (fun ⟨k,m⟩=>[m]) (fun g ⟨k,m⟩=>k≤ps.length∧g+k=ps.length∧Jm (hdsTo out xs ps k).length m) (ps.length) (0,m) ?_ (S.sel [0,1,2] G G) (H.keep [11,0,1,2,9,10] rfl) ?_
 · exact ⟨by omega,by omega,h0⟩
 clear H S a
 intro g1 x1 a w1 hp S H K2 k2
 obtain ⟨k,m⟩:=x1
 dsimp only at hp S H
 obtain ⟨hkl,hgk,hJ⟩:=hp
 refine sS H fun K3 k3=>sr 1 rfl<|sE ?_;clear H a;intro a H
 refine k3 _ ?_;clear k3 K3
 refine wp_seq_k fun K4 k4=>?_
 refine condL H rfl (fun hc1=>?_) (fun hc1=>?_)
 ·skip
  refine wp_skip ?_
  refine k4 _ _ ?_
  refine wp_seq_k fun K5 k5=>?_
  refine wp_block ?_
  refine seq_list fun K6 k6=>?_
  refine ls 3 H<|sr 1 rfl<|si gH gG G G (hps.adr (by omega)) (by omega)<|sd ((cS mY gG rfl S hps (by omega) (by omega)))<|sE ?_;clear H a;intro a H
  refine aI H rfl S uO ?_;clear H a S;intro b5 _ a hb5 hbw5 S H
  refine ls 1 H<|sr 1 rfl<|sE ?_;clear H a;intro a H
  refine aC H S (i:=0) G G G G gG G G ?_
  clear H a S;intro _ a S H
  refine k6 _ _ ?_;clear k6 K6
  replace H:=H.keep [0,1,2,4,5,9,10,11] rfl
  refine sS H fun K7 k7=>sf pG rfl<|sl S 0 aE G G G<|sr 2 rfl<|sE ?_;clear H a;intro a H
  refine k7 _ ?_;clear k7 K7
  have SR:=(S.sel [0,1,2,3] G G)
  refine meet_sr (X:=Int×Bool) [0,1,2,4,5,9,10,11] H rfl (fun ⟨tk,bk⟩=>[(6,.int .i64 tk),(7,.bool bk)]) (fun ⟨tk,bk⟩=>[]) (fun ⟨tk,bk⟩=>¬ (ps.getD k Psg.zero).kind=4∧tk=eY out (ps.getD k Psg.zero)∧bk=iO out (ps.getD k Psg.zero)) SR (fun K9 k9=>?_) ?_
  ·skip
   refine wp_block ?_
   refine sS H fun K10 k10=>sf dU rfl<|sl S 0 aE G G G<|sr 2 rfl<|sE ?_;clear H a;intro a H
   refine k10 _ ?_;clear k10 K10
   refine condE H rfl (fun hc2=>?_) (fun hc2=>?_)
   ·skip
    refine wp_exit ?_
    refine k5 _ _ ?_
    replace H:=H.keep [0,1,2,9,10,11] rfl
    refine sO H<|sd (aH G G (by unfold i64ok;omega))<|sr 1 rfl<|sE ?_;clear H a;intro a H
    exact k2 (g1-1) (k+1,_) a _ (by omega) (by first|exact ⟨by omega,by omega,(jD (out:=out) (xs:=xs) hc2).symm ▸ hJ⟩|exact ⟨by omega,by omega,by rw [fZ hk4,hqB];exact hJ2⟩|exact ⟨by omega,by omega,by rw [fZ hk4,hqB];exact hJ⟩) (S.sel [1,2,3] G G) (H.keep [11,0,1,2,9,10] rfl)
   replace H:=H.keep [0,1,2,4,5,6,7,9,10,11] rfl
   refine sS H fun K12 k12=>sf dU rfl<|sl S 0 aE G G G<|sr 2 rfl<|sg 6 3 26 32 true G G (fun hg4=>by
       have hq4:=hg4;try simp only [o1,o2,o3,o4,o5,o6,o7,o8,o9,oa] at hq4
       have hmk:=hmv k (by omega) hq4
       exact sy hg4<|sl S 3 aE G G G<|sy hg4<|sf cX rfl<|sy hg4<|sl S 0 aE G G G<|sy hg4<|sd (gF G G (by omega) (by omega))<|sy hg4<|sd (fB G G)<|sy hg4<|sr 1 rfl<|sz 6 G G G)<|sa G G G<|sr 1 rfl<|sE ?_;clear H a;intro a H
   refine k12 _ ?_;clear k12 K12
   refine cond_ H rfl (fun hc3=>?_) (fun hc3=>?_)
   ·skip
    try simp only [o1,o2,o3,o4,o5,o6,o7,o8,o9,oa] at hc3
    replace H:=H.keep [0,1,2,4,5,6,9,10,11] rfl
    refine sO H<|sr 1 rfl<|sE ?_;clear H a;intro a H
    exact k9 ((ps.getD k Psg.zero).ticks,false) a _ (⟨hc2,by unfold eY bitI;rw [if_neg (by omega)],zD hc3⟩) (S.sel [0,1,2,3] G G) (H.keep [6,7,0,1,2,4,5,9,10,11] rfl)
   try simp only [o1,o2,o3,o4,o5,o6,o7,o8,o9,oa] at hc3
   refine sS H fun K14 k14=>sf dU rfl<|sl S 0 aE G G G<|sr 2 rfl<|sE ?_;clear H a;intro a H
   refine k14 _ ?_;clear k14 K14
   refine condE H rfl (fun hc4=>?_) (fun hc4=>?_)
   ·skip
    refine sO H<|sf gS rfl<|sl S 0 aE G G G<|sr 1 rfl<|sE ?_;clear H a;intro a H
    exact k9 ((ps.getD k Psg.zero).still,true) a _ (⟨hc2,by unfold eY bitI;rw [if_pos (by omega)],rQ hc3⟩) (S.sel [0,1,2,3] G G) (H.keep [6,7,0,1,2,4,5,9,10,11] rfl)
   refine wp_skip ?_
   exact k9 ((ps.getD k Psg.zero).ticks,true) a _ (⟨hc2,by unfold eY;rw [if_neg (by omega)],rQ hc3⟩) (S.sel [0,1,2,3] G G) (H.keep [6,7,0,1,2,4,5,9,10,11] rfl)
  clear SR H S a
  intro xm a wm hp S H
  obtain ⟨tk,bk⟩:=xm
  obtain ⟨hk4,rfl,rfl⟩:=hp
  have SR:=(S.sel [0,2,3] G G)
  refine meet_sr (X:=Nat×Mem) [0,1,2,4,5,6,7,9,10,11] H rfl (fun ⟨q,m⟩=>[]) (fun ⟨q,m⟩=>[m]) (fun ⟨q,m⟩=>Jm q m∧q=(hdsTo out xs ps k).length+qA xs (ps.getD k Psg.zero)) SR (fun K17 k17=>?_) ?_
  ·skip
   cases hcA:hasI xs (ps.getD k Psg.zero).a
   ·skip
    replace H:=H.keep [0,1,2,4,5,6,7,9,10,11] rfl
    refine xT fun K18 k18=>?_
    refine mD 17 ?_
    refine ls 4 H<|sf fI rfl<|sl S 2 aW G G G<|sf gQ rfl<|sl S 0 aE G G G<|sE ?_;clear H a;intro a H
    refine aA H G G Try.func51 G G (dJ xs XA xc _ _ (hxs.now S) hxn) ?_;clear H a
    rintro _ _ a ⟨rfl,S2⟩ H
    replace S:=S.call S2;clear S2
    first|rw [hcA] at H|rw [hcB] at H
    refine ls 12 H<|sr 2 rfl<|sy rfl<|sr 1 rfl<|sy rfl<|sr 1 rfl<|sy rfl<|sf gQ rfl<|sy rfl<|sl S 0 aE G G G<|sy rfl<|sf gR rfl<|sy rfl<|sl S 0 aE G G G<|sy rfl<|sr 1 rfl<|sy rfl<|sf mH rfl<|sy rfl<|sl S 0 aE G G G<|sy rfl<|sd (aO yQ G G)<|sE ?_;clear H a;intro a H
    refine wpList_nil ?_
    refine xU H G G G ?_
    have SY:=(St.pack (Ms:=[_,_,_]) (R:=[_]) (S.sel [0,2,3,1] G G)).sel [1,0] G G
    have hhd:=wG (out:=out) (xs:=xs) (show k<ps.length by omega) hk4 hcA
    refine qX H G G (v := .agg (Hd.cells ((hds out xs ps).getD ((hdsTo out xs ps k).length) Hd.zero)).toArray) (by rw [hhd.1];rfl) (hr _ _ _ _ hhd.2 hJ SY) (fun _ _ h=>h.1) ?_;clear H a
    rintro _ a ⟨_,m2,hJ2,S2⟩ H
    replace S:=St.unpack (S2.sel [1,0] G G);clear S2 SY
    refine mD 2 ?_
    refine ls 2 H<|sy rfl<|sr 1 rfl<|sa G G G<|sE ?_;clear H a;intro a H
    refine wpList_nil ?_
    refine k18 _ _ ?_;clear k18 K18
    refine cond_ H rfl (fun hc5=>?_) (fun hc5=>?_)
    ·skip
     try simp only [o1,o2,o3,o4,o5,o6,o7,o8,o9,oa] at hc5
     exfalso;simp at hc5
    try simp only [o1,o2,o3,o4,o5,o6,o7,o8,o9,oa] at hc5
    refine wp_skip ?_
    exact k17 ((hdsTo out xs ps k).length+1,_) a _ (⟨hJ2,by unfold qA;rw [if_neg (by rw [hcA];simp)]⟩) (S.sel [3,0,1,2] G G) (H.keep [0,1,2,4,5,6,7,9,10,11] rfl)
   replace H:=H.keep [0,1,2,4,5,6,7,9,10,11] rfl
   refine seq_list fun K19 k19=>?_
   refine ls 4 H<|sf fI rfl<|sl S 2 aW G G G<|sf gQ rfl<|sl S 0 aE G G G<|sE ?_;clear H a;intro a H
   refine aA H G G Try.func51 G G (dJ xs XA xc _ _ (hxs.now S) hxn) ?_;clear H a
   rintro _ _ a ⟨rfl,S2⟩ H
   replace S:=S.call S2;clear S2
   first|rw [hcA] at H|rw [hcB] at H
   refine ls 15 H<|sr 2 rfl<|sn G G G<|sn G G G<|sn G G G<|sn G G G<|sn G G G<|sn G G G<|sn G G G<|sn G G G<|sn G G G<|sn G G G<|sn G G G<|sn G G G<|sd ((aR G G G))<|sE ?_;clear H a;intro a H
   refine k19 _ _ ?_;clear k19 K19
   refine cond_ H rfl (fun hc6=>?_) (fun hc6=>?_)
   ·skip
    try simp only [o1,o2,o3,o4,o5,o6,o7,o8,o9,oa] at hc6
    exfalso;simp at hc6
   try simp only [o1,o2,o3,o4,o5,o6,o7,o8,o9,oa] at hc6
   refine wp_skip ?_
   exact k17 ((hdsTo out xs ps k).length,_) a _ (⟨hJ,by unfold qA;rw [if_pos hcA];rfl⟩) (S.sel [1,0,2,3] G G) (H.keep [0,1,2,4,5,6,7,9,10,11] rfl)
  clear SR H S a
  intro xm a wm hp S H
  obtain ⟨q,m⟩:=xm
  obtain ⟨hJ,rfl⟩:=hp
  rcases bk3 (iO out (ps.getD k Psg.zero)) (hasI xs (ps.getD k Psg.zero).b) with hbk|⟨hbk,hcB⟩|⟨hbk,hcB⟩
  ·skip
   rw [hbk] at H
   have hqB:qB out xs (ps.getD k Psg.zero)=0:=by unfold qB;rw [hbk];rfl
   replace H:=H.keep [0,1,2,4,5,6,7,9,10,11] rfl
   refine seq_list fun K20 k20=>?_
   refine ls 23 H<|sr 2 rfl<|sn G G G<|sn G G G<|sn G G G<|sn G G G<|sn G G G<|sn G G G<|sd ((aR G G G))<|sr 1 rfl<|sn G G G<|sn G G G<|sn G G G<|sn G G G<|sn G G G<|sn G G G<|sn G G G<|sn G G G<|sn G G G<|sn G G G<|sn G G G<|sn G G G<|sd ((aR G G G))<|sE ?_;clear H a;intro a H
   refine k20 _ _ ?_;clear k20 K20
   refine cond_ H rfl (fun hc7=>?_) (fun hc7=>?_)
   ·skip
    try simp only [o1,o2,o3,o4,o5,o6,o7,o8,o9,oa] at hc7
    exfalso;simp at hc7
   try simp only [o1,o2,o3,o4,o5,o6,o7,o8,o9,oa] at hc7
   refine wp_skip ?_
   refine k5 _ _ ?_
   replace H:=H.keep [0,1,2,9,10,11] rfl
   refine sO H<|sd (aH G G (by unfold i64ok;omega))<|sr 1 rfl<|sE ?_;clear H a;intro a H
   exact k2 (g1-1) (k+1,_) a _ (by omega) (by first|exact ⟨by omega,by omega,(jD (out:=out) (xs:=xs) hc2).symm ▸ hJ⟩|exact ⟨by omega,by omega,by rw [fZ hk4,hqB];exact hJ2⟩|exact ⟨by omega,by omega,by rw [fZ hk4,hqB];exact hJ⟩) (S.sel [0,2,3] G G) (H.keep [11,0,1,2,9,10] rfl)
  ·skip
   rw [hbk] at H
   have hqB:qB out xs (ps.getD k Psg.zero)=0:=by unfold qB;rw [hbk,hcB];rfl
   replace H:=H.keep [0,1,2,4,5,6,7,9,10,11] rfl
   refine seq_list fun K22 k22=>?_
   refine ls 6 H<|sr 2 rfl<|sy rfl<|sf fI rfl<|sy rfl<|sl S 2 aW G G G<|sy rfl<|sf gR rfl<|sy rfl<|sl S 1 aE G G G<|sE ?_;clear H a;intro a H
   refine aX H G G ?_
   refine aA H G G Try.func51 G G (dJ xs XA xc _ _ (hxs.now S) hxn) ?_;clear H a
   rintro _ _ a ⟨rfl,S2⟩ H
   replace S:=S.call S2;clear S2
   first|rw [hcA] at H|rw [hcB] at H
   refine ls 16 H<|sy rfl<|sr 1 rfl<|sa G G G<|sr 1 rfl<|sn G G G<|sn G G G<|sn G G G<|sn G G G<|sn G G G<|sn G G G<|sn G G G<|sn G G G<|sn G G G<|sn G G G<|sn G G G<|sn G G G<|sd ((aR G G G))<|sE ?_;clear H a;intro a H
   refine k22 _ _ ?_;clear k22 K22
   refine cond_ H rfl (fun hc8=>?_) (fun hc8=>?_)
   ·skip
    try simp only [o1,o2,o3,o4,o5,o6,o7,o8,o9,oa] at hc8
    exfalso;simp at hc8
   try simp only [o1,o2,o3,o4,o5,o6,o7,o8,o9,oa] at hc8
   refine wp_skip ?_
   refine k5 _ _ ?_
   replace H:=H.keep [0,1,2,9,10,11] rfl
   refine sO H<|sd (aH G G (by unfold i64ok;omega))<|sr 1 rfl<|sE ?_;clear H a;intro a H
   exact k2 (g1-1) (k+1,_) a _ (by omega) (by first|exact ⟨by omega,by omega,(jD (out:=out) (xs:=xs) hc2).symm ▸ hJ⟩|exact ⟨by omega,by omega,by rw [fZ hk4,hqB];exact hJ2⟩|exact ⟨by omega,by omega,by rw [fZ hk4,hqB];exact hJ⟩) (S.sel [0,2,3] G G) (H.keep [11,0,1,2,9,10] rfl)
  rw [hbk] at H
  have hqB:qB out xs (ps.getD k Psg.zero)=1:=by unfold qB;rw [hbk,hcB];rfl
  replace H:=H.keep [0,1,2,4,5,6,7,9,10,11] rfl
  refine xT fun K24 k24=>?_
  refine mD 20 ?_
  refine ls 6 H<|sr 2 rfl<|sy rfl<|sf fI rfl<|sy rfl<|sl S 2 aW G G G<|sy rfl<|sf gR rfl<|sy rfl<|sl S 1 aE G G G<|sE ?_;clear H a;intro a H
  refine aX H G G ?_
  refine aA H G G Try.func51 G G (dJ xs XA xc _ _ (hxs.now S) hxn) ?_;clear H a
  rintro _ _ a ⟨rfl,S2⟩ H
  replace S:=S.call S2;clear S2
  first|rw [hcA] at H|rw [hcB] at H
  refine ls 13 H<|sy rfl<|sr 1 rfl<|sa G G G<|sr 1 rfl<|sy rfl<|sr 1 rfl<|sy rfl<|sr 1 rfl<|sy rfl<|sf gR rfl<|sy rfl<|sl S 1 aE G G G<|sy rfl<|sf gQ rfl<|sy rfl<|sl S 1 aE G G G<|sy rfl<|sr 1 rfl<|sy rfl<|sf mH rfl<|sy rfl<|sl S 1 aE G G G<|sy rfl<|sd (aO yQ G G)<|sE ?_;clear H a;intro a H
  refine wpList_nil ?_
  refine xU H G G G ?_
  have SY:=(St.pack (Ms:=[_,_,_]) (R:=[_]) (S.sel [1,2,3,0] G G)).sel [1,0] G G
  have hhd:=tX (out:=out) (xs:=xs) (show k<ps.length by omega) hk4 (by rw [hbk,hcB];rfl)
  refine qX H G G (v := .agg (Hd.cells ((hds out xs ps).getD ((hdsTo out xs ps k).length+qA xs (ps.getD k Psg.zero)) Hd.zero)).toArray) (by rw [hhd.1];rfl) (hr _ _ _ _ hhd.2 hJ SY) (fun _ _ h=>h.1) ?_;clear H a
  rintro _ a ⟨_,m2,hJ2,S2⟩ H
  replace S:=St.unpack (S2.sel [1,0] G G);clear S2 SY
  refine mD 2 ?_
  refine ls 2 H<|sy rfl<|sr 1 rfl<|sa G G G<|sE ?_;clear H a;intro a H
  refine wpList_nil ?_
  refine k24 _ _ ?_;clear k24 K24
  refine cond_ H rfl (fun hc9=>?_) (fun hc9=>?_)
  ·skip
   try simp only [o1,o2,o3,o4,o5,o6,o7,o8,o9,oa] at hc9
   exfalso;simp at hc9
  try simp only [o1,o2,o3,o4,o5,o6,o7,o8,o9,oa] at hc9
  refine wp_skip ?_
  refine k5 _ _ ?_
  replace H:=H.keep [0,1,2,9,10,11] rfl
  refine sO H<|sd (aH G G (by unfold i64ok;omega))<|sr 1 rfl<|sE ?_;clear H a;intro a H
  exact k2 (g1-1) (k+1,_) a _ (by omega) (by first|exact ⟨by omega,by omega,(jD (out:=out) (xs:=xs) hc2).symm ▸ hJ⟩|exact ⟨by omega,by omega,by rw [fZ hk4,hqB];exact hJ2⟩|exact ⟨by omega,by omega,by rw [fZ hk4,hqB];exact hJ⟩) (S.sel [3,1,2] G G) (H.keep [11,0,1,2,9,10] rfl)
 refine wp_exit ?_
 refine ret0 (fn:=Try.f102) rfl H ?_
 have hkn:k=ps.length:=by omega
 subst hkn
 exact ⟨_,hJ,(S.sel [0,1,2] G G)⟩
end
section
theorem iG (P T:Nat) (ps:List Psg) (PA:Option Addr) (pc:Nat) (xs:List Int) (XA:Option Addr) (xc:Nat) (b31:Nat) (EA:Option Addr) (p t:Nat) (w:World) (F:Nat→Prop) (S:St w F [boxM b31 146 [.int .i64 (P:Int),.slice PA ps.length pc,.slice XA xs.length xc,.int .i64 (T:Int),.slice EA ((P*(T+1))+2) ((P*(T+1))+2),.int .i64 (((P*(T+1)):Nat):Int),.int .i64 (((P*(T+1))+1:Nat):Int)]] w) (hp:p≤100000) (ht:t≤100000) (hP:P≤1000) :
    Calls Try.prog 74 [.pointer (some ⟨b31,0,none⟩),.int .i64 (p:Int),.int .i64 (t:Int)].toArray w (Ret fun u w'=>u = .int .i64 ((nd P t p:Nat):Int)∧St w F [boxM b31 146 [.int .i64 (P:Int),.slice PA ps.length pc,.slice XA xs.length xc,.int .i64 (T:Int),.slice EA ((P*(T+1))+2) ((P*(T+1))+2),.int .i64 (((P*(T+1)):Nat):Int),.int .i64 (((P*(T+1))+1:Nat):Int)]] w'):=by
  have hb:P*t≤1000*100000:=Nat.mul_le_mul hP ht
  have hb2:((P*t:Nat):Int)=(P:Int)*(t:Int):=Int.natCast_mul P t
  have h:=zN ⟨(P*(T+1))+2,fun _=>0,fun _ _=>0,fun _ _=>0⟩ (fun _ _=>0) (fun _ _=>Mv.zero) b31 (P:Int) (T:Int) _ _ EA (fun _=>none) (fun _=>0) (P*(T+1)) ((P*(T+1))+1) (p:Int) (t:Int) w F S (by omega) (by unfold i64ok;omega) (by unfold i64ok;omega)
  refine jS h fun v w' h=>⟨h.1.trans ?_,h.2⟩
  unfold nd
  rw [Int.natCast_add,hb2]
def JG (P T:Nat) (J:List Jn) (n:Nat):Prop:=(∀ j ∈ J,JOk P T j)∧J.length≤n
theorem JG.snoc {P T n:Nat} {J:List Jn} {j:Jn} (h:JG P T J n) (hj:JOk P T j):JG P T (J++[j]) (n+1):=
  ⟨fun x hx=>by
    rcases List.mem_append.1 hx with hx|hx
    · exact h.1 x hx
    · rw [List.mem_singleton.1 hx];exact hj,by have:=h.2;simp;omega⟩
theorem JG.len {P T n:Nat} {J:List Jn} (h:JG P T J n) (hn:n≤1000000):∀ i,i<(P*(T+1))+2→(joins J i).length≤1000000:=fun i _=>Nat.le_trans (wH J (fun j hj=>(h.1 j hj).1) i) (Nat.le_trans h.2 hn)
theorem JG.places {P T p:Nat} {pe xs:List Int} (hp:p≤P):JG P T (aU P T pe xs p) (p*(2*T+2)):=⟨kE hp,lY p⟩
theorem nM {P p t:Nat} {A:List Jn} {b:Jn}:A++(b::bX P p (t+1))=(A++(b::bX P p t))++[jWait P p t]:=by unfold bX;rw [kD];simp
theorem nN {P T p t:Nat} {A B:List Jn} {b:Jn}:A++(b::(B++dE P T p (t+1)))=(A++(b::(B++dE P T p t)))++[jExit P T p t]:=by unfold dE;rw [kD];simp
theorem nO {P t:Nat} {h:Hd} {A:List Jn}:A++eL P h (t+1)=(A++eL P h t)++[jHead P h t]:=by unfold eL;rw [kD];simp
theorem zS {P T p:Nat} {A:List Jn} {b:Jn}:A++(b::bX P p T)=A++(b::(bX P p T++dE P T p 0)):=by rw [show dE P T p 0=[] from rfl,List.append_nil]
theorem zT {P:Nat} {h:Hd} {A:List Jn}:A=A++eL P h 0:=(List.append_nil A).symm
theorem Dm {P T:Nat} {hs:List Hd} {A:List Jn}:A=A++cO P T hs 0:=(List.append_nil A).symm
theorem zU {P T p:Nat} {pe xs:List Int} (h:hasI xs p=false):aU P T pe xs p++(jBeg P T pe p::bX P p T)=aU P T pe xs (p+1):=by
  rw [aU,gL,if_neg (by rw [h];simp),List.append_nil]
theorem oO {P T p:Nat} {pe xs:List Int} (h:hasI xs p=true):aU P T pe xs p++(jBeg P T pe p::(bX P p T++dE P T p (T+1)))=aU P T pe xs (p+1):=by
  rw [aU,gL,if_pos h]
theorem oP (P T:Nat) (ps:List Psg) (PA:Option Addr) (pc:Nat) (xs:List Int) (XA:Option Addr) (xc:Nat) (b31:Nat) (EA:Option Addr) (p:Int) (t:Nat) (w:World) (F:Nat→Prop) (S:St w F [boxM b31 146 [.int .i64 (P:Int),.slice PA ps.length pc,.slice XA xs.length xc,.int .i64 (T:Int),.slice EA ((P*(T+1))+2) ((P*(T+1))+2),.int .i64 (((P*(T+1)):Nat):Int),.int .i64 (((P*(T+1))+1:Nat):Int)]] w) (hp:0≤p∧p≤100000) (ht:t≤100000) (hP:P≤1000) :
    Calls Try.prog 74 [.pointer (some ⟨b31,0,none⟩),.int .i64 p,.int .i64 (t:Int)].toArray w (Ret fun u w'=>u = .int .i64 ((nd P t p.toNat:Nat):Int)∧St w F [boxM b31 146 [.int .i64 (P:Int),.slice PA ps.length pc,.slice XA xs.length xc,.int .i64 (T:Int),.slice EA ((P*(T+1))+2) ((P*(T+1))+2),.int .i64 (((P*(T+1)):Nat):Int),.int .i64 (((P*(T+1))+1:Nat):Int)]] w'):=by
  have h:=iG P T ps PA pc xs XA xc b31 EA p.toNat t w F S (by omega) ht hP
  rw [Int.toNat_of_nonneg hp.1] at h
  exact h
theorem zV:∀ k j,j<1→[Value.slice none 0 0].getD j undef=hdc (fun _=>none) (tlen (joins [])) (fun _=>0) k j:=by
  intro k j hj
  have:j=0:=by omega
  subst this;rfl
theorem zW (P T:Nat) (ps:List Psg) (PA:Option Addr) (pc:Nat) (xs:List Int) (XA:Option Addr) (xc:Nat) (out:Int) (pe:List Int) (BA:Option Addr) (bc:Nat) (w:World) (hps:InS w noF 7 PA ps.length (pcell ps)) (hpn:ps.length≤9223372036854775807) (hxs:InS w noF 1 XA xs.length (icl xs)) (hxn:xs.length≤9223372036854775807) (hmv:∀ k,k<ps.length→(ps.getD k Psg.zero).kind=3→0≤(ps.getD k Psg.zero).mach∧(ps.getD k Psg.zero).mach≤11) (hout:0≤out) (hpe:InS w noF 1 BA pe.length (icl pe)) (hpl:pe.length=P) (hP:1≤P∧P≤10) (hT:T≤60) (hpn8:ps.length≤24) (hhd:∀ i,i<(hds out xs ps).length→HdOk P ((hds out xs ps).getD i Hd.zero)) :
    Calls Try.prog 41 [.agg [.int .i64 (P:Int),.slice PA ps.length pc,.slice XA xs.length xc].toArray,.int .i64 out,.slice BA pe.length bc,.int .i64 (T:Int)].toArray w (Ret (fun u w'=>∃ b31 EA A' c',u = .pointer (some ⟨b31,0,none⟩)∧St w noF [boxM b31 146 [.int .i64 (P:Int),.slice PA ps.length pc,.slice XA xs.length xc,.int .i64 (T:Int),.slice EA ((P*(T+1))+2) ((P*(T+1))+2),.int .i64 (((P*(T+1)):Nat):Int),.int .i64 (((P*(T+1))+1:Nat):Int)],ownM 194 1 EA ((P*(T+1))+2) ((P*(T+1))+2) (hdc A' (tlen (joins (jAll P T pe xs (hds out xs ps)))) c'),ragM 196 7 (fun q=>q<(P*(T+1))+2) A' (tlen (joins (jAll P T pe xs (hds out xs ps)))) c' (tcell (joins (jAll P T pe xs (hds out xs ps))))] w')):=by
 have hC:P*(T+1)≤10*61:=Nat.mul_le_mul (by omega) (by omega)
 have hC2:((P*(T+1):Nat):Int)=(P:Int)*((T:Int)+1):=by rw [Int.natCast_mul];rfl
 refine Ct Try.func41 rfl Try.ntmps41 rfl (fun a H=>?_)
 have S:=St.start w
 refine seq_list fun K1 k1=>?_
 refine aV H rfl S G G ?_;clear H a S;intro b4 _ a hb4 hbw4 S H
 refine aV H rfl S G G ?_;clear H a S;intro b7 _ a hb7 hbw7 S H
 refine ls 1 H<|sr 1 rfl<|sE ?_;clear H a;intro a H
 refine k1 _ _ ?_;clear k1 K1
 refine sS H fun K2 k2=>sf eE rfl<|sl S 1 aE G G G<|sl S 0 aE G G G<|sd (aH G G (by unfold i64ok;omega))<|sd ((mL G G (by rw [←hC2];unfold i64ok;omega)).to (v' := .int .i64 ((P*(T+1):Nat):Int)) (by rw [hC2]))<|sr 1 rfl<|sE ?_;clear H a;intro a H
 refine k2 _ ?_;clear k2 K2
 have SR:=(S.sel [0,1] G G)
 refine meet_sr (X:=Nat×Nat×Option Addr) [1,2,4,7] H rfl (fun ⟨b10,b31,EA⟩=>[(10,.pointer (some ⟨b10,0,none⟩))]) (fun ⟨b10,b31,EA⟩=>[boxM b10 104 [.pointer (some ⟨b31,0,none⟩)],boxM b31 146 [.int .i64 (P:Int),.slice PA ps.length pc,.slice XA xs.length xc,.int .i64 (T:Int),.slice EA ((P*(T+1))+2) ((P*(T+1))+2),.int .i64 (((P*(T+1)):Nat):Int),.int .i64 (((P*(T+1))+1:Nat):Int)],ownM 194 1 EA ((P*(T+1))+2) ((P*(T+1))+2) (hdc (fun _=>none) (tlen (joins [])) (fun _=>0))]) (fun ⟨b10,b31,EA⟩=>True) SR (fun K3 k3=>?_) ?_
 ·skip
  replace H:=H.keep [1,2,4,7,9] rfl
  replace S:=S.drew
  refine one_wt 999 (.q 0 (.q 1 (.q 2 (.q 3 (.q 5 (.q 6 (.q 7 (.b2 4 (.q 8 (.b2 9 (.e 10 (.e 11 .nil)) 10 (.e 9 (.e 11 .nil)))) 10 (.e 4 (.q 8 (.e 9 (.e 11 .nil)))))))))))) (by kernel_rfl) (by kernel_rfl) (S.sel [0,1] G G) ?_
  refine aL H G G (fun _ S=>(aD dP fM rfl S (i:=1) G G)) ?_;clear H a;intro a H
  refine aL H G G (fun _ S=>aF aE rfl (boxM.rd S (i:=0) G G)) ?_;clear H a;intro a H
  refine aL H G G (fun _ S=>aP rfl) ?_;clear H a;intro a H
  refine aL H G G (fun _ S=>(aH G G (by unfold i64ok;omega)).to (v' := .int .i64 ((P*(T+1)+2:Nat):Int)) rfl) ?_;clear H a;intro a H
  refine aL H G G (fun _ S=>aP rfl) ?_;clear H a;intro a H
  refine aL H G G (fun _ S=>aP rfl) ?_;clear H a;intro a H
  refine aL H G G (fun _ S=>(aH G G (by unfold i64ok;omega)).to (v' := .int .i64 ((P*(T+1)+1:Nat):Int)) rfl) ?_;clear H a;intro a H
  refine dB G G ?_ ?_
  ·skip
   refine gA (n:=P*(T+1)+2) H rfl S eP eO yK yL rfl (by decide) G G (by omega) (by omega) ?_;clear H a S;intro A1 _ a hA1 S H
   replace S:=S.recell (i:=0) rfl (cell':=hdc (fun _=>none) (tlen (joins [])) (fun _=>0)) (fun k j _ hj=>zV k j hj)
   refine wpList_nil (And.intro (Or.inr (S.sel [1,2] G G)) ?_)
   refine aL H G G (fun _ S=>aO yP G G) ?_;clear H a;intro a H
   refine dB G G ?_ ?_
   ·skip
    refine aV H rfl S G G ?_;clear H a S;intro b31 _ a hb31 hbw31 S H
    refine wpList_nil (And.intro (Or.inr (S.sel [2,3] G G)) ?_)
    refine aK rfl ?_
    refine aI H rfl S tM ?_;clear H a S;intro b10 _ a hb10 hbw10 S H
    refine wpList_nil (And.intro (Or.inr (S.sel [3,4] G G)) ?_)
    refine aK rfl ?_
    refine aC H S (i:=0) G G G G tK G G ?_
    clear H a S;intro _ a S H
    refine wpList_nil (And.intro (Or.inr (S.sel [3,4] G G)) ?_)
    refine bF ?_
    exact k3 (b10,b31,_) a _ (trivial) (S.sel [0,1,2,3,4] G G) (H.keep [10,1,2,4,7] rfl)
   ·skip
    refine aI H rfl S tM ?_;clear H a S;intro b10 _ a hb10 hbw10 S H
    refine wpList_nil (And.intro (Or.inr (S.sel [2,3] G G)) ?_)
    refine aK rfl ?_
    refine aV H rfl S G G ?_;clear H a S;intro b31 _ a hb31 hbw31 S H
    refine wpList_nil (And.intro (Or.inr (S.sel [3,4] G G)) ?_)
    refine aK rfl ?_
    refine aC H S (i:=1) G G G G tK G G ?_
    clear H a S;intro _ a S H
    refine wpList_nil (And.intro (Or.inr (S.sel [3,4] G G)) ?_)
    refine bF ?_
    exact k3 (b10,b31,_) a _ (trivial) (S.sel [1,0,2,3,4] G G) (H.keep [10,1,2,4,7] rfl)
  ·skip
   refine aI H rfl S tM ?_;clear H a S;intro b10 _ a hb10 hbw10 S H
   refine wpList_nil (And.intro (Or.inr (S.sel [1,2] G G)) ?_)
   refine aK rfl ?_
   refine gA (n:=P*(T+1)+2) H rfl S eP eO yK yL rfl (by decide) G G (by omega) (by omega) ?_;clear H a S;intro A2 _ a hA2 S H
   replace S:=S.recell (i:=0) rfl (cell':=hdc (fun _=>none) (tlen (joins [])) (fun _=>0)) (fun k j _ hj=>zV k j hj)
   refine wpList_nil (And.intro (Or.inr (S.sel [2,3] G G)) ?_)
   refine aL H G G (fun _ S=>aO yP G G) ?_;clear H a;intro a H
   refine aK rfl ?_
   refine aV H rfl S G G ?_;clear H a S;intro b31 _ a hb31 hbw31 S H
   refine wpList_nil (And.intro (Or.inr (S.sel [3,4] G G)) ?_)
   refine aK rfl ?_
   refine aC H S (i:=2) G G G G tK G G ?_
   clear H a S;intro _ a S H
   refine wpList_nil (And.intro (Or.inr (S.sel [3,4] G G)) ?_)
   refine bF ?_
   exact k3 (b10,b31,_) a _ (trivial) (S.sel [2,0,1,3,4] G G) (H.keep [10,1,2,4,7] rfl)
 clear SR H S a
 intro xm a wm hp S H
 obtain ⟨b10,b31,EA⟩:=xm
 replace H:=H.keep [1,2,4,7,10] rfl
 refine seq_list fun K5 k5=>?_
 refine ls 1 H<|sd (aO tO G G)<|sE ?_;clear H a;intro a H
 refine aI H rfl S yI ?_;clear H a S;intro b11 _ a hb11 hbw11 S H
 refine aC H S (i:=0) G G G G nA G G ?_
 clear H a S;intro _ a S H
 refine k5 _ _ ?_;clear k5 K5
 refine wp_seq_k fun K6 k6=>?_
 refine sS H fun K7 k7=>sf eE rfl<|sl S 5 aE G G G<|sr 1 rfl<|sE ?_;clear H a;intro a H
 refine k7 _ ?_;clear k7 K7
 refine wp_block ?_
 replace S:=ragM.zero S 196 7 (fun q=>q<P*(T+1)+2) (tcell (joins []))
 refine loop_st (X:=Nat×(Nat→Option Addr)×(Nat→Nat)) (R0:=_) [1,2,4,7,10,11,34] H rfl (fun ⟨p,A',c'⟩=>[(35,.int .i64 (p:Int))]) (fun ⟨p,A',c'⟩=>[ownM 194 1 EA ((P*(T+1))+2) ((P*(T+1))+2) (hdc A' (tlen (joins (aU P T pe xs p))) c'),ragM 196 7 (fun q=>q<(P*(T+1))+2) A' (tlen (joins (aU P T pe xs p))) c' (tcell (joins (aU P T pe xs p)))]) (fun g ⟨p,A',c'⟩=>p≤P∧g+p=P) (P) (0,_,_) ?_ (S.sel [4,0,1,2,3,5,6] G G) (H.keep [35,1,2,4,7,10,11,34] rfl) ?_
 · exact ⟨by omega,by omega⟩
 clear H S a
 intro g1 x1 a w1 hp S H K8 k8
 obtain ⟨p,A',c'⟩:=x1
 dsimp only at hp S H
 refine sS H fun K9 k9=>sr 1 rfl<|sE ?_;clear H a;intro a H
 refine k9 _ ?_;clear k9 K9
 refine wp_seq_k fun K10 k10=>?_
 refine condL H rfl (fun hc1=>?_) (fun hc1=>?_)
 ·skip
  refine wp_skip ?_
  refine k10 _ _ ?_
  refine wp_seq_k fun K11 k11=>?_
  refine wp_block ?_
  refine sS H fun K12 k12=>sr 2 rfl<|sE ?_;clear H a;intro a H
  refine k12 _ ?_;clear k12 K12
  have hpP:p<P:=by omega
  have hb1:p*(2*T+2)≤10*122:=Nat.mul_le_mul (by omega) (by omega)
  have hG:=JG.places (T:=T) (pe:=pe) (xs:=xs) (Nat.le_of_lt hpP)
  have hlen9:=hG.len (by omega)
  replace H:=H.keep [1,2,4,7,10,11,12,34,35] rfl
  replace S:=S.drew
  refine seq_wq [(0,true),(1,true),(2,true),(3,true),(4,true),(5,true),(6,true),(8,true),(9,true),(10,true),(11,true),(12,true),(7,false),(13,false)] (by kernel_rfl) (by kernel_rfl) (S.sel [2,3,4,5,6] G G) fun K13 k13=>?_
  refine qF H<|qd rfl (fun _ S=>aF dT rfl (boxM.rd S (i:=1) G G))<|qd rfl (fun _ S=>aF dT rfl (boxM.rd S (i:=1) G G))<|qr 1 rfl<|qd rfl (fun _ S=>(aB kS rfl))<|qd rfl (fun _ S=>aF aE rfl (boxM.rd S (i:=2) G G))<|qd rfl (fun _ S=>aF dT rfl (boxM.rd S (i:=1) G G))<|qr 3 rfl<|qd rfl (fun _ S=>dA aM bC G G (hpe.adr (by omega)) (by omega))<|qd rfl (fun _ S=>aF aE rfl (hpe.rd S (by omega) (by omega)))<|qd rfl (fun _ S=>(aD mE nA rfl S (i:=0) G G))<|qK ?_;clear H a;intro a H
  refine aT rfl ?_
  have S1:=(S.sel [4] G G)
  refine aA H G G Try.func74 G G (iG P T ps PA pc xs XA xc b31 EA p 0 _ _ S1.startR (by omega) (by omega) (by omega)) ?_;clear H a
  rintro _ _ a ⟨rfl,S2⟩ H
  replace S:=(S.sel [4,0,1,2,3,5,6] G G).callR (M:=[_]) S2;clear S1 S2
  refine wpList_nil (And.intro (S.sel [3,4,0,5,6] G G) ?_)
  refine aT rfl ?_
  have S1:=(S.sel [0,1,2] G G)
  refine aA H G G Try.func73 G G (lB (joins (aU P T pe xs p)) ((P*(T+1))+2) b31 (P:Int) (T:Int) _ _ EA A' c' (P*(T+1)) ((P*(T+1))+1) (P*(T+1)) (nd P 0 p) (pe.getD p 0) (-1) 0 0 0 _ _ S1.startR ((kY (T:=T) (pe:=pe) hpP)).2.1 ((kY (T:=T) (pe:=pe) hpP)).2.2 ((kY (T:=T) (pe:=pe) hpP)).1 hlen9) ?_;clear H a
  rintro _ _ a ⟨rfl,A2,c2,S2⟩ H
  replace S:=(S.sel [0,1,2,3,4,5,6] G G).callR (M:=[_,_,_]) S2;clear S1 S2
  have e9:joinT (joins (aU P T pe xs p)) (P*(T+1)) (nd P 0 p) (pe.getD p 0) ⟨-1,0,0,0⟩=joins ((aU P T pe xs p)++[jBeg P T pe p]):=(fF (aU P T pe xs p) (jBeg P T pe p)).symm
  rw [e9] at S
  refine wpList_nil (And.intro (S.sel [3,4,0,5,6] G G) ?_)
  refine bM ?_
  refine k13 _ _ ?_
  clear k13 K13
  refine wp_seq_k fun K14 k14=>?_
  replace H:=H.keep [1,2,4,7,10,11,12,34,35] rfl
  refine sS H fun K15 k15=>sl S 5 aE G G G<|sr 1 rfl<|sE ?_;clear H a;intro a H
  refine k15 _ ?_;clear k15 K15
  refine wp_block ?_
  refine loop_st (X:=Nat×(Nat→Option Addr)×(Nat→Nat)) (R0:=_) [1,2,4,7,10,11,12,34,35,52] H rfl (fun ⟨t,A',c'⟩=>[(53,.int .i64 (t:Int))]) (fun ⟨t,A',c'⟩=>[ownM 194 1 EA ((P*(T+1))+2) ((P*(T+1))+2) (hdc A' (tlen (joins ((aU P T pe xs p)++(jBeg P T pe p::bX P p t)))) c'),ragM 196 7 (fun q=>q<(P*(T+1))+2) A' (tlen (joins ((aU P T pe xs p)++(jBeg P T pe p::bX P p t)))) c' (tcell (joins ((aU P T pe xs p)++(jBeg P T pe p::bX P p t))))]) (fun g ⟨t,A',c'⟩=>t≤T∧g+t=T∧JG P T ((aU P T pe xs p)++(jBeg P T pe p::bX P p t)) (p*(2*T+2)+1+t)) (T) (0,_,_) ?_ (S.sel [1,2,0,3,4,5,6] G G) (H.keep [53,1,2,4,7,10,11,12,34,35,52] rfl) ?_
  · exact ⟨by omega,by omega,hG.snoc (kY hpP)⟩
  clear H S a
  intro g2 x2 a w2 hp S H K16 k16
  obtain ⟨t,A',c'⟩:=x2
  dsimp only at hp S H
  obtain ⟨htl,hgt,hG2⟩:=hp
  refine sS H fun K17 k17=>sr 1 rfl<|sE ?_;clear H a;intro a H
  refine k17 _ ?_;clear k17 K17
  refine wp_seq_k fun K18 k18=>?_
  refine condL H rfl (fun hc2=>?_) (fun hc2=>?_)
  ·skip
   refine wp_skip ?_
   refine k18 _ _ ?_
   refine wp_seq_k fun K19 k19=>?_
   refine wp_block ?_
   refine sS H fun K20 k20=>sr 2 rfl<|sE ?_;clear H a;intro a H
   refine k20 _ ?_;clear k20 K20
   have htT:t<T:=by omega
   have hlen9:=hG2.len (by omega)
   replace H:=H.keep [1,2,4,7,10,11,12,13,34,35,52,53] rfl
   replace S:=S.drew
   refine one_wq [(0,true),(1,true),(2,true),(3,true),(5,true),(6,true),(7,true),(8,true),(10,true),(4,false),(9,false),(11,false)] (by kernel_rfl) (by kernel_rfl) (S.sel [2,3,4,5,6] G G) ?_
   refine qF H<|qd rfl (fun _ S=>aF dT rfl (boxM.rd S (i:=2) G G))<|qd rfl (fun _ S=>aF dT rfl (boxM.rd S (i:=2) G G))<|qr 2 rfl<|qd rfl (fun _ S=>aF dT rfl (boxM.rd S (i:=2) G G))<|qr 2 rfl<|qd rfl (fun _ S=>aH G G (by unfold i64ok;omega))<|qd rfl (fun _ S=>(aD mE nA rfl S (i:=1) G G))<|qK ?_;clear H a;intro a H
   refine aT rfl ?_
   have S1:=(S.sel [2] G G)
   refine aA H G G Try.func74 G G (iG P T ps PA pc xs XA xc b31 EA p t _ _ S1.startR (by omega) (by omega) (by omega)) ?_;clear H a
   rintro _ _ a ⟨rfl,S2⟩ H
   replace S:=(S.sel [2,0,1,3,4,5,6] G G).callR (M:=[_]) S2;clear S1 S2
   refine wpList_nil (And.intro (S.sel [0,3,4,5,6] G G) ?_)
   refine aT rfl ?_
   have S1:=(S.sel [0] G G)
   refine aA H G G Try.func74 G G (iG P T ps PA pc xs XA xc b31 EA p (t+1) _ _ S1.startR (by omega) (by omega) (by omega)) ?_;clear H a
   rintro _ _ a ⟨rfl,S2⟩ H
   replace S:=(S.sel [0,1,2,3,4,5,6] G G).callR (M:=[_]) S2;clear S1 S2
   refine wpList_nil (And.intro (S.sel [0,3,4,5,6] G G) ?_)
   refine aT rfl ?_
   have S1:=(S.sel [0,1,2] G G)
   refine aA H G G Try.func73 G G (lB (joins ((aU P T pe xs p)++(jBeg P T pe p::bX P p t))) ((P*(T+1))+2) b31 (P:Int) (T:Int) _ _ EA A' c' (P*(T+1)) ((P*(T+1))+1) (nd P t p) (nd P (t+1) p) 1099511627776 (-1) 0 0 0 _ _ S1.startR ((jE hpP htT)).2.1 ((jE hpP htT)).2.2 ((jE hpP htT)).1 hlen9) ?_;clear H a
   rintro _ _ a ⟨rfl,A2,c2,S2⟩ H
   replace S:=(S.sel [0,1,2,3,4,5,6] G G).callR (M:=[_,_,_]) S2;clear S1 S2
   have e9:joinT (joins ((aU P T pe xs p)++(jBeg P T pe p::bX P p t))) (nd P t p) (nd P (t+1) p) 1099511627776 ⟨-1,0,0,0⟩=joins (((aU P T pe xs p)++(jBeg P T pe p::bX P p t))++[jWait P p t]):=(fF ((aU P T pe xs p)++(jBeg P T pe p::bX P p t)) (jWait P p t)).symm
   rw [e9] at S
   refine wpList_nil (And.intro (S.sel [0,3,4,5,6] G G) ?_)
   refine bM ?_
   refine k19 _ _ ?_
   replace H:=H.keep [1,2,4,7,10,11,12,34,35,52,53] rfl
   refine sO H<|sd (aH G G (by unfold i64ok;omega))<|sr 1 rfl<|sE ?_;clear H a;intro a H
   rw [←nM] at S
   exact k16 (g2-1) (t+1,_,_) a _ (by omega) (⟨by omega,by omega,by rw [nM];exact hG2.snoc (jE hpP htT)⟩) (S.sel [1,2,0,3,4,5,6] G G) (H.keep [53,1,2,4,7,10,11,12,34,35,52] rfl)
  refine wp_exit ?_
  refine k14 _ _ ?_
  refine seq_list fun K23 k23=>?_
  refine ls 3 H<|sf fI rfl<|sl S 6 aW G G G<|sr 1 rfl<|sE ?_;clear H a;intro a H
  refine aA H G G Try.func51 G G (dJ xs XA xc _ _ (hxs.now S) hxn) ?_;clear H a
  rintro _ _ a ⟨rfl,S2⟩ H
  replace S:=S.call S2;clear S2
  refine k23 _ _ ?_;clear k23 K23
  refine cond_ H rfl (fun hc3=>?_) (fun hc3=>?_)
  ·skip
   try simp only [o1,o2,o3,o4,o5,o6,o7,o8,o9,oa] at hc3
   have hTt:t=T:=by omega
   rw [hTt] at S hG2
   rw [zS] at S
   refine sS H fun K24 k24=>sl S 5 aE G G G<|sd (aH G G (by unfold i64ok;omega))<|sr 1 rfl<|sE ?_;clear H a;intro a H
   refine k24 _ ?_;clear k24 K24
   refine wp_block ?_
   refine loop_st (X:=Nat×(Nat→Option Addr)×(Nat→Nat)) (R0:=_) [1,2,4,7,10,11,12,34,35,74] H rfl (fun ⟨t,A',c'⟩=>[(75,.int .i64 (t:Int))]) (fun ⟨t,A',c'⟩=>[ownM 194 1 EA ((P*(T+1))+2) ((P*(T+1))+2) (hdc A' (tlen (joins ((aU P T pe xs p)++(jBeg P T pe p::(bX P p T++dE P T p t))))) c'),ragM 196 7 (fun q=>q<(P*(T+1))+2) A' (tlen (joins ((aU P T pe xs p)++(jBeg P T pe p::(bX P p T++dE P T p t))))) c' (tcell (joins ((aU P T pe xs p)++(jBeg P T pe p::(bX P p T++dE P T p t)))))]) (fun g ⟨t,A',c'⟩=>t≤T+1∧g+t=T+1∧JG P T ((aU P T pe xs p)++(jBeg P T pe p::(bX P p T++dE P T p t))) (p*(2*T+2)+1+T+t)) (T+1) (0,_,_) ?_ (S.sel [0,1,2,3,4,5,6] G G) (H.keep [75,1,2,4,7,10,11,12,34,35,74] rfl) ?_
   · exact ⟨by omega,by omega,by rw [←zS];exact hG2⟩
   clear H S a
   intro g3 x3 a w3 hp S H K25 k25
   obtain ⟨t,A',c'⟩:=x3
   dsimp only at hp S H
   obtain ⟨htl,hgt,hG2⟩:=hp
   refine sS H fun K26 k26=>sr 1 rfl<|sE ?_;clear H a;intro a H
   refine k26 _ ?_;clear k26 K26
   refine wp_seq_k fun K27 k27=>?_
   refine condL H rfl (fun hc4=>?_) (fun hc4=>?_)
   ·skip
    refine wp_skip ?_
    refine k27 _ _ ?_
    refine wp_seq_k fun K28 k28=>?_
    refine wp_block ?_
    refine sS H fun K29 k29=>sr 2 rfl<|sE ?_;clear H a;intro a H
    refine k29 _ ?_;clear k29 K29
    have htT:t≤T:=by omega
    have hlen9:=hG2.len (by omega)
    replace H:=H.keep [1,2,4,7,10,11,12,14,34,35,74,75] rfl
    replace S:=S.drew
    refine one_wq [(0,true),(1,true),(2,true),(3,true),(5,true),(6,true),(7,true),(8,true),(9,true),(4,false),(10,false)] (by kernel_rfl) (by kernel_rfl) (S.sel [2,3,4,5,6] G G) ?_
    refine qF H<|qd rfl (fun _ S=>aF dT rfl (boxM.rd S (i:=2) G G))<|qd rfl (fun _ S=>aF dT rfl (boxM.rd S (i:=2) G G))<|qr 2 rfl<|qd rfl (fun _ S=>aF dT rfl (boxM.rd S (i:=2) G G))<|qr 1 rfl<|qd rfl (fun _ S=>(aB nC rfl))<|qd rfl (fun _ S=>aF aE rfl (boxM.rd S (i:=0) G G))<|qd rfl (fun _ S=>(aD mE nA rfl S (i:=1) G G))<|qK ?_;clear H a;intro a H
    refine aT rfl ?_
    have S1:=(S.sel [2] G G)
    refine aA H G G Try.func74 G G (iG P T ps PA pc xs XA xc b31 EA p t _ _ S1.startR (by omega) (by omega) (by omega)) ?_;clear H a
    rintro _ _ a ⟨rfl,S2⟩ H
    replace S:=(S.sel [2,0,1,3,4,5,6] G G).callR (M:=[_]) S2;clear S1 S2
    refine wpList_nil (And.intro (S.sel [0,3,4,5,6] G G) ?_)
    refine aT rfl ?_
    have S1:=(S.sel [0,1,2] G G)
    refine aA H G G Try.func73 G G (lB (joins ((aU P T pe xs p)++(jBeg P T pe p::(bX P p T++dE P T p t)))) ((P*(T+1))+2) b31 (P:Int) (T:Int) _ _ EA A' c' (P*(T+1)) ((P*(T+1))+1) (nd P t p) ((P*(T+1))+1) 1099511627776 (-1) 0 0 0 _ _ S1.startR ((jF hpP htT)).2.1 ((jF hpP htT)).2.2 ((jF hpP htT)).1 hlen9) ?_;clear H a
    rintro _ _ a ⟨rfl,A2,c2,S2⟩ H
    replace S:=(S.sel [0,1,2,3,4,5,6] G G).callR (M:=[_,_,_]) S2;clear S1 S2
    have e9:joinT (joins ((aU P T pe xs p)++(jBeg P T pe p::(bX P p T++dE P T p t)))) (nd P t p) ((P*(T+1))+1) 1099511627776 ⟨-1,0,0,0⟩=joins (((aU P T pe xs p)++(jBeg P T pe p::(bX P p T++dE P T p t)))++[jExit P T p t]):=(fF ((aU P T pe xs p)++(jBeg P T pe p::(bX P p T++dE P T p t))) (jExit P T p t)).symm
    rw [e9] at S
    refine wpList_nil (And.intro (S.sel [0,3,4,5,6] G G) ?_)
    refine bM ?_
    refine k28 _ _ ?_
    replace H:=H.keep [1,2,4,7,10,11,12,34,35,74,75] rfl
    refine sO H<|sd (aH G G (by unfold i64ok;omega))<|sr 1 rfl<|sE ?_;clear H a;intro a H
    rw [←nN] at S
    exact k25 (g3-1) (t+1,_,_) a _ (by omega) (⟨by omega,by omega,by rw [nN];exact hG2.snoc (jF hpP htT)⟩) (S.sel [1,2,0,3,4,5,6] G G) (H.keep [75,1,2,4,7,10,11,12,34,35,74] rfl)
   refine wp_exit ?_
   refine k11 _ _ ?_
   refine sO H<|sd (aH G G (by unfold i64ok;omega))<|sr 1 rfl<|sE ?_;clear H a;intro a H
   first|(rw [show t=T+1 by omega,oO hc3] at S)|skip
   exact k8 (g1-1) (p+1,_,_) a _ (by omega) (⟨by omega,by omega⟩) (S.sel [0,1,3,4,2,5,6] G G) (H.keep [35,1,2,4,7,10,11,34] rfl)
  try simp only [o1,o2,o3,o4,o5,o6,o7,o8,o9,oa] at hc3
  have hTt:t=T:=by omega
  rw [hTt] at S
  rw [zU hc3] at S
  refine wp_skip ?_
  refine k11 _ _ ?_
  refine sO H<|sd (aH G G (by unfold i64ok;omega))<|sr 1 rfl<|sE ?_;clear H a;intro a H
  first|(rw [show t=T+1 by omega,oO hc3] at S)|skip
  exact k8 (g1-1) (p+1,_,_) a _ (by omega) (⟨by omega,by omega⟩) (S.sel [0,1,3,4,2,5,6] G G) (H.keep [35,1,2,4,7,10,11,34] rfl)
 refine wp_exit ?_
 refine k6 _ _ ?_
 refine wp_seq_k fun K34 k34=>?_
 refine seq_list fun K35 k35=>?_
 refine ls 2 H<|sd ((aD dP fM rfl S (i:=6) G G))<|sr 1 rfl<|sE ?_;clear H a;intro a H
 refine aA H G G Try.func75 G G (nY (P:Int) ps PA pc xs XA xc out _) ?_;clear H a
 rintro _ _ a ⟨b2,b3,rfl,S2⟩ H
 replace S:=S.call S2;clear S2
 refine k35 _ _ ?_;clear k35 K35
 refine wp_block ?_
 replace H:=H.keep [7,10,93] rfl
 have hpP:p=P:=by omega
 rw [hpP] at S
 rw [Dm (P:=P) (T:=T) (hs:=hds out xs ps) (A:=aU P T pe xs P)] at S
 have SB:=St.pack (Ms:=[_,_,_,_,_]) (R:=[_,_,_,_]) (S.sel [7,5,6,2,3,0,1,4,8] G G)
 refine xS (cnt:=(hds out xs ps).length) H SB rfl Try.func102 G G G G G yJ (fun i=>Hd.cells ((hds out xs ps).getD i Hd.zero)) (fun _=>rfl) Cw (fun _=>rfl) (fun i M=>∃ A' c',M=bun [boxM b7 3 [.int .i64 (T:Int)],boxM b10 104 [.pointer (some ⟨b31,0,none⟩)],boxM b31 146 [.int .i64 (P:Int),.slice PA ps.length pc,.slice XA xs.length xc,.int .i64 (T:Int),.slice EA ((P*(T+1))+2) ((P*(T+1))+2),.int .i64 (((P*(T+1)):Nat):Int),.int .i64 (((P*(T+1))+1:Nat):Int)],ownM 194 1 EA ((P*(T+1))+2) ((P*(T+1))+2) (hdc A' (tlen (joins (aU P T pe xs P++cO P T (hds out xs ps) i))) c'),ragM 196 7 (fun q=>q<(P*(T+1))+2) A' (tlen (joins (aU P T pe xs P++cO P T (hds out xs ps) i))) c' (tcell (joins (aU P T pe xs P++cO P T (hds out xs ps) i)))]) (⟨_,_,rfl⟩) (fun _ _=>True) ?_ ?_ ?_
 ·intro ly Jm M w9 hJ9 S hr9
  have S1:=(S.sel [0,1,2] G G)
  refine jS (uE (P:Int) ps PA pc xs XA xc out b2 b3 ly Jm M w9 _ hJ9 S1.startR (hps.nowR S1) hpn (hxs.nowR S1) hxn hmv hout (fun i m' x w1 hi hJ SX=>hr9 i m' x _ _ w1 hi hJ trivial SX)) ?_
  rintro _ _ ⟨m',hJ',S2⟩
  exact ⟨m',hJ',((S.sel [0,1,2,3,4] G G).callR (M:=[_,_,_]) S2).sel [0,1,2,3,4] rfl rfl⟩
 ·intro ly i m9 x9 w00 F00 w9 a b15 hi9 hJ9 hIn9 S H
  obtain ⟨A',c',rfl⟩:=hJ9
  have hH9:=hhd i hi9
  unfold HdOk at hH9
  have hcn:=Dk (out:=out) (xs:=xs) (ps:=ps) ps.length
  have hb2:i*(T+1)≤48*61:=Nat.mul_le_mul (by unfold hds at hi9;omega) (by omega)
  have hb3:P*(2*T+2)≤10*122:=Nat.mul_le_mul (by omega) (by omega)
  replace S:=St.unpack (S.sel [1,0,2] G G)
  refine Rd.wp_block ?_
  refine Rd.sS H fun K36 k36=>sr 1 rfl<|sE ?_;clear H a;intro a H
  refine k36 _ ?_;clear k36 K36
  refine Rd.wp_block ?_
  rw [zT (P:=P) (h:=((hds out xs ps).getD i Hd.zero)) (A:=(aU P T pe xs P++cO P T (hds out xs ps) i))] at S
  refine Rd.loop_st (X:=Nat×(Nat→Option Addr)×(Nat→Nat)) (R0:=_) [7,10,15] H rfl (fun ⟨t,A',c'⟩=>[(16,.int .i64 (t:Int))]) (fun ⟨t,A',c'⟩=>[ownM 194 1 EA ((P*(T+1))+2) ((P*(T+1))+2) (hdc A' (tlen (joins ((aU P T pe xs P++cO P T (hds out xs ps) i)++eL P ((hds out xs ps).getD i Hd.zero) t))) c'),ragM 196 7 (fun q=>q<(P*(T+1))+2) A' (tlen (joins ((aU P T pe xs P++cO P T (hds out xs ps) i)++eL P ((hds out xs ps).getD i Hd.zero) t))) c' (tcell (joins ((aU P T pe xs P++cO P T (hds out xs ps) i)++eL P ((hds out xs ps).getD i Hd.zero) t)))]) (fun g ⟨t,A',c'⟩=>t≤T+1-((hds out xs ps).getD i Hd.zero).ticks.toNat∧g+t=T+1-((hds out xs ps).getD i Hd.zero).ticks.toNat∧JG P T ((aU P T pe xs P++cO P T (hds out xs ps) i)++eL P ((hds out xs ps).getD i Hd.zero) t) (P*(2*T+2)+i*(T+1)+t)) (T+1-((hds out xs ps).getD i Hd.zero).ticks.toNat) (0,_,_) ?_ (S.sel [3,4,0,1,2,5,6] G G) (H.keep [16,7,10,15] rfl) ?_
  · exact ⟨by omega,by omega,by rw [←zT];exact ⟨fun j hj=>(List.mem_append.1 hj).elim (fun h=>kE (Nat.le_refl _) j h) (fun h=>oL hhd (Nat.le_of_lt hi9) j h),by rw [List.length_append,Nat.add_zero];exact Nat.add_le_add (lY P) (tY i)⟩⟩
  clear H S a
  intro g4 x4 a w4 hp S H K37 k37
  obtain ⟨t,A',c'⟩:=x4
  dsimp only at hp S H
  obtain ⟨htl,hgt,hG2⟩:=hp
  refine Rd.wp_seq_k fun K38 k38=>?_
  refine Rd.sS H fun K39 k39=>sr 1 rfl<|sf rD rfl<|sl S 5 aE G G G<|sd (aH G G (by unfold i64ok;omega))<|sl S 2 aE G G G<|sr 1 rfl<|sE ?_;clear H a;intro a H
  refine k39 _ ?_;clear k39 K39
  refine Rd.condG H rfl (fun hc5=>?_) (fun hc5=>?_)
  ·skip
   refine Rd.wp_skip ?_
   refine k38 _ _ ?_
   refine Rd.wp_seq_k fun K40 k40=>?_
   refine Rd.wp_block ?_
   have htT:t+((hds out xs ps).getD i Hd.zero).ticks.toNat≤T:=by omega
   have hlen9:=hG2.len (by omega)
   replace H:=H.keep [7,10,15,16] rfl
   replace S:=S.drew
   refine Rd.one_wq [(0,true),(1,true),(2,true),(3,true),(4,true),(6,true),(7,true),(8,true),(9,true),(10,true),(11,true),(12,true),(14,true),(15,true),(16,true),(17,true),(18,true),(19,true),(20,true),(21,true),(5,false),(13,false),(22,false)] (by kernel_rfl) (by kernel_rfl) (S.sel [2,3,4,5,6] G G) ?_
   refine qF H<|qd rfl (fun _ S=>aF dT rfl (boxM.rd S (i:=1) G G))<|qd rfl (fun _ S=>aF dT rfl (boxM.rd S (i:=1) G G))<|qd rfl (fun _ S=>(aB rC rfl))<|qd rfl (fun _ S=>aF aE rfl (boxM.rd S (i:=3) G G))<|qr 1 rfl<|qd rfl (fun _ S=>aF dT rfl (boxM.rd S (i:=1) G G))<|qd rfl (fun _ S=>(aB yE rfl))<|qd rfl (fun _ S=>aF aE rfl (boxM.rd S (i:=3) G G))<|qr 1 rfl<|qd rfl (fun _ S=>(aB rD rfl))<|qd rfl (fun _ S=>aF aE rfl (boxM.rd S (i:=3) G G))<|qd rfl (fun _ S=>(aH G G (by unfold i64ok;omega)).to (v' := .int .i64 ((t+((hds out xs ps).getD i Hd.zero).ticks.toNat:Nat):Int)) (by congr 1;omega))<|qd rfl (fun _ S=>(aB yF rfl))<|qd rfl (fun _ S=>aF aE rfl (boxM.rd S (i:=3) G G))<|qd rfl (fun _ S=>(aB yD rfl))<|qd rfl (fun _ S=>aF aE rfl (boxM.rd S (i:=3) G G))<|qd rfl (fun _ S=>(aB rC rfl))<|qd rfl (fun _ S=>aF aE rfl (boxM.rd S (i:=3) G G))<|qr 1 rfl<|qd rfl (fun _ S=>aO tO G G)<|qK ?_;clear H a;intro a H
   refine aT rfl ?_
   have S1:=(S.sel [4] G G)
   refine aA H G G Try.func74 G G (oP P T ps PA pc xs XA xc b31 EA ((hds out xs ps).getD i Hd.zero).fr t _ _ S1.startR (by omega) (by omega) (by omega)) ?_;clear H a
   rintro _ _ a ⟨rfl,S2⟩ H
   replace S:=(S.sel [4,0,1,2,3,5,6] G G).callR (M:=[_]) S2;clear S1 S2
   refine wpList_nil (And.intro (S.sel [3,4,0,5,6] G G) ?_)
   refine aT rfl ?_
   have S1:=(S.sel [0] G G)
   refine aA H G G Try.func74 G G (oP P T ps PA pc xs XA xc b31 EA ((hds out xs ps).getD i Hd.zero).to (t+((hds out xs ps).getD i Hd.zero).ticks.toNat) _ _ S1.startR (by omega) (by omega) (by omega)) ?_;clear H a
   rintro _ _ a ⟨rfl,S2⟩ H
   replace S:=(S.sel [0,1,2,3,4,5,6] G G).callR (M:=[_]) S2;clear S1 S2
   refine wpList_nil (And.intro (S.sel [3,4,0,5,6] G G) ?_)
   refine aT rfl ?_
   have S1:=(S.sel [0,1,2] G G)
   refine aA H G G Try.func73 G G (lB (joins ((aU P T pe xs P++cO P T (hds out xs ps) i)++eL P ((hds out xs ps).getD i Hd.zero) t)) ((P*(T+1))+2) b31 (P:Int) (T:Int) _ _ EA A' c' (P*(T+1)) ((P*(T+1))+1) (nd P t ((hds out xs ps).getD i Hd.zero).fr.toNat) (nd P (t+((hds out xs ps).getD i Hd.zero).ticks.toNat) ((hds out xs ps).getD i Hd.zero).to.toNat) ((hds out xs ps).getD i Hd.zero).wide ((hds out xs ps).getD i Hd.zero).pas ((hds out xs ps).getD i Hd.zero).fr (t:Int) 0 _ _ S1.startR ((jG (T:=T) (show ((hds out xs ps).getD i Hd.zero).fr.toNat<P by omega) (show ((hds out xs ps).getD i Hd.zero).to.toNat<P by omega) (show 1≤((hds out xs ps).getD i Hd.zero).ticks.toNat by omega) htT)).2.1 ((jG (T:=T) (show ((hds out xs ps).getD i Hd.zero).fr.toNat<P by omega) (show ((hds out xs ps).getD i Hd.zero).to.toNat<P by omega) (show 1≤((hds out xs ps).getD i Hd.zero).ticks.toNat by omega) htT)).2.2 ((jG (T:=T) (show ((hds out xs ps).getD i Hd.zero).fr.toNat<P by omega) (show ((hds out xs ps).getD i Hd.zero).to.toNat<P by omega) (show 1≤((hds out xs ps).getD i Hd.zero).ticks.toNat by omega) htT)).1 hlen9) ?_;clear H a
   rintro _ _ a ⟨rfl,A2,c2,S2⟩ H
   replace S:=(S.sel [0,1,2,3,4,5,6] G G).callR (M:=[_,_,_]) S2;clear S1 S2
   have e9:joinT (joins ((aU P T pe xs P++cO P T (hds out xs ps) i)++eL P ((hds out xs ps).getD i Hd.zero) t)) (nd P t ((hds out xs ps).getD i Hd.zero).fr.toNat) (nd P (t+((hds out xs ps).getD i Hd.zero).ticks.toNat) ((hds out xs ps).getD i Hd.zero).to.toNat) ((hds out xs ps).getD i Hd.zero).wide ⟨((hds out xs ps).getD i Hd.zero).pas,((hds out xs ps).getD i Hd.zero).fr,(t:Int),0⟩=joins (((aU P T pe xs P++cO P T (hds out xs ps) i)++eL P ((hds out xs ps).getD i Hd.zero) t)++[jHead P ((hds out xs ps).getD i Hd.zero) t]):=(fF ((aU P T pe xs P++cO P T (hds out xs ps) i)++eL P ((hds out xs ps).getD i Hd.zero) t) (jHead P ((hds out xs ps).getD i Hd.zero) t)).symm
   rw [e9] at S
   refine wpList_nil (And.intro (S.sel [3,4,0,5,6] G G) ?_)
   refine bM ?_
   refine k40 _ _ ?_
   replace H:=H.keep [7,10,15,16] rfl
   refine Rd.sO H<|sr 1 rfl<|sd (aH G G (by unfold i64ok;omega))<|sr 1 rfl<|sE ?_;clear H a;intro a H
   rw [←nO] at S
   exact k37 (g4-1) (t+1,_,_) a _ (by omega) (⟨by omega,by omega,by rw [nO];exact hG2.snoc (jG (by omega) (by omega) (by omega) (by omega))⟩) (S.sel [1,2,3,4,0,5,6] G G) (H.keep [16,7,10,15] rfl)
  refine Rd.wp_exit ?_
  rw [show t=T+1-((hds out xs ps).getD i Hd.zero).ticks.toNat by omega,List.append_assoc] at S
  exact ⟨_,⟨_,_,rfl⟩,St.pack (Ms:=[_,_,_,_,_]) (R:=[_]) (S.sel [2,3,4,0,1,6] G G)⟩
 intro D m9 w9 a hJ9 S H
 obtain ⟨A',c',rfl⟩:=hJ9
 replace S:=St.unpack (S.sel [1,0,2,3,4,5] G G)
 refine k34 _ _ ?_
 refine sS H fun K43 k43=>sl S 1 dT G G G<|sr 1 rfl<|sE ?_;clear H a;intro a H
 refine k43 _ ?_;clear k43 K43
 refine wp_ret ?_
 refine retC1 (fn:=Try.f41) rfl H S (i:=5) G G (fun _ S=>?_)
 exact ⟨_,_,_,_,rfl,(S.sel [2,3,4] G G)⟩
end
section
theorem bZ (n lo hi:Int) (w:World) :
    Calls Try.prog 61 [.int .i64 n,.int .i64 lo,.int .i64 hi].toArray w (Ret (fun v w'=>v = .bool (decide (lo≤n)&&decide (n≤hi))∧w'=w)):=by
 refine enter Try.func61 rfl Try.ntmps61 rfl (fun a H=>?_)
 have S:=St.start w
 refine sS H fun K1 k1=>sr 1 rfl<|sE ?_;clear H a;intro a H
 refine k1 _ ?_;clear k1 K1
 replace H:=H.keep [0,1,2] rfl
 refine sS H fun K2 k2=>sr 4 rfl<|sg 3 3 10 13 true G G (fun hg4=>sy hg4<|sr 1 rfl<|sy hg4<|sr 1 rfl<|sy hg4<|sr 1 rfl<|sz 3 G G G)<|sa G G G<|sr 1 rfl<|sE ?_;clear H a;intro a H
 refine k2 _ ?_;clear k2 K2
 refine wp_ret ?_
 refine ret1 (fn:=Try.f61) rfl H rfl ?_
 exact ⟨rfl,rfl⟩
theorem qC (p1 p2 p3 p4 p5 p6 p7 pl:Int) (w:World) (hpl : -1000≤pl∧pl≤1000) :
    Calls Try.prog 88 [.agg [.int .i64 p1,.int .i64 p2,.int .i64 p3,.int .i64 p4,.int .i64 p5,.int .i64 p6,.int .i64 p7].toArray,.int .i64 pl].toArray w (Ret (fun v w'=>v = .bool (psgOk pl (⟨p1,p2,p3,p4,p5,p6,p7⟩:Psg))∧St w noF [] w')):=by
 refine enter Try.func88 rfl Try.ntmps88 rfl (fun a H=>?_)
 have S:=St.start w
 refine seq_list fun K1 k1=>?_
 refine aV H rfl S G G ?_;clear H a S;intro b2 _ a hb2 hbw2 S H
 refine ls 1 H<|sr 1 rfl<|sE ?_;clear H a;intro a H
 refine k1 _ _ ?_;clear k1 K1
 refine wp_seq_k fun K2 k2=>?_
 replace H:=H.keep [1,2] rfl
 refine sS H fun K3 k3=>sf gQ rfl<|sl S 0 aE G G G<|sr 1 rfl<|sd (cH G G (by unfold i64ok;omega))<|sc rfl Try.func61 G G (bZ _ _ _ _)<|sr 2 rfl<|sg 6 6 11 17 false G G (fun hg7=>sy hg7<|sf gR rfl<|sy hg7<|sl S 0 aE G G G<|sy hg7<|sr 1 rfl<|sy hg7<|sd (cH G G (by unfold i64ok;omega))<|sy hg7<|sc rfl Try.func61 G G (bZ _ _ _ _)<|sy hg7<|sr 1 rfl<|sz 6 G G G)<|so G G G<|sr 1 rfl<|sg 5 14 19 24 false G G (fun hg15=>sy hg15<|sf gQ rfl<|sy hg15<|sl S 0 aE G G G<|sy hg15<|sf gR rfl<|sy hg15<|sl S 0 aE G G G<|sy hg15<|sr 1 rfl<|sz 5 G G G)<|so G G G<|sr 1 rfl<|sg 4 21 26 30 false G G (fun hg22=>sy hg22<|sf pG rfl<|sy hg22<|sl S 0 aE G G G<|sy hg22<|sc rfl Try.func61 G G (bZ _ _ _ _)<|sy hg22<|sr 1 rfl<|sz 4 G G G)<|so G G G<|sr 1 rfl<|sg 4 27 32 36 false G G (fun hg28=>sy hg28<|sf mH rfl<|sy hg28<|sl S 0 aE G G G<|sy hg28<|sc rfl Try.func61 G G (bZ _ _ _ _)<|sy hg28<|sr 1 rfl<|sz 4 G G G)<|so G G G<|sE ?_;clear H a;intro a H
 refine k3 _ ?_;clear k3 K3
 refine cond_ H rfl (fun hc1=>?_) (fun hc1=>?_)
 ·skip
  try simp only [o1,o2,o3,o4,o5,o6,o7,o8,o9,oa] at hc1
  replace H:=H.keep [] rfl
  refine sS H fun K4 k4=>sr 1 rfl<|sE ?_;clear H a;intro a H
  refine k4 _ ?_;clear k4 K4
  refine wp_ret ?_
  refine ret1 (fn:=Try.f88) rfl H rfl ?_
  refine ⟨congrArg Value.bool ?_,(S.sel [] G G)⟩;exact (dX (by first|omega|(dsimp only;omega))).symm
 try simp only [o1,o2,o3,o4,o5,o6,o7,o8,o9,oa] at hc1
 refine wp_skip ?_
 refine k2 _ _ ?_
 refine wp_seq_k fun K5 k5=>?_
 refine sS H fun K6 k6=>sf dU rfl<|sl S 0 aE G G G<|sE ?_;clear H a;intro a H
 refine k6 _ ?_;clear k6 K6
 refine wp_block ?_
 have SR:=(S.sel [0] G G)
 refine meet_sr (X:=Bool) [2,39] H rfl (fun q=>[(40,.bool q)]) (fun q=>[]) (fun q=>q=decide (p3=1∨p3=2∨p3=5)) SR (fun K8 k8=>?_) ?_
 ·skip
  refine sS H fun K9 k9=>sr 2 rfl<|sE ?_;clear H a;intro a H
  refine k9 _ ?_;clear k9 K9
  refine condE H rfl (fun hc2=>?_) (fun hc2=>?_)
  ·skip
   refine wp_skip ?_
   exact k8 _ a _ (decide_eq_decide.2 (by omega)) (S.sel [0] G G) (H.keep [40,2,39] rfl)
  refine sS H fun K10 k10=>sr 2 rfl<|sE ?_;clear H a;intro a H
  refine k10 _ ?_;clear k10 K10
  refine condE H rfl (fun hc3=>?_) (fun hc3=>?_)
  ·skip
   refine wp_skip ?_
   exact k8 _ a _ (decide_eq_decide.2 (by omega)) (S.sel [0] G G) (H.keep [40,2,39] rfl)
  refine sO H<|sr 2 rfl<|sE ?_;clear H a;intro a H
  exact k8 _ a _ (decide_eq_decide.2 (by omega)) (S.sel [0] G G) (H.keep [40,2,39] rfl)
 clear SR H S a
 intro xm a wm hp S H
 obtain ⟨q,rfl⟩:∃ y,y=xm:=⟨_,rfl⟩
 subst hp
 refine cond_ H rfl (fun hc4=>?_) (fun hc4=>?_)
 ·skip
  simp only [o7,o8] at hc4
  replace H:=H.keep [2] rfl
  refine sS H fun K12 k12=>sf cX rfl<|sl S 0 aE G G G<|sr 2 rfl<|sg 3 3 47 50 true G G (fun hg4=>sy hg4<|sf gS rfl<|sy hg4<|sl S 0 aE G G G<|sy hg4<|sr 1 rfl<|sz 3 G G G)<|sa G G G<|sr 1 rfl<|sE ?_;clear H a;intro a H
  refine k12 _ ?_;clear k12 K12
  refine wp_ret ?_
  refine ret1 (fn:=Try.f88) rfl H rfl ?_
  refine ⟨congrArg Value.bool ?_,(S.sel [] G G)⟩;unfold psgOk;rw [←Bool.decide_and];exact decide_eq_decide.2 (by first|omega|(dsimp only;omega))
 simp only [o7,o8] at hc4
 replace H:=H.keep [2,39] rfl
 refine sS H fun K13 k13=>sr 2 rfl<|sE ?_;clear H a;intro a H
 refine k13 _ ?_;clear k13 K13
 refine condE H rfl (fun hc5=>?_) (fun hc5=>?_)
 ·skip
  replace H:=H.keep [2] rfl
  refine sS H fun K14 k14=>sf cX rfl<|sl S 0 aE G G G<|sc rfl Try.func61 G G (bZ _ _ _ _)<|sr 1 rfl<|sg 3 3 57 60 true G G (fun hg4=>sy hg4<|sf gS rfl<|sy hg4<|sl S 0 aE G G G<|sy hg4<|sc rfl Try.func61 G G (bZ _ _ _ _)<|sz 3 G G G)<|sa G G G<|sr 1 rfl<|sE ?_;clear H a;intro a H
  refine k14 _ ?_;clear k14 K14
  refine wp_ret ?_
  refine ret1 (fn:=Try.f88) rfl H rfl ?_
  refine ⟨congrArg Value.bool ?_,(S.sel [] G G)⟩;unfold psgOk;simp only [←Bool.decide_and];exact decide_eq_decide.2 (by first|omega|(dsimp only;omega))
 replace H:=H.keep [2,39] rfl
 refine sS H fun K15 k15=>sr 2 rfl<|sE ?_;clear H a;intro a H
 refine k15 _ ?_;clear k15 K15
 refine condE H rfl (fun hc6=>?_) (fun hc6=>?_)
 ·skip
  replace H:=H.keep [2] rfl
  refine sS H fun K16 k16=>sf cX rfl<|sl S 0 aE G G G<|sc rfl Try.func61 G G (bZ _ _ _ _)<|sr 1 rfl<|sg 3 3 67 70 true G G (fun hg4=>sy hg4<|sf gS rfl<|sy hg4<|sl S 0 aE G G G<|sy hg4<|sr 1 rfl<|sz 3 G G G)<|sa G G G<|sr 1 rfl<|sE ?_;clear H a;intro a H
  refine k16 _ ?_;clear k16 K16
  refine wp_ret ?_
  refine ret1 (fn:=Try.f88) rfl H rfl ?_
  refine ⟨congrArg Value.bool ?_,(S.sel [] G G)⟩;unfold psgOk;simp only [←Bool.decide_and];exact decide_eq_decide.2 (by first|omega|(dsimp only;omega))
 refine wp_skip ?_
 refine k5 _ _ ?_
 replace H:=H.keep [] rfl
 refine sS H fun K17 k17=>sr 1 rfl<|sE ?_;clear H a;intro a H
 refine k17 _ ?_;clear k17 K17
 refine wp_ret ?_
 refine ret1 (fn:=Try.f88) rfl H rfl ?_
 refine ⟨congrArg Value.bool ?_,(S.sel [] G G)⟩;exact (dX (by first|omega|(dsimp only;omega))).symm
theorem uF (pl:Int) (ps:List Psg) (PA:Option Addr) (pc:Nat) (xs:List Int) (XA:Option Addr) (xc:Nat) (w:World) (hps:InS w noF 7 PA ps.length (pcell ps)) (hpn:ps.length≤9223372036854775807) (hxs:InS w noF 1 XA xs.length (icl xs)) (hxn:xs.length≤9223372036854775807) :
    Calls Try.prog 60 [.agg [.int .i64 pl,.slice PA ps.length pc,.slice XA xs.length xc].toArray].toArray w (Ret (fun v w'=>v = .int .i64 (stE pl ps xs)∧St w noF [] w')):=by
 refine enter Try.func60 rfl Try.ntmps60 rfl (fun a H=>?_)
 have S:=St.start w
 refine seq_list fun K1 k1=>?_
 refine aV H rfl S G G ?_;clear H a S;intro b1 _ a hb1 hbw1 S H
 refine ls 1 H<|sr 1 rfl<|sE ?_;clear H a;intro a H
 refine k1 _ _ ?_;clear k1 K1
 refine wp_seq_k fun K2 k2=>?_
 replace H:=H.keep [1] rfl
 refine sS H fun K3 k3=>sf eE rfl<|sl S 0 aE G G G<|sc rfl Try.func61 G G (bZ _ _ _ _)<|sr 2 rfl<|sg 4 4 13 17 false G G (fun hg5=>sy hg5<|sf eF rfl<|sy hg5<|sl S 0 fR G G G<|sy hg5<|sL gH rfl<|sy hg5<|sr 1 rfl<|sz 4 G G G)<|so G G G<|sE ?_;clear H a;intro a H
 refine k3 _ ?_;clear k3 K3
 refine cond_ H rfl (fun hc1=>?_) (fun hc1=>?_)
 ·skip
  try simp only [o1,o2,o3,o4,o5,o6,o7,o8,o9,oa] at hc1
  replace H:=H.keep [] rfl
  refine sS H fun K4 k4=>sr 1 rfl<|sE ?_;clear H a;intro a H
  refine k4 _ ?_;clear k4 K4
  refine wp_ret ?_
  refine ret1 (fn:=Try.f60) rfl H rfl ?_
  exact ⟨congrArg _ (uW (by omega)).symm,(S.sel [] G G)⟩
 try simp only [o1,o2,o3,o4,o5,o6,o7,o8,o9,oa] at hc1
 refine wp_skip ?_
 refine k2 _ _ ?_
 refine seq_list fun K5 k5=>?_
 refine pA (fun n:Int => .int .i64 n) H rfl S ?_;clear H a S;intro b19 _ a hb19 S H
 refine ls 1 H<|sr 1 rfl<|sE ?_;clear H a;intro a H
 refine k5 _ _ ?_;clear k5 K5
 refine wp_seq_k fun K6 k6=>?_
 refine sS H fun K7 k7=>sf eF rfl<|sl S 1 fR G G G<|sL gH rfl<|sr 1 rfl<|sE ?_;clear H a;intro a H
 refine k7 _ ?_;clear k7 K7
 refine wp_block ?_
 refine loop_st (X:=Nat×List (Int×Value)) (R0:=_) [1,3,21,22] H rfl (fun ⟨k,l⟩=>[(23,.int .i64 (k:Int))]) (fun ⟨k,l⟩=>[mapM (fun n:Int => .int .i64 n) b19 l]) (fun g ⟨k,l⟩=>k≤ps.length∧g+k=ps.length∧allN (pasOk pl ps) k=true∧CntMap ps k l) (ps.length) (0,[]) ?_ (S.sel [0,1] G G) (H.keep [23,1,3,21,22] rfl) ?_
 · exact ⟨by omega,by omega,rfl,CntMap.nil ps⟩
 clear H S a
 intro g1 x1 a w1 hp S H K8 k8
 obtain ⟨k,l⟩:=x1
 dsimp only at hp S H
 obtain ⟨hkl,hgk,hA,hM⟩:=hp
 refine sS H fun K9 k9=>sr 1 rfl<|sE ?_;clear H a;intro a H
 refine k9 _ ?_;clear k9 K9
 refine wp_seq_k fun K10 k10=>?_
 refine condL H rfl (fun hc2=>?_) (fun hc2=>?_)
 ·skip
  refine wp_skip ?_
  refine k10 _ _ ?_
  refine wp_seq_k fun K11 k11=>?_
  refine wp_block ?_
  refine seq_list fun K12 k12=>?_
  refine ls 2 H<|si gH gG G G (hps.adr (by omega)) (by omega)<|sd ((cS mY gG rfl S hps (by omega) (by omega)))<|sE ?_;clear H a;intro a H
  refine aI H rfl S uO ?_;clear H a S;intro b5 _ a hb5 hbw5 S H
  refine aC H S (i:=0) G G G G gG G G ?_
  clear H a S;intro _ a S H
  refine k12 _ _ ?_;clear k12 K12
  refine wp_seq_k fun K13 k13=>?_
  replace H:=H.keep [1,3,5,21,22,23] rfl
  refine seq_list fun K14 k14=>?_
  refine ls 3 H<|sd ((aD mY gG rfl S (i:=0) G G))<|sf eE rfl<|sl S 2 aE G G G<|sE ?_;clear H a;intro a H
  refine aA H G G Try.func88 G G (qC _ _ _ _ _ _ _ pl _ (by omega)) ?_;clear H a
  rintro _ _ a ⟨rfl,S2⟩ H
  replace S:=S.call S2;clear S2
  refine ls 1 H<|sr 1 rfl<|sE ?_;clear H a;intro a H
  refine k14 _ _ ?_;clear k14 K14
  refine cond_ H rfl (fun hc3=>?_) (fun hc3=>?_)
  ·skip
   try simp only [o1,o2,o3,o4,o5,o6,o7,o8,o9,oa] at hc3
   refine sS H fun K15 k15=>sr 1 rfl<|sE ?_;clear H a;intro a H
   refine k15 _ ?_;clear k15 K15
   refine wp_ret ?_
   refine ret1 (fn:=Try.f60) rfl H rfl ?_
   exact ⟨congrArg _ (iQ (k:=k) (by omega) (by unfold pasOk;rw [hc3];rfl)).symm,(S.sel [] G G)⟩
  try simp only [o1,o2,o3,o4,o5,o6,o7,o8,o9,oa] at hc3
  refine wp_skip ?_
  refine k13 _ _ ?_
  have hcn:=Bt (ps:=ps) (m:=bA ps k) k;have hc0:=uV (ps:=ps) (m:=bA ps k) (k:=k);have hcs:cntM ps (bA ps k) (k+1)=cntM ps (bA ps k) k+1:=by unfold cntM;rw [sm,if_pos rfl]
  replace H:=H.keep [1,3,5,21,22,23] rfl
  refine seq_list fun K16 k16=>?_
  refine ls 5 H<|sr 1 rfl<|sf cX rfl<|sl S 0 aE G G G<|sd ((lW (k:=bA ps k) S (i:=1) rfl tP (lK Try.underlying3) Eo G G).to (hM _))<|sd (aH G G (by unfold i64ok;omega))<|sE ?_;clear H a;intro a H
  refine mV (k:=bA ps k) H S (i:=1) rfl tP (lK Try.underlying3) G G G ?_;clear H a S;intro _ a S H
  refine k16 _ _ ?_;clear k16 K16
  replace H:=H.keep [1,3,5,21,22,23] rfl
  refine seq_list fun K17 k17=>?_
  refine ls 4 H<|sf cX rfl<|sl S 0 aE G G G<|sr 2 rfl<|sE ?_;clear H a;intro a H
  apply bT (i:=3) (g:=40) (t:=45) (b:=true) 5 H S G G (by kernel_rfl) (by kernel_rfl) G G
  case h1=>
   intro hg4
   refine ls 5 H<|sy hg4<|sr 1 rfl<|sy hg4<|sf cX rfl<|sy hg4<|sl S 0 aE G G G<|sy hg4<|sd ((lW (k:=bA ps k) S (i:=1) rfl tP (lK Try.underlying3) Eo G G).to (hM.step _))<|sy hg4<|sr 1 rfl<|sE ?_;intro a H
   exact wpList_nil ⟨H.strip 5 G G,(S.sel [0,1,2] G G)⟩
  clear H a S;intro a _ H S
  refine ls 1 H<|sa G G G<|sE ?_;clear H a;intro a H
  refine k17 _ _ ?_;clear k17 K17
  refine cond_ H rfl (fun hc4=>?_) (fun hc4=>?_)
  ·skip
   try simp only [o1,o2,o3,o4,o5,o6,o7,o8,o9,oa] at hc4
   replace H:=H.keep [] rfl
   refine sS H fun K18 k18=>sr 1 rfl<|sE ?_;clear H a;intro a H
   refine k18 _ ?_;clear k18 K18
   refine wp_ret ?_
   refine ret1 (fn:=Try.f60) rfl H rfl ?_
   exact ⟨congrArg _ (iQ (k:=k) (by omega) (by unfold pasOk;rw [decide_eq_false (by unfold bA at *;omega),Bool.and_false])).symm,(S.sel [] G G)⟩
  try simp only [o1,o2,o3,o4,o5,o6,o7,o8,o9,oa] at hc4
  refine wp_skip ?_
  refine k11 _ _ ?_
  refine sO H<|sd (aH G G (by unfold i64ok;omega))<|sr 1 rfl<|sE ?_;clear H a;intro a H
  exact k8 (g1-1) (k+1,_) a _ (by omega) (⟨by omega,by omega,cM hA (by unfold pasOk;rw [Bool.and_eq_true];refine ⟨hc3,decide_eq_true ?_⟩;unfold bA at *;omega),hM.step⟩) (S.sel [1,2] G G) (H.keep [23,1,3,21,22] rfl)
 refine wp_exit ?_
 refine k6 _ _ ?_
 refine sS H fun K20 k20=>sr 1 rfl<|sE ?_;clear H a;intro a H
 refine k20 _ ?_;clear k20 K20
 refine wp_seq_k fun K21 k21=>?_
 refine sS H fun K22 k22=>sf fI rfl<|sl S 1 aW G G G<|sL aM rfl<|sr 1 rfl<|sE ?_;clear H a;intro a H
 refine k22 _ ?_;clear k22 K22
 refine wp_block ?_
 refine loop_st (X:=Nat) (R0:=_) [1,49,50] H rfl (fun k2=>[(6,.int .i64 (if k2=0 then -1 else xs.getD (k2-1) 0)),(51,.int .i64 (k2:Int))]) (fun k2=>[]) (fun g k2=>k2≤xs.length∧g+k2=xs.length∧allN (exOk pl xs) k2=true) (xs.length) 0 ?_ (S.sel [0,1] G G) (H.keep [6,51,1,49,50] rfl) ?_
 · exact ⟨by omega,by omega,rfl⟩
 clear H S a
 intro g2 x2 a w2 hp S H K23 k23
 obtain ⟨k2,rfl⟩:∃ y,y=x2:=⟨_,rfl⟩
 have hxb:k2≠0→0≤xs.getD (k2-1) 0∧xs.getD (k2-1) 0<pl:=fun h0=>by
   have:=iF.1 hp.2.2 (k2-1) (by omega)
   unfold exOk at this
   simp only [decide_eq_true_eq] at this
   omega
 refine sS H fun K24 k24=>sr 1 rfl<|sE ?_;clear H a;intro a H
 refine k24 _ ?_;clear k24 K24
 refine wp_seq_k fun K25 k25=>?_
 refine condL H rfl (fun hc5=>?_) (fun hc5=>?_)
 ·skip
  refine wp_skip ?_
  refine k25 _ _ ?_
  refine wp_seq_k fun K26 k26=>?_
  refine wp_block ?_
  refine sS H fun K27 k27=>si aM bC G G (hxs.adr (by omega)) (by omega)<|slm aE rfl (hxs.rd S (by omega) (by omega))<|sr 1 rfl<|sE ?_;clear H a;intro a H
  refine k27 _ ?_;clear k27 K27
  refine wp_seq_k fun K28 k28=>?_
  replace H:=H.keep [1,6,8,49,50,51] rfl
  refine sS H fun K29 k29=>sr 2 rfl<|sd (aH G G (by unfold i64ok;omega))<|sf eE rfl<|sl S 1 aE G G G<|sd (cH G G (by unfold i64ok;omega))<|sc rfl Try.func61 G G (bZ _ _ _ _)<|sr 1 rfl<|sE ?_;clear H a;intro a H
  refine k29 _ ?_;clear k29 K29
  refine cond_ H rfl (fun hc6=>?_) (fun hc6=>?_)
  ·skip
   try simp only [o1,o2,o3,o4,o5,o6,o7,o8,o9,oa] at hc6
   refine sS H fun K30 k30=>sr 1 rfl<|sE ?_;clear H a;intro a H
   refine k30 _ ?_;clear k30 K30
   refine wp_ret ?_
   refine ret1 (fn:=Try.f60) rfl H rfl ?_
   exact ⟨congrArg _ (Cp (k:=k2) (by omega) (by unfold exOk;rw [decide_eq_false_iff_not];rcases Nat.eq_zero_or_pos k2 with h0|h0 <;> first|(rw [if_pos h0] at hc6;omega)|(rw [if_neg (Nat.ne_of_gt h0)] at hc6;omega))).symm,(S.sel [] rfl rfl)⟩
  try simp only [o1,o2,o3,o4,o5,o6,o7,o8,o9,oa] at hc6
  refine wp_skip ?_
  refine k28 _ _ ?_
  replace H:=H.keep [1,8,49,50,51] rfl
  refine sO H<|sr 2 rfl<|sE ?_;clear H a;intro a H
  refine k26 _ _ ?_
  refine sO H<|sd (aH G G (by unfold i64ok;omega))<|sr 1 rfl<|sE ?_;clear H a;intro a H
  exact k23 (g2-1) (k2+1) a _ (by omega) (⟨by omega,by omega,cM hp.2.2 (by unfold exOk;rw [decide_eq_true_eq];rcases Nat.eq_zero_or_pos k2 with h0|h0 <;> first|(rw [if_pos h0] at hc6;omega)|(rw [if_neg (Nat.ne_of_gt h0)] at hc6;omega))⟩) (S.sel [0,1] rfl rfl) (H.keep [6,51,1,49,50] rfl)
 refine wp_exit ?_
 refine k21 _ _ ?_
 refine sS H fun K33 k33=>sr 1 rfl<|sE ?_;clear H a;intro a H
 refine k33 _ ?_;clear k33 K33
 refine wp_ret ?_
 refine ret1 (fn:=Try.f60) rfl H rfl ?_
 have hk9:k=ps.length:=by omega
 have hk8:k2=xs.length:=by omega
 exact ⟨congrArg _ (Cq (by omega) (hk9 ▸ hA) (hk8 ▸ hp.2.2)).symm,(S.sel [] G G)⟩
theorem uG (pl:Int) (ps:List Psg) (PA:Option Addr) (pc:Nat) (xs:List Int) (XA:Option Addr) (xc:Nat) (pe:List Int) (BA:Option Addr) (bc:Nat) (w:World) (hpe:InS w noF 1 BA pe.length (icl pe)) (hpen:pe.length≤9223372036854775807) :
    Calls Try.prog 62 [.agg [.int .i64 pl,.slice PA ps.length pc,.slice XA xs.length xc].toArray,.slice BA pe.length bc].toArray w (Ret (fun v w'=>v = .bool (fJ pl pe)∧St w noF [] w')):=by
 refine enter Try.func62 rfl Try.ntmps62 rfl (fun a H=>?_)
 have S:=St.start w
 refine seq_list fun K1 k1=>?_
 refine aV H rfl S G G ?_;clear H a S;intro b2 _ a hb2 hbw2 S H
 refine ls 1 H<|sr 1 rfl<|sE ?_;clear H a;intro a H
 refine k1 _ _ ?_;clear k1 K1
 refine wp_seq_k fun K2 k2=>?_
 refine sS H fun K3 k3=>sr 1 rfl<|sL aM rfl<|sr 1 rfl<|sE ?_;clear H a;intro a H
 refine k3 _ ?_;clear k3 K3
 refine wp_block ?_
 refine loop_st (X:=Nat) (R0:=_) [1,2,7,8] H rfl (fun k=>[(9,.int .i64 (k:Int))]) (fun k=>[]) (fun g k=>k≤pe.length∧g+k=pe.length∧allN (fun k=>decide (0≤pe.getD k 0∧pe.getD k 0≤1000)) k=true) (pe.length) 0 ?_ (S.sel [0] G G) (H.keep [9,1,2,7,8] rfl) ?_
 · exact ⟨by omega,by omega,rfl⟩
 clear H S a
 intro g1 x1 a w1 hp S H K4 k4
 obtain ⟨k,rfl⟩:∃ y,y=x1:=⟨_,rfl⟩
 refine sS H fun K5 k5=>sr 1 rfl<|sE ?_;clear H a;intro a H
 refine k5 _ ?_;clear k5 K5
 refine wp_seq_k fun K6 k6=>?_
 refine condL H rfl (fun hc1=>?_) (fun hc1=>?_)
 ·skip
  refine wp_skip ?_
  refine k6 _ _ ?_
  refine wp_seq_k fun K7 k7=>?_
  refine wp_block ?_
  refine sS H fun K8 k8=>si aM bC G G (hpe.adr (by omega)) (by omega)<|slm aE rfl (hpe.rd S (by omega) (by omega))<|sr 1 rfl<|sE ?_;clear H a;intro a H
  refine k8 _ ?_;clear k8 K8
  refine sS H fun K9 k9=>sr 1 rfl<|sc rfl Try.func61 G G (bZ _ _ _ _)<|sr 1 rfl<|sE ?_;clear H a;intro a H
  refine k9 _ ?_;clear k9 K9
  refine cond_ H rfl (fun hc2=>?_) (fun hc2=>?_)
  ·skip
   try simp only [o1,o2,o3,o4,o5,o6,o7,o8,o9,oa] at hc2
   refine sS H fun K10 k10=>sr 1 rfl<|sE ?_;clear H a;intro a H
   refine k10 _ ?_;clear k10 K10
   refine wp_ret ?_
   refine ret1 (fn:=Try.f62) rfl H rfl ?_
   refine ⟨congrArg Value.bool ?_,(S.sel [] G G)⟩;unfold fJ;rw [iP (k:=k) (by omega) (by rw [decide_eq_false_iff_not];omega)];rfl
  try simp only [o1,o2,o3,o4,o5,o6,o7,o8,o9,oa] at hc2
  refine wp_skip ?_
  refine k7 _ _ ?_
  replace H:=H.keep [1,2,7,8,9] rfl
  refine sO H<|sd (aH G G (by unfold i64ok;omega))<|sr 1 rfl<|sE ?_;clear H a;intro a H
  exact k4 (g1-1) (k+1) a _ (by omega) (⟨by omega,by omega,cM hp.2.2 (by rw [decide_eq_true_eq];omega)⟩) (S.sel [0] G G) (H.keep [9,1,2,7,8] rfl)
 refine wp_exit ?_
 refine k2 _ _ ?_
 refine sS H fun K12 k12=>sr 1 rfl<|sL aM rfl<|sf eE rfl<|sl S 0 aE G G G<|sr 2 rfl<|sE ?_;clear H a;intro a H
 refine k12 _ ?_;clear k12 K12
 refine wp_ret ?_
 refine ret1 (fn:=Try.f62) rfl H rfl ?_
 refine ⟨congrArg Value.bool ?_,(S.sel [] G G)⟩;unfold fJ;rw [show pe.length=k by omega,hp.2.2,Bool.true_and]
theorem lC (pl:Int) (ps:List Psg) (PA:Option Addr) (pc:Nat) (xs:List Int) (XA:Option Addr) (xc:Nat) (out:Int) (pe:List Int) (BA:Option Addr) (bc:Nat) (T:Int) (w:World) (hps:InS w noF 7 PA ps.length (pcell ps)) (hpn:ps.length≤9223372036854775807) (hxs:InS w noF 1 XA xs.length (icl xs)) (hxn:xs.length≤9223372036854775807) (hpe:InS w noF 1 BA pe.length (icl pe)) (hpen:pe.length≤9223372036854775807) :
    Calls Try.prog 35 [.agg [.int .i64 pl,.slice PA ps.length pc,.slice XA xs.length xc].toArray,.int .i64 out,.slice BA pe.length bc,.int .i64 T].toArray w (Ret (fun v w'=>v = .int .i64 (bS pl ps xs out pe T)∧St w noF [] w')):=by
 refine enter Try.func35 rfl Try.ntmps35 rfl (fun a H=>?_)
 have S:=St.start w
 refine seq_list fun K1 k1=>?_
 refine aV H rfl S G G ?_;clear H a S;intro b4 _ a hb4 hbw4 S H
 refine ls 1 H<|sr 1 rfl<|sE ?_;clear H a;intro a H
 refine k1 _ _ ?_;clear k1 K1
 refine wp_seq_k fun K2 k2=>?_
 refine seq_list fun K3 k3=>?_
 refine ls 1 H<|sd ((aD dP fM rfl S (i:=0) G G))<|sE ?_;clear H a;intro a H
 refine aA H G G Try.func60 G G (uF pl ps PA pc xs XA xc _ (hps.now S) hpn (hxs.now S) hxn) ?_;clear H a
 rintro _ _ a ⟨rfl,S2⟩ H
 replace S:=S.call S2;clear S2
 refine ls 1 H<|sr 1 rfl<|sE ?_;clear H a;intro a H
 refine k3 _ _ ?_;clear k3 K3
 refine sS H fun K4 k4=>sr 2 rfl<|sE ?_;clear H a;intro a H
 refine k4 _ ?_;clear k4 K4
 refine condN H rfl (fun hc1=>?_) (fun hc1=>?_)
 ·skip
  refine sS H fun K5 k5=>sr 2 rfl<|sE ?_;clear H a;intro a H
  refine k5 _ ?_;clear k5 K5
  refine wp_ret ?_
  refine ret1 (fn:=Try.f35) rfl H rfl ?_
  refine ⟨?_,(S.sel [] G G)⟩;unfold bS;rw [if_pos hc1]
 refine wp_skip ?_
 refine k2 _ _ ?_
 refine wp_seq_k fun K6 k6=>?_
 replace H:=H.keep [1,2,3,4] rfl
 refine seq_list fun K7 k7=>?_
 refine ls 1 H<|sr 1 rfl<|sE ?_;clear H a;intro a H
 refine aA H G G Try.func61 G G (bZ _ _ _ _) ?_;clear H a
 rintro _ _ a ⟨rfl,rfl⟩ H
 refine ls 2 H<|sr 2 rfl<|sE ?_;clear H a;intro a H
 apply bT (i:=3) (g:=18) (t:=22) (b:=false) 4 H S G G (by kernel_rfl) (by kernel_rfl) G G
 case h1=>
  intro hg4
  refine ls 2 H<|sy hg4<|sd ((aD dP fM rfl S (i:=0) G G))<|sy hg4<|sr 1 rfl<|sE ?_;intro a H
  refine cL H G G (by assumption) ?_
  refine aA H G G Try.func62 G G (uG pl ps PA pc xs XA xc pe BA bc _ (hpe.now S) hpen) ?_
  rintro _ _ a ⟨rfl,S2⟩ H
  replace S:=S.call S2;clear S2
  refine ls 1 H<|sy hg4<|sr 1 rfl<|sE ?_;intro a H
  exact wpList_nil ⟨H.strip 4 G G,(S.sel [0] G G)⟩
 clear H a S;intro a _ H S
 refine ls 6 H<|so G G G<|sr 1 rfl<|sg 3 9 24 27 false G G (fun hg10=>sy hg10<|sr 1 rfl<|sy hg10<|sc rfl Try.func61 G G (bZ _ _ _ _)<|sy hg10<|sr 1 rfl<|sz 3 G G G)<|so G G G<|sE ?_;clear H a;intro a H
 refine k7 _ _ ?_;clear k7 K7
 refine cond_ H rfl (fun hc2=>?_) (fun hc2=>?_)
 ·skip
  try simp only [o1,o2,o3,o4,o5,o6,o7,o8,o9,oa] at hc2
  replace H:=H.keep [] rfl
  refine sS H fun K8 k8=>sr 1 rfl<|sE ?_;clear H a;intro a H
  refine k8 _ ?_;clear k8 K8
  refine wp_ret ?_
  refine ret1 (fn:=Try.f35) rfl H rfl ?_
  refine ⟨?_,(S.sel [] rfl rfl)⟩;unfold bS;rw [if_neg (by omega),if_neg (by simp only [Bool.and_eq_true,decide_eq_true_eq];rcases hc2 with (h|h)|h <;> first|(intro h9;omega)|(rw [h];simp))]
 try simp only [o1,o2,o3,o4,o5,o6,o7,o8,o9,oa] at hc2
 refine wp_skip ?_
 refine k6 _ _ ?_
 refine sS H fun K9 k9=>sr 1 rfl<|sE ?_;clear H a;intro a H
 refine k9 _ ?_;clear k9 K9
 refine wp_ret ?_
 refine ret1 (fn:=Try.f35) rfl H rfl ?_
 refine ⟨?_,(S.sel [] G G)⟩;unfold bS;rw [if_neg (by omega),if_pos (by simp only [Bool.and_eq_true,decide_eq_true_eq];exact ⟨⟨by omega,hc2.1.2⟩,by omega⟩)]
end
section
theorem Eq (m:Nat):(0:Int)≤2^(m:Int).toNat:=Int.pow_nonneg (by omega)
theorem Bx {m:Nat} (h:m<12):(0:Int)≤2^(m:Int).toNat∧(2:Int)^(m:Int).toNat≤2048:=by
  refine ⟨Eq m,?_⟩
  have h2:2^m≤2^11:=Nat.pow_le_pow_right (by omega) (by omega)
  have h3:((2^m:Nat):Int)≤((2^11:Nat):Int):=Int.ofNat_le.2 h2
  push_cast at h3
  exact h3
end
section
section
variable {ps:List Psg} {out:Int} {help:Bool} {l:List Int} {a b:Int} {k:Nat} {s:Int×Int}
end
theorem Wk.snoc {ps:List Psg} {out:Int} {help:Bool} {a b n k c:Nat} {l:List Nat} (W:Wk ps out help a b n l):k<ps.length→oth out help (ps.getD k Psg.zero) b=(c:Int)→1≤(ps.getD k Psg.zero).ticks→Wk ps out help a c (n+(ps.getD k Psg.zero).ticks.toNat) (l++[k]):=by
  induction W with
  | nil a=>
    intro hk ho ht
    have:=Wk.cons hk ho (Wk.nil c)
    rw [Nat.zero_add]
    exact this
  | @cons a b c' n k' l' hk' ho' _ ih=>
    intro hk ho ht
    have:=Wk.cons hk' ho' (ih hk ho ht)
    rw [Nat.add_assoc]
    exact this
section
variable {P:Nat} {ps:List Psg} {xs:List Int} {out:Int} {help:Bool} {fr to:Nat} {l:List Int}
end
structure Hr where
  out:Int
  help:Bool
  pe:List Int
  A:Option Addr
  c:Nat
def Hr.zero:Hr:=⟨0,false,[],none,0⟩
def Hr.cell (h:Hr):Nat→Value
  | 0 => .int .i64 h.out
  | 1 => .bool h.help
  | _ => .slice h.A h.pe.length h.c
structure Hq where
  out:Int
  help:Bool
  pe:List Int
def Hq.zero:Hq:=⟨0,false,[]⟩
def Hr.q (h:Hr):Hq:=⟨h.out,h.help,h.pe⟩
def hcl (l:List Hq) (DA:Nat→Option Addr) (dc:Nat→Nat) (k:Nat):Nat→Value
  | 0 => .int .i64 (l.getD k Hq.zero).out
  | 1 => .bool (l.getD k Hq.zero).help
  | _ => .slice (DA k) (l.getD k Hq.zero).pe.length (dc k)
structure Prm where
  fr:Int
  to:Int
  first:Int
  last:Int
  helped:Bool
def Prm.zero:Prm:=⟨0,0,0,0,false⟩
def Prm.cell (p:Prm):Nat→Value
  | 0 => .int .i64 p.fr
  | 1 => .int .i64 p.to
  | 2 => .int .i64 p.first
  | 3 => .int .i64 p.last
  | _ => .bool p.helped
section
variable {P:Nat} {ps:List Psg} {xs:List Int} {day:List Hq} {l:List Prm} {h i:Nat}
end
section
variable {w w0:World} {F0:Nat→Prop} {R:List Mem} {e sz i k:Nat} {A:Nat→Option Addr} {n c:Nat→Nat} {cell:Nat→Nat→Nat→Value}
theorem ragM.none (S:St w0 F0 R w) (e sz:Nat) (A:Nat→Option Addr) (n c:Nat→Nat) (cell:Nat→Nat→Nat→Value):St w0 F0 (ragM e sz (fun q=>q<0) A n c cell::R) w:=
  S.new (Keeps.refl _ _) ⟨fun q hq=>absurd hq (Nat.not_lt_zero q),fun q _ hq=>absurd hq (Nat.not_lt_zero q)⟩ (fun b ⟨q,hq,_⟩=>absurd hq (Nat.not_lt_zero q))
theorem ragM.add {A':Option Addr} {n' c':Nat} {cell':Nat→Nat→Value} (S:St w0 F0 (ownM e sz A' n' c' cell'::R) w) (hi:R[i]?=some (ragM e sz (fun q=>q<k) A n c cell)) :
    St w0 F0 (R.set i (ragM e sz (fun q=>q<k+1) (upd A k A') (upd n k n') (upd c k c') (upd cell k cell'))) w:=by
  have e1:(fun q=>q<k)=(fun q=>q<k+1∧q≠k):=by funext q;exact propext ⟨fun h=>by omega,fun h=>by omega⟩
  rw [e1] at hi
  exact ragM.put (D:=fun q=>q<k+1) S hi (by omega)
theorem ragM.recell {n':Nat→Nat} {A':Nat→Option Addr} {c':Nat→Nat} {cell':Nat→Nat→Nat→Value} {D:Nat→Prop} (S:St w0 F0 R w) (hi:R[i]?=some (ragM e sz D A n c cell)) (h:∀ q,D q→A q=A' q∧n q=n' q∧c q=c' q∧cell q=cell' q):St w0 F0 (R.set i (ragM e sz D A' n' c' cell')) w:=by
  have hrow:∀ q,D q→ownM e sz (A' q) (n' q) (c' q) (cell' q)=ownM e sz (A q) (n q) (c q) (cell q):=fun q hq=>by obtain ⟨h1,h2,h3,h4⟩:=h q hq;rw [h1,h2,h3,h4]
  refine S.imp hi (fun ⟨h1,h2⟩=>⟨fun q hq=>by rw [hrow q hq];exact h1 q hq,fun q r hq hr hqr b hb hb'=>?_⟩) ?_
  · rw [hrow q hq] at hb;rw [hrow r hr] at hb';exact h2 q r hq hr hqr b hb hb'
  · rintro b ⟨q,hq,hb⟩;rw [hrow q hq] at hb;exact ⟨q,hq,hb⟩
end
end
section
section
variable {pl:Int} {ps:List Psg} {xs:List Int} {day:List Hq} {l:List Prm}
end
end
section
theorem qD {l:List Int} (h:∀ k,k<l.length→0≤l.getD k 0∧l.getD k 0≤1000):∀ k,k≤l.length→0≤sumI l k∧sumI l k≤1000*k:=by
  intro k
  induction k with
  | zero=>intro _;simp [sumI,sm]
  | succ k ih=>
    intro hk
    have h1:=ih (by omega)
    have h2:=h k (by omega)
    unfold sumI at *
    rw [sm]
    push_cast
    omega
theorem oQ (P T:Nat) (ps:List Psg) (PA:Option Addr) (pc:Nat) (xs:List Int) (XA:Option Addr) (xc:Nat) (out:Int) (pe:List Int) (BA:Option Addr) (bc:Nat) (w:World) (hps:InS w noF 7 PA ps.length (pcell ps)) (hpn:ps.length≤9223372036854775807) (hxs:InS w noF 1 XA xs.length (icl xs)) (hxn:xs.length≤9223372036854775807) (hpe:InS w noF 1 BA pe.length (icl pe)) (hpl:pe.length=P) (hV:StV P ps xs) (hou:0≤out∧out≤4095) (hpp:∀ k,k<pe.length→0≤pe.getD k 0∧pe.getD k 0≤1000) (hT:T≤60) :
    Calls Try.prog 41 [.agg [.int .i64 (P:Int),.slice PA ps.length pc,.slice XA xs.length xc].toArray,.int .i64 out,.slice BA pe.length bc,.int .i64 (T:Int)].toArray w (Ret fun u w'=>∃ b31 EA A' c',u = .pointer (some ⟨b31,0,none⟩)∧St w noF [boxM b31 146 [.int .i64 (P:Int),.slice PA ps.length pc,.slice XA xs.length xc,.int .i64 (T:Int),.slice EA (layN P T pe xs (hds out xs ps)).k (layN P T pe xs (hds out xs ps)).k,.int .i64 (((P*(T+1)):Nat):Int),.int .i64 (((P*(T+1))+1:Nat):Int)],ownM 194 1 EA (layN P T pe xs (hds out xs ps)).k (layN P T pe xs (hds out xs ps)).k (hdc A' (layN P T pe xs (hds out xs ps)).n c'),ragM 196 7 (fun q=>q<(layN P T pe xs (hds out xs ps)).k) A' (layN P T pe xs (hds out xs ps)).n c' (edgeC (layN P T pe xs (hds out xs ps)) (layT P T pe xs (hds out xs ps)).room (layT P T pe xs (hds out xs ps)).mv)] w'):=by
  have h:=zW P T ps PA pc xs XA xc out pe BA bc w hps hpn hxs hxn (fun k hk h3=>by have:=cQ.1 (hV.pas k hk);omega) hou.1 hpe hpl (by have:=hV.size;omega) hT hV.size.2.2 (tZ hV)
  refine jS h fun u w' ⟨b31,EA,A',c',h1,S⟩=>⟨b31,EA,A',c',h1,?_⟩
  rw [tW (joins (jAll P T pe xs (hds out xs ps))) (P*(T+1)+2)] at S
  exact S
theorem zX (pe:List Int) (BA:Option Addr) (bc:Nat) (w:World) (hpe:InS w noF 1 BA pe.length (icl pe)) (hpp:∀ k,k<pe.length→0≤pe.getD k 0∧pe.getD k 0≤1000) (hpn:pe.length≤1000) :
    Calls Try.prog 63 [.slice BA pe.length bc].toArray w (Ret (fun v w'=>v = .int .i64 (sumI pe pe.length)∧St w noF [] w')):=by
 refine enter Try.func63 rfl Try.ntmps63 rfl (fun a H=>?_)
 have S:=St.start w
 refine sS H fun K1 k1=>sr 1 rfl<|sE ?_;clear H a;intro a H
 refine k1 _ ?_;clear k1 K1
 refine sS H fun K2 k2=>sr 1 rfl<|sE ?_;clear H a;intro a H
 refine k2 _ ?_;clear k2 K2
 refine wp_seq_k fun K3 k3=>?_
 refine sS H fun K4 k4=>sr 1 rfl<|sL aM rfl<|sr 1 rfl<|sE ?_;clear H a;intro a H
 refine k4 _ ?_;clear k4 K4
 refine wp_block ?_
 refine loop_st (X:=Nat) (R0:=_) [6,7] H rfl (fun k=>[(3,.int .i64 (sumI pe k)),(8,.int .i64 (k:Int))]) (fun k=>[]) (fun g k=>k≤pe.length∧g+k=pe.length) (pe.length) 0 ?_ (S.sel [] G G) (H.keep [3,8,6,7] rfl) ?_
 · exact ⟨by omega,by omega⟩
 clear H S a
 intro g1 x1 a w1 hp S H K5 k5
 obtain ⟨k,rfl⟩:∃ y,y=x1:=⟨_,rfl⟩
 refine sS H fun K6 k6=>sr 1 rfl<|sE ?_;clear H a;intro a H
 refine k6 _ ?_;clear k6 K6
 refine wp_seq_k fun K7 k7=>?_
 refine condL H rfl (fun hc1=>?_) (fun hc1=>?_)
 ·skip
  refine wp_skip ?_
  refine k7 _ _ ?_
  refine wp_seq_k fun K8 k8=>?_
  refine wp_block ?_
  refine sS H fun K9 k9=>si aM bC G G (hpe.adr (by omega)) (by omega)<|slm aE rfl (hpe.rd S (by omega) (by omega))<|sr 1 rfl<|sE ?_;clear H a;intro a H
  refine k9 _ ?_;clear k9 K9
  have hsb:=qD hpp k (by omega);have hsk:=hpp k (by omega)
  refine sO H<|sr 2 rfl<|sd (aH G G (by unfold i64ok;omega))<|sr 1 rfl<|sE ?_;clear H a;intro a H
  refine k8 _ _ ?_
  replace H:=H.keep [3,6,7,8] rfl
  refine sO H<|sd (aH G G (by unfold i64ok;omega))<|sr 1 rfl<|sE ?_;clear H a;intro a H
  exact k5 (g1-1) (k+1) a _ (by omega) (⟨by omega,by omega⟩) (S.sel [] G G) (H.keep [3,8,6,7] rfl)
 refine wp_exit ?_
 refine k3 _ _ ?_
 refine sS H fun K12 k12=>sr 2 rfl<|sE ?_;clear H a;intro a H
 refine k12 _ ?_;clear k12 K12
 refine wp_ret ?_
 refine ret1 (fn:=Try.f63) rfl H rfl ?_
 have hk9:k=pe.length:=by omega
 subst hk9
 exact ⟨rfl,(S.sel [] G G)⟩
theorem rY (P T:Nat) (ps:List Psg) (PA:Option Addr) (pc:Nat) (xs:List Int) (XA:Option Addr) (xc:Nat) (out:Int) (pe:List Int) (BA:Option Addr) (bc:Nat) (w:World) (hps:InS w noF 7 PA ps.length (pcell ps)) (hpn:ps.length≤9223372036854775807) (hxs:InS w noF 1 XA xs.length (icl xs)) (hxn:xs.length≤9223372036854775807) (hpe:InS w noF 1 BA pe.length (icl pe)) (hpl:pe.length=P) (hV:StV P ps xs) (hou:0≤out∧out≤4095) (hpp:∀ k,k<pe.length→0≤pe.getD k 0∧pe.getD k 0≤1000) (hT:T≤60) :
    Calls Try.prog 36 [.agg [.int .i64 (P:Int),.slice PA ps.length pc,.slice XA xs.length xc].toArray,.int .i64 out,.slice BA pe.length bc,.int .i64 (T:Int)].toArray w (Ret (fun u w'=>u = .bool (decide (mfv P T pe xs (hds out xs ps)=sumI pe pe.length))∧St w noF [] w')):=by
 have hO9:=zG (T:=T) (out:=out) hV hpp
 have hC:P*(T+1)≤10*61:=Nat.mul_le_mul (by have:=hV.size;omega) (by omega)
 refine enter Try.func36 rfl Try.ntmps36 rfl (fun a H=>?_)
 have S:=St.start w
 refine seq_list fun K1 k1=>?_
 refine aV H rfl S G G ?_;clear H a S;intro b4 _ a hb4 hbw4 S H
 refine ls 1 H<|sr 1 rfl<|sE ?_;clear H a;intro a H
 refine k1 _ _ ?_;clear k1 K1
 replace H:=H.keep [1,2,3,4] rfl
 refine seq_list fun K2 k2=>?_
 refine ls 4 H<|sd ((aD dP fM rfl S (i:=0) G G))<|sr 3 rfl<|sE ?_;clear H a;intro a H
 refine aA H G G Try.func41 G G (oQ P T ps PA pc xs XA xc out pe BA bc _ (hps.now S) hpn (hxs.now S) hxn (hpe.now S) hpl hV hou hpp hT) ?_;clear H a
 rintro _ _ a ⟨b31,EA,A',c',rfl,S2⟩ H
 replace S:=S.call S2;clear S2
 have S1:=(S.sel [0,1,2] G G)
 refine aA H G G Try.func42 G G (rV (layN P T pe xs (hds out xs ps)) (layT P T pe xs (hds out xs ps)).room (layT P T pe xs (hds out xs ps)).mv b31 (P:Int) (T:Int) _ _ EA A' c' (P*(T+1)) ((P*(T+1))+1) _ _ S1.startR hO9.wf hO9.ok (by show _<P*(T+1)+2;omega) (by show _<P*(T+1)+2;omega) (by omega) (by show P*(T+1)+2≤_;omega) (by have:=hO9.beg;have:=hV.size;omega)) ?_;clear H a
 rintro _ _ a ⟨v,r,rfl,hF,h0v,⟨L,hLv,hLx⟩,S2⟩ H
 replace S:=(S.sel [0,1,2,3] G G).callR (M:=[_,_,_]) S2;clear S1 S2
 refine ls 1 H<|sr 1 rfl<|sE ?_;clear H a;intro a H
 refine aA H G G Try.func63 G G (zX pe BA bc _ (hpe.now S) hpp (by have:=hV.size;omega)) ?_;clear H a
 rintro _ _ a ⟨rfl,S2⟩ H
 replace S:=S.call S2;clear S2
 refine ls 2 H<|sr 2 rfl<|sE ?_;clear H a;intro a H
 refine k2 _ _ ?_;clear k2 K2
 refine wp_ret ?_
 refine ret1 (fn:=Try.f36) rfl H rfl ?_
 have hE:EndP P T pe xs (hds out xs ps) v r L:=⟨hF,h0v,hLv,hLx⟩
 rw [zI hO9 hE]
 exact ⟨rfl,(S.sel [] G G)⟩
theorem wT (pl:Int) (ps:List Psg) (PA:Option Addr) (pc:Nat) (xs:List Int) (XA:Option Addr) (xc:Nat) (out:Int) (pe:List Int) (BA:Option Addr) (bc:Nat) (T0:Int) (w:World) (hps:InS w noF 7 PA ps.length (pcell ps)) (hpn:ps.length≤9223372036854775807) (hxs:InS w noF 1 XA xs.length (icl xs)) (hxn:xs.length≤9223372036854775807) (hpe:InS w noF 1 BA pe.length (icl pe)) (hpen:pe.length≤9223372036854775807) :
    Calls Try.prog 18 [.agg [.int .i64 pl,.slice PA ps.length pc,.slice XA xs.length xc].toArray,.int .i64 out,.slice BA pe.length bc,.int .i64 T0].toArray w (Ret (fun u w'=>(bS pl ps xs out pe T0≠0∧u = .tuple #[.int .i64 0,.int .i64 (bS pl ps xs out pe T0)]∧St w noF [] w')∨(bS pl ps xs out pe T0=0∧u = .tuple #[.int .i64 (mfv pl.toNat T0.toNat pe xs (hds out xs ps)),.int .i64 0]∧St w noF [] w'))):=by
 refine enter Try.func18 rfl Try.ntmps18 rfl (fun a H=>?_)
 have S:=St.start w
 refine seq_list fun K1 k1=>?_
 refine aV H rfl S G G ?_;clear H a S;intro b4 _ a hb4 hbw4 S H
 refine ls 2 H<|sr 2 rfl<|sE ?_;clear H a;intro a H
 refine k1 _ _ ?_;clear k1 K1
 refine wp_seq_k fun K2 k2=>?_
 refine seq_list fun K3 k3=>?_
 refine ls 4 H<|sd ((aD dP fM rfl S (i:=0) G G))<|sr 3 rfl<|sE ?_;clear H a;intro a H
 refine aA H G G Try.func35 G G (lC pl ps PA pc xs XA xc out pe BA bc T0 _ (hps.now S) hpn (hxs.now S) hxn (hpe.now S) hpen) ?_;clear H a
 rintro _ _ a ⟨rfl,S2⟩ H
 replace S:=S.call S2;clear S2
 refine ls 1 H<|sr 1 rfl<|sE ?_;clear H a;intro a H
 refine k3 _ _ ?_;clear k3 K3
 replace H:=H.keep [1,2,3,4,10] rfl
 refine sS H fun K4 k4=>sr 2 rfl<|sE ?_;clear H a;intro a H
 refine k4 _ ?_;clear k4 K4
 refine condN H rfl (fun hc1=>?_) (fun hc1=>?_)
 ·skip
  refine sS H fun K5 k5=>sr 3 rfl<|sE ?_;clear H a;intro a H
  refine k5 _ ?_;clear k5 K5
  refine wp_ret ?_
  refine ret2 (fn:=Try.f18) rfl H G G ?_
  exact .inl ⟨hc1,rfl,(S.sel [] G G)⟩
 obtain ⟨hst,hou,hcr,hti⟩:=gD hc1
 have hV0:=kZ hst
 obtain ⟨P,rfl⟩:∃ P:Nat,pl=P:=⟨pl.toNat,by have:=hV0.size;omega⟩
 have hV:=hV0
 obtain ⟨hpp,hpl'⟩:=lA hcr
 have hpl:pe.length=P:=by omega
 obtain ⟨T,rfl⟩:∃ T:Nat,T0=T:=⟨T0.toNat,by omega⟩
 have hT:T≤60:=by omega
 have hO9:=zG (T:=T) (out:=out) hV hpp
 have hC:P*(T+1)≤10*61:=Nat.mul_le_mul (by have:=hV.size;omega) (by omega)
 refine wp_skip ?_
 refine k2 _ _ ?_
 replace H:=H.keep [1,2,3,4] rfl
 refine seq_list fun K6 k6=>?_
 refine ls 4 H<|sd ((aD dP fM rfl S (i:=0) G G))<|sr 3 rfl<|sE ?_;clear H a;intro a H
 refine aA H G G Try.func41 G G (oQ P T ps PA pc xs XA xc out pe BA bc _ (hps.now S) hpn (hxs.now S) hxn (hpe.now S) hpl hV hou hpp hT) ?_;clear H a
 rintro _ _ a ⟨b31,EA,A',c',rfl,S2⟩ H
 replace S:=S.call S2;clear S2
 have S1:=(S.sel [0,1,2] G G)
 refine aA H G G Try.func42 G G (rV (layN P T pe xs (hds out xs ps)) (layT P T pe xs (hds out xs ps)).room (layT P T pe xs (hds out xs ps)).mv b31 (P:Int) (T:Int) _ _ EA A' c' (P*(T+1)) ((P*(T+1))+1) _ _ S1.startR hO9.wf hO9.ok (by show _<P*(T+1)+2;omega) (by show _<P*(T+1)+2;omega) (by omega) (by show P*(T+1)+2≤_;omega) (by have:=hO9.beg;have:=hV.size;omega)) ?_;clear H a
 rintro _ _ a ⟨v,r,rfl,hF,h0v,⟨L,hLv,hLx⟩,S2⟩ H
 replace S:=(S.sel [0,1,2,3] G G).callR (M:=[_,_,_]) S2;clear S1 S2
 refine ls 2 H<|sr 2 rfl<|sE ?_;clear H a;intro a H
 refine k6 _ _ ?_;clear k6 K6
 refine wp_ret ?_
 refine ret2 (fn:=Try.f18) rfl H G G ?_
 have hE:EndP P T pe xs (hds out xs ps) v r L:=⟨hF,h0v,hLv,hLx⟩
 rw [Int.toNat_natCast,Int.toNat_natCast,zI hO9 hE]
 exact .inr ⟨hc1,rfl,(S.sel [] G G)⟩
end
section
noncomputable def allB (P T:Nat) (ps:List Psg) (xs:List Int) (out:Int) (pe:List Int):Bool:=decide (mfv P T pe xs (hds out xs ps)=sumI pe pe.length)
section
variable {P T:Nat} {ps:List Psg} {xs:List Int} {day:List Hq} {h:Nat}
end
noncomputable def mustB (P T:Nat) (ps:List Psg) (xs:List Int) (out:Int) (pe:List Int) (m:Nat):Bool:=!allB P T ps xs (out+2^m) pe
noncomputable def mustL (P T:Nat) (ps:List Psg) (xs:List Int) (out:Int) (pe:List Int):List Nat:=(machL ps out 3 12).filter (mustB P T ps xs out pe)
def movB (ps:List Psg) (out:Int) (f:Nat→Bool) (k:Nat):Bool:=(decide ((ps.getD k Psg.zero).kind=3)&&decide (out/2^(bA ps k).toNat%2=0))&&f (bA ps k).toNat
def mustP (ps:List Psg) (out:Int) (f:Nat→Bool):Nat→List Nat
  | 0=>[]
  | k+1=>mustP ps out f k++(if movB ps out f k=true then [(bA ps k).toNat] else [])
section
variable {P:Nat} {ps:List Psg} {xs:List Int} {out:Int} {f:Nat→Bool}
theorem wU:∀ k,(mustP ps out f k).length≤k:=by
  intro k
  induction k with
  | zero=>exact Nat.le_refl 0
  | succ k ih=>rw [mustP,List.length_append];split <;> simp <;> omega
theorem jU {k:Nat} {wl:List Nat} (h:wl=mustP ps out f k) (hb:movB ps out f k=true):wl++[(bA ps k).toNat]=mustP ps out f (k+1):=by rw [mustP,if_pos hb,h]
theorem dK {k:Nat} {wl:List Nat} (h:wl=mustP ps out f k) (hb:movB ps out f k=false):wl=mustP ps out f (k+1):=by rw [mustP,if_neg (by rw [hb];simp),h,List.append_nil]
theorem jH {k:Nat}:movB ps out f k=true↔((ps.getD k Psg.zero).kind=3∧out/2^(bA ps k).toNat%2=0)∧f (bA ps k).toNat=true:=by
  unfold movB;simp only [Bool.and_eq_true,decide_eq_true_eq]
theorem fO (V:StV P ps xs) {k:Nat} (hk:k<ps.length) (h:(ps.getD k Psg.zero).kind=3):0≤bA ps k∧bA ps k≤11:=by
  have:=cQ.1 (V.pas k hk)
  unfold bA
  omega
theorem rZ:∀ (n x:Nat),x ∈ mustP ps out f n↔∃ k,k<n∧movB ps out f k=true∧x=(bA ps k).toNat:=by
  intro n
  induction n with
  | zero => intro x;constructor
            · intro h;cases h
            · rintro ⟨k,hk,_⟩;omega
  | succ n ih=>
    intro x
    rw [mustP,List.mem_append,ih]
    constructor
    · rintro (⟨k,hk,h⟩|h)
      · exact ⟨k,by omega,h⟩
      · split at h
        · rename_i hb
          exact ⟨n,by omega,hb,by simpa using h⟩
        · cases h
    · rintro ⟨k,hk,hb,hx⟩
      by_cases e:k=n
      · subst e;right;rw [if_pos hb];simpa using hx
      · exact .inl ⟨k,by omega,hb,hx⟩
theorem sA (V:StV P ps xs):∀ n,n≤ps.length→(mustP ps out f n).Nodup:=by
  intro n
  induction n with
  | zero=>intro _;exact List.nodup_nil
  | succ n ih=>
    intro hn
    rw [mustP]
    by_cases hb:movB ps out f n=true
    · rw [if_pos hb,List.nodup_append]
      refine ⟨ih (by omega),by simp,fun a ha b hb2 e=>?_⟩
      rw [rZ] at ha
      obtain ⟨k,hk,hbk,hx⟩:=ha
      rw [List.mem_singleton] at hb2
      have h1:=fO V (by omega) (jH.1 hb).1.1
      have h2:=fO V (by omega) (jH.1 hbk).1.1
      exact V.mach n (by omega) h1.1 k hk (by omega)
    · rw [if_neg hb,List.append_nil];exact ih (by omega)
theorem lQ:∀ (n x:Nat),x ∈ machL ps out 3 n↔x<n∧∃ i,i<ps.length∧machB ps out 3 x i=true:=by
  have hR : ∀ (m n x:Nat),x ∈ machR ps out 3 m n↔x=m∧∃ i,i<n∧machB ps out 3 m i=true:=by
    intro m n
    induction n with
    | zero => intro x;constructor
              · intro h;cases h
              · rintro ⟨_,i,hi,_⟩;omega
    | succ n ih=>
      intro x
      rw [machR,List.mem_append,ih]
      constructor
      · rintro (⟨h1,i,hi,h⟩|h)
        · exact ⟨h1,i,by omega,h⟩
        · split at h
          · rename_i hb
            exact ⟨by simpa using h,n,by omega,hb⟩
          · cases h
      · rintro ⟨h1,i,hi,hb⟩
        by_cases e:i=n
        · subst e;right;rw [if_pos hb];simpa using h1
        · exact .inl ⟨h1,i,by omega,hb⟩
  intro n
  induction n with
  | zero => intro x;constructor
            · intro h;cases h
            · rintro ⟨h,_⟩;omega
  | succ n ih=>
    intro x
    rw [machL,List.mem_append,ih,hR]
    constructor
    · rintro (⟨h1,h⟩|⟨h1,h⟩)
      · exact ⟨by omega,h⟩
      · subst h1;exact ⟨by omega,h⟩
    · rintro ⟨h1,h⟩
      by_cases e:x=n
      · subst e;exact .inr ⟨rfl,h⟩
      · exact .inl ⟨by omega,h⟩
theorem iH {m i:Nat}:machB ps out 3 m i=true↔((ps.getD i Psg.zero).kind=3∧bA ps i=(m:Int))∧out/2^m%2=0:=by
  unfold machB bA
  simp only [Bool.and_eq_true,decide_eq_true_eq,Bool.not_eq_true',decide_eq_false_iff_not]
  have:out/2^m%2=0∨out/2^m%2=1:=by omega
  constructor
  · rintro ⟨h1,h2⟩;exact ⟨h1,by omega⟩
  · rintro ⟨h1,h2⟩;exact ⟨h1,by omega⟩
theorem oR (V:StV P ps xs):∀ n,(machL ps out 3 n).Pairwise (·<·):=by
  intro n
  induction n with
  | zero=>exact List.Pairwise.nil
  | succ n ih=>
    rw [machL,List.pairwise_append]
    have hr:machR ps out 3 n ps.length=[]∨machR ps out 3 n ps.length=[n]:=by
      by_cases h:∃ i,i<ps.length∧machB ps out 3 n i=true
      · obtain ⟨i,hi,hb⟩:=h
        right
        refine wQ hb hi fun j hj hji=>?_
        cases hbj:machB ps out 3 n j
        · rfl
        · exfalso
          have h1:=(iH.1 hb).1.2
          have h2:=(iH.1 hbj).1.2
          rcases Nat.lt_or_gt_of_ne hji with h|h
          · exact V.mach i hi (by omega) j h (by omega)
          · exact V.mach j hj (by omega) i h (by omega)
      · left
        refine oN fun i hi=>?_
        cases hb:machB ps out 3 n i
        · rfl
        · exact absurd ⟨i,hi,hb⟩ h
    refine ⟨ih,?_,fun a ha b hb=>?_⟩
    · rcases hr with h|h <;> rw [h] <;> simp
    · have h1:=(lQ n a).1 ha
      rcases hr with h|h <;> rw [h] at hb
      · cases hb
      · rw [List.mem_singleton] at hb;omega
theorem wV (V:StV P ps xs):(mustP ps out f ps.length).Perm ((machL ps out 3 12).filter f):=by
  refine (List.perm_ext_iff_of_nodup (sA V _ (Nat.le_refl _)) ?_).2 fun x=>?_
  · exact ((oR V 12).filter _).imp (fun h=>Nat.ne_of_lt h)
  · rw [rZ,List.mem_filter,lQ]
    constructor
    · rintro ⟨k,hk,hb,rfl⟩
      obtain ⟨⟨h1,h2⟩,h3⟩:=jH.1 hb
      have h4:=fO V hk h1
      exact ⟨⟨by omega,k,hk,iH.2 ⟨⟨h1,by omega⟩,h2⟩⟩,h3⟩
    · rintro ⟨⟨h1,i,hi,hb⟩,h3⟩
      obtain ⟨⟨h4,h5⟩,h6⟩:=iH.1 hb
      have e:(bA ps i).toNat=x:=by omega
      exact ⟨i,hi,jH.2 ⟨⟨h4,by rw [e];exact h6⟩,by rw [e];exact h3⟩,e.symm⟩
theorem wW (V:StV P ps xs):(toI (mustP ps out f ps.length)).mergeSort (fun x y=>decide (x≤y))=toI ((machL ps out 3 12).filter f):=by
  refine List.Perm.eq_of_pairwise (le:=fun x y=>decide (x≤y)=true) (fun a b _ _ h1 h2=>?_) ?_ ?_ ?_
  · have h1:=of_decide_eq_true h1;have h2:=of_decide_eq_true h2;omega
  · exact List.pairwise_mergeSort (fun a b c h1 h2=>by have h1:=of_decide_eq_true h1;have h2:=of_decide_eq_true h2;exact decide_eq_true (by omega)) (fun a b=>by simp only [Bool.or_eq_true,decide_eq_true_eq];omega) _
  · unfold toI
    rw [List.pairwise_map]
    exact ((oR V 12).filter _).imp (fun {a b} h=>decide_eq_true (by omega))
  · exact (List.mergeSort_perm _ _).trans ((wV V).map _)
end
noncomputable def mustV (pl:Int) (ps:List Psg) (xs:List Int) (out:Int) (pe:List Int) (T0:Int):List Int×Int:=
  if bS pl ps xs out pe T0≠0 then ([],bS pl ps xs out pe T0) else if allB pl.toNat T0.toNat ps xs out pe=true then (toI (mustL pl.toNat T0.toNat ps xs out pe),0) else ([],3)
theorem zY {pl:Int} {ps:List Psg} {xs:List Int} {out:Int} {pe:List Int} {T0:Int} (h:bS pl ps xs out pe T0≠0):mustV pl ps xs out pe T0=([],bS pl ps xs out pe T0):=by unfold mustV;rw [if_pos h]
theorem oS {P T:Nat} {ps:List Psg} {xs:List Int} {out:Int} {pe:List Int} (h:bS P ps xs out pe T=0) (ha:¬ mfv P T pe xs (hds out xs ps)=sumI pe pe.length):mustV P ps xs out pe T=([],3):=by
  unfold mustV allB;rw [if_neg (by omega),Int.toNat_natCast,Int.toNat_natCast,if_neg (by rw [decide_eq_false ha];simp)]
theorem oT {P T:Nat} {ps:List Psg} {xs:List Int} {out:Int} {pe:List Int} (h:bS P ps xs out pe T=0) (ha:mfv P T pe xs (hds out xs ps)=sumI pe pe.length):mustV P ps xs out pe T=(toI (mustL P T ps xs out pe),0):=by
  unfold mustV allB;rw [if_neg (by omega),Int.toNat_natCast,Int.toNat_natCast,if_pos (decide_eq_true ha)]
end
section
theorem sB {w0:World} {F0:Nat→Prop} {R:List Mem} {w:World} {e sz n m c i:Nat} {A:Option Addr} {cell:Nat→Nat→Value} (S:St w0 F0 R w) (hi:R[i]?=some (ownM e sz A n c cell)) (h:n=m):St w0 F0 (R.set i (ownM e sz A m c cell)) w:=by
  subst h
  exact S.recell hi (fun _ _ _ _=>rfl)
theorem zZ {w0 w:World} {F0:Nat→Prop} {R:List Mem} {i e c:Nat} {A:Option Addr} {zs:List Int} (S:St w0 F0 R w) (hi:R[i]?=some (ownM e 1 A zs.length c (icl zs))) (hz:zs.length≤1000) :
    Calls Try.prog 37 [.slice A zs.length c].toArray w (Ret fun v w'=>v = .tuple #[]∧St w0 F0 (R.set i (ownM e 1 A zs.length c (icl (zs.mergeSort fun x y=>decide (x≤y))))) w'):=by
  rcases S.holds hi with ⟨rfl,hn,rfl⟩|⟨b,cs,rfl,hb,h1,h2,h3,hc⟩
  · obtain rfl:=List.eq_nil_of_length_eq_zero hn
    refine Calls.mono (Try.slices_Sort_int_none none 0 w) fun e' w' he=>?_
    obtain ⟨rfl,rfl⟩:=he
    exact ⟨rfl,S.recell hi fun k j hk _=>absurd hk (Nat.not_lt_zero k)⟩
  · have hcz:zs.length≤cs.size:=by omega
    have ht:cs.toList.take zs.length=zs.map (Value.int .i64):=by
      apply List.ext_getElem?
      intro k
      by_cases hk:k<zs.length
      · have h9:=hc k 0 hk (by omega)
        rw [Nat.mul_one,Nat.add_zero] at h9
        rw [List.getElem?_take_of_lt hk,Array.getElem?_toList,h9,List.getElem?_map,List.getElem?_eq_getElem hk]
        unfold icl
        rw [List.getD_eq_getElem?_getD,List.getElem?_eq_getElem hk]
        rfl
      · rw [List.getElem?_take_eq_none (by omega),List.getElem?_eq_none (by simp;omega)]
    refine Calls.mono (Try.slices_Sort_int b 0 c zs w (holds_of_blockI hb ht) (dO hb) (by omega)) fun e' w' he=>?_
    obtain ⟨rfl,n,os,rfl⟩:=he
    refine ⟨rfl,S.updSame hi ((Keeps.of_grown (grownBy_sortedI _)).mono fun k hk=>?_) ?_ fun k hk=>hk⟩
    · cases hk;exact ⟨_,rfl,rfl⟩
    · refine .inr ⟨b,_,rfl,heap_sortedI _ hb,h1,h2,by simp [Go.Sort.putCells,h3],fun k j hk hj=>?_⟩
      have hj0:j=0:=by omega
      subst hj0
      have h9:=take_putCellsI cs (zs.mergeSort fun x y=>decide (x≤y)) (by rw [List.length_mergeSort];omega)
      have h8:=congrArg (fun l:List Value=>l[k]?) h9
      rw [List.length_mergeSort,List.getElem?_take_of_lt hk,Array.getElem?_toList,List.getElem?_map] at h8
      rw [Nat.mul_one,Nat.add_zero,h8]
      have hk':k<(zs.mergeSort fun x y=>decide (x≤y)).length:=by rw [List.length_mergeSort];exact hk
      unfold icl
      rw [List.getD_eq_getElem?_getD,List.getElem?_eq_getElem hk']
      rfl
section
variable {P T:Nat} {ps:List Psg} {xs:List Int} {out:Int} {pe:List Int} {k:Nat}
theorem mov3 (a b:Int):(¬ a=3)∨(a=3∧¬ b%2=0)∨(a=3∧b%2=0):=by omega
theorem vD (h:(ps.getD k Psg.zero).kind=3∧out/2^(ps.getD k Psg.zero).mach.toNat%2=0) (h2:¬ mfv P T pe xs (hds (out+2^(ps.getD k Psg.zero).mach.toNat) xs ps)=sumI pe pe.length):movB ps out (mustB P T ps xs out pe) k=true:=
  jH.2 ⟨h,by unfold mustB allB bA;rw [decide_eq_false h2];rfl⟩
theorem vE (h2:mfv P T pe xs (hds (out+2^(ps.getD k Psg.zero).mach.toNat) xs ps)=sumI pe pe.length):movB ps out (mustB P T ps xs out pe) k=false:=by
  unfold movB mustB allB bA;rw [decide_eq_true h2];simp
theorem qE {f:Nat→Bool} (h:¬ (ps.getD k Psg.zero).kind=3):movB ps out f k=false:=by unfold movB;rw [decide_eq_false h];rfl
theorem qG {f:Nat→Bool} (h:¬ out/2^(ps.getD k Psg.zero).mach.toNat%2=0):movB ps out f k=false:=by unfold movB bA;rw [decide_eq_false h,Bool.and_false];rfl
theorem Aa {m:Int} (h:0≤m∧m≤11):(0:Int)≤2^m.toNat∧(2:Int)^m.toNat≤2048:=by
  obtain ⟨n,rfl⟩:=Int.eq_ofNat_of_zero_le h.1
  exact Bx (by omega)
end
theorem wX (pl:Int) (ps:List Psg) (PA:Option Addr) (pc:Nat) (xs:List Int) (XA:Option Addr) (xc:Nat) (out:Int) (pe:List Int) (BA:Option Addr) (bc:Nat) (T0:Int) (w:World) (hps:InS w noF 7 PA ps.length (pcell ps)) (hpn:ps.length≤9223372036854775807) (hxs:InS w noF 1 XA xs.length (icl xs)) (hxn:xs.length≤9223372036854775807) (hpe:InS w noF 1 BA pe.length (icl pe)) (hpen:pe.length≤9223372036854775807) :
    Calls Try.prog 16 [.agg [.int .i64 pl,.slice PA ps.length pc,.slice XA xs.length xc].toArray,.int .i64 out,.slice BA pe.length bc,.int .i64 T0].toArray w (Ret (fun u w'=>∃ A c,u = .tuple #[.slice A (mustV pl ps xs out pe T0).1.length c,.int .i64 (mustV pl ps xs out pe T0).2]∧St w noF [ownM 3 1 A (mustV pl ps xs out pe T0).1.length c (icl (mustV pl ps xs out pe T0).1)] w')):=by
 refine enter Try.func16 rfl Try.ntmps16 rfl (fun a H=>?_)
 have S:=St.start w
 refine seq_list fun K1 k1=>?_
 refine aV H rfl S G G ?_;clear H a S;intro b4 _ a hb4 hbw4 S H
 refine ls 2 H<|sr 2 rfl<|sE ?_;clear H a;intro a H
 refine k1 _ _ ?_;clear k1 K1
 refine wp_seq_k fun K2 k2=>?_
 refine seq_list fun K3 k3=>?_
 refine ls 4 H<|sd ((aD dP fM rfl S (i:=0) G G))<|sr 3 rfl<|sE ?_;clear H a;intro a H
 refine aA H G G Try.func35 G G (lC pl ps PA pc xs XA xc out pe BA bc T0 _ (hps.now S) hpn (hxs.now S) hxn (hpe.now S) hpen) ?_;clear H a
 rintro _ _ a ⟨rfl,S2⟩ H
 replace S:=S.call S2;clear S2
 refine ls 1 H<|sr 1 rfl<|sE ?_;clear H a;intro a H
 refine k3 _ _ ?_;clear k3 K3
 replace H:=H.keep [1,2,3,4,10] rfl
 refine sS H fun K4 k4=>sr 2 rfl<|sE ?_;clear H a;intro a H
 refine k4 _ ?_;clear k4 K4
 refine condN H rfl (fun hc1=>?_) (fun hc1=>?_)
 ·skip
  refine sS H fun K5 k5=>sr 3 rfl<|sE ?_;clear H a;intro a H
  refine k5 _ ?_;clear k5 K5
  refine wp_ret ?_
  refine ret2 (fn:=Try.f16) rfl H G G ?_
  rw [zY hc1]
  exact ⟨none,0,rfl,(S.sel [] G G).newNil _ _ _⟩
 obtain ⟨hst,hou,hcr,hti⟩:=gD hc1
 have hV0:=kZ hst
 obtain ⟨P,rfl⟩:∃ P:Nat,pl=P:=⟨pl.toNat,by have:=hV0.size;omega⟩
 have hV:=hV0
 obtain ⟨hpp,hpl'⟩:=lA hcr
 have hpl:pe.length=P:=by omega
 obtain ⟨T,rfl⟩:∃ T:Nat,T0=T:=⟨T0.toNat,by omega⟩
 have hT:T≤60:=by omega
 have hP10:=hV.size
 refine wp_skip ?_
 refine k2 _ _ ?_
 refine wp_seq_k fun K6 k6=>?_
 replace H:=H.keep [1,2,3,4] rfl
 refine seq_list fun K7 k7=>?_
 refine ls 4 H<|sd ((aD dP fM rfl S (i:=0) G G))<|sr 3 rfl<|sE ?_;clear H a;intro a H
 refine aA H G G Try.func36 G G (rY P T ps PA pc xs XA xc out pe BA bc _ (hps.now S) hpn (hxs.now S) hxn (hpe.now S) hpl hV hou hpp hT) ?_;clear H a
 rintro _ _ a ⟨rfl,S2⟩ H
 replace S:=S.call S2;clear S2
 refine ls 1 H<|sr 1 rfl<|sE ?_;clear H a;intro a H
 refine k7 _ _ ?_;clear k7 K7
 refine cond_ H rfl (fun hc2=>?_) (fun hc2=>?_)
 ·skip
  try simp only [o1,o2,o3,o4,o5,o6,o7,o8,o9,oa] at hc2
  refine sS H fun K8 k8=>sr 2 rfl<|sE ?_;clear H a;intro a H
  refine k8 _ ?_;clear k8 K8
  refine wp_ret ?_
  refine ret2 (fn:=Try.f16) rfl H G G ?_
  rw [oS hc1 hc2]
  exact ⟨none,0,rfl,(S.sel [] G G).newNil _ _ _⟩
 try simp only [o1,o2,o3,o4,o5,o6,o7,o8,o9,oa] at hc2
 refine wp_skip ?_
 refine k6 _ _ ?_
 refine sS H fun K9 k9=>sr 1 rfl<|sE ?_;clear H a;intro a H
 refine k9 _ ?_;clear k9 K9
 refine wp_seq_k fun K10 k10=>?_
 replace H:=H.keep [1,2,3,4,11] rfl
 refine sS H fun K11 k11=>sf eF rfl<|sl S 0 fR G G G<|sL gH rfl<|sr 1 rfl<|sE ?_;clear H a;intro a H
 refine k11 _ ?_;clear k11 K11
 refine wp_block ?_
 replace S:=S.newNil 3 1 (wcl [])
 refine loop_st (X:=Nat×List Nat×Option Addr×Nat) (R0:=_) [1,2,3,4,29,30] H rfl (fun ⟨k,wl,A9,c9⟩=>[(11,.slice A9 wl.length c9),(31,.int .i64 (k:Int))]) (fun ⟨k,wl,A9,c9⟩=>[ownM 3 1 A9 wl.length c9 (wcl wl)]) (fun g ⟨k,wl,A9,c9⟩=>k≤ps.length∧g+k=ps.length∧wl=mustP ps out (mustB P T ps xs out pe) k) (ps.length) (0,[],none,0) ?_ (S.sel [0,1] G G) (H.keep [11,31,1,2,3,4,29,30] rfl) ?_
 · exact ⟨by omega,by omega,rfl⟩
 clear H S a
 intro g1 x1 a w1 hp S H K12 k12
 obtain ⟨k,wl,A9,c9⟩:=x1
 dsimp only at hp S H
 obtain ⟨hkl,hgk,hW⟩:=hp
 have hwn:wl.length≤k:=by rw [hW];exact wU k
 refine sS H fun K13 k13=>sr 1 rfl<|sE ?_;clear H a;intro a H
 refine k13 _ ?_;clear k13 K13
 refine wp_seq_k fun K14 k14=>?_
 refine condL H rfl (fun hc3=>?_) (fun hc3=>?_)
 ·skip
  refine wp_skip ?_
  refine k14 _ _ ?_
  refine wp_seq_k fun K15 k15=>?_
  refine wp_block ?_
  refine seq_list fun K16 k16=>?_
  refine ls 2 H<|si gH gG G G (hps.adr (by omega)) (by omega)<|sd ((cS mY gG rfl S hps (by omega) (by omega)))<|sE ?_;clear H a;intro a H
  refine aI H rfl S uO ?_;clear H a S;intro b13 _ a hb13 hbw13 S H
  refine aC H S (i:=0) G G G G gG G G ?_
  clear H a S;intro _ a S H
  refine k16 _ _ ?_;clear k16 K16
  rcases mov3 (ps.getD k Psg.zero).kind (out/2^(ps.getD k Psg.zero).mach.toNat) with hB|hB|hB
  ·skip
   skip
   replace H:=H.keep [1,2,3,4,11,13,29,30,31] rfl
   replace S:=S.drew
   refine seq_wq [(0,true),(1,true),(2,true),(3,true),(4,true),(5,true),(6,true),(7,true),(8,true),(9,true),(10,true),(11,true),(12,true),(13,true),(14,true),(15,true),(16,true),(17,true),(18,true),(19,true),(20,true),(21,true),(22,true)] (by kernel_rfl) (by kernel_rfl) (S.sel [0,1,2] G G) fun K17 k17=>?_
   refine qF H<|qd rfl (fun _ S=>(aB dU rfl))<|qd rfl (fun _ S=>aF aE rfl (boxM.rd S (i:=0) G G))<|qd rfl (fun _ S=>(cE G G).to (congrArg Value.bool (decide_eq_false hB)))<|qr 1 rfl<|qK ?_;clear H a;intro a H
   refine aJ H G G G G G ?_;clear H a;intro a H
   refine aJ H G G G G G ?_;clear H a;intro a H
   refine aJ H G G G G G ?_;clear H a;intro a H
   refine aJ H G G G G G ?_;clear H a;intro a H
   refine aJ H G G G G G ?_;clear H a;intro a H
   refine aJ H G G G G G ?_;clear H a;intro a H
   refine qF H<|qd rfl (fun _ S=>(aR G G G))<|qr 1 rfl<|qK ?_;clear H a;intro a H
   refine aJ H G G G G G ?_;clear H a;intro a H
   refine aJ H G G G G G ?_;clear H a;intro a H
   refine aJ H G G G G G ?_;clear H a;intro a H
   refine aJ H G G G G G ?_;clear H a;intro a H
   refine aJ H G G G G G ?_;clear H a;intro a H
   refine aJ H G G G G G ?_;clear H a;intro a H
   refine aJ H G G G G G ?_;clear H a;intro a H
   refine aJ H G G G G G ?_;clear H a;intro a H
   refine aJ H G G G G G ?_;clear H a;intro a H
   refine aJ H G G G G G ?_;clear H a;intro a H
   refine qF H<|qd rfl (fun _ S=>(aR G G G))<|qK ?_;clear H a;intro a H
   refine bM ?_
   refine k17 _ _ ?_
   clear k17 K17
   refine cond_ H rfl (fun hc4=>?_) (fun hc4=>?_)
   ·skip
    skip
    cases hc4
   skip
   refine wp_skip ?_
   refine k15 _ _ ?_
   replace H:=H.keep [1,2,3,4,11,29,30,31] rfl
   refine sO H<|sd (aH G G (by unfold i64ok;omega))<|sr 1 rfl<|sE ?_;clear H a;intro a H
   exact k12 (g1-1) (k+1,_,_,_) a _ (by omega) (by first|exact ⟨by omega,by omega,jU hW (vD hB hc6)⟩|exact ⟨by omega,by omega,dK hW (vE hc6)⟩|exact ⟨by omega,by omega,dK hW (qE hB)⟩|exact ⟨by omega,by omega,dK hW (qG hB.2)⟩) (S.sel [1,2] G G) (H.keep [11,31,1,2,3,4,29,30] rfl)
  ·skip
   have hmm:0≤(ps.getD k Psg.zero).mach∧(ps.getD k Psg.zero).mach≤11:=fO hV (by omega) hB.1
   replace H:=H.keep [1,2,3,4,11,13,29,30,31] rfl
   replace S:=S.drew
   refine seq_wq [(0,true),(1,true),(2,true),(3,true),(4,true),(5,true),(6,true),(7,true),(8,true),(9,true),(10,true),(11,true),(12,true),(13,true),(14,true),(15,true),(16,true),(17,true),(18,true),(19,true),(20,true),(21,true),(22,true)] (by kernel_rfl) (by kernel_rfl) (S.sel [0,1,2] G G) fun K19 k19=>?_
   refine qF H<|qd rfl (fun _ S=>(aB dU rfl))<|qd rfl (fun _ S=>aF aE rfl (boxM.rd S (i:=0) G G))<|qd rfl (fun _ S=>(cE G G).to (congrArg Value.bool (decide_eq_true hB.1)))<|qr 1 rfl<|qK ?_;clear H a;intro a H
   refine aG H G G G G (fun _ S=>aP rfl) ?_;clear H a;intro a H
   refine aG H G G G G (fun _ S=>(aB cX rfl)) ?_;clear H a;intro a H
   refine aG H G G G G (fun _ S=>aF aE rfl (boxM.rd S (i:=0) G G)) ?_;clear H a;intro a H
   refine aG H G G G G (fun _ S=>gF G G (by omega) (by omega)) ?_;clear H a;intro a H
   refine aG H G G G G (fun _ S=>fB G G) ?_;clear H a;intro a H
   refine aG H G G G G (fun _ S=>(cE G G).to (congrArg Value.bool (decide_eq_false hB.2))) ?_;clear H a;intro a H
   refine qF H<|qd rfl (fun _ S=>(fL G G G))<|qr 1 rfl<|qK ?_;clear H a;intro a H
   refine aJ H G G G G G ?_;clear H a;intro a H
   refine aJ H G G G G G ?_;clear H a;intro a H
   refine aJ H G G G G G ?_;clear H a;intro a H
   refine aJ H G G G G G ?_;clear H a;intro a H
   refine aJ H G G G G G ?_;clear H a;intro a H
   refine aJ H G G G G G ?_;clear H a;intro a H
   refine aJ H G G G G G ?_;clear H a;intro a H
   refine aJ H G G G G G ?_;clear H a;intro a H
   refine aJ H G G G G G ?_;clear H a;intro a H
   refine aJ H G G G G G ?_;clear H a;intro a H
   refine qF H<|qd rfl (fun _ S=>(aR G G G))<|qK ?_;clear H a;intro a H
   refine bM ?_
   refine k19 _ _ ?_
   clear k19 K19
   refine cond_ H rfl (fun hc5=>?_) (fun hc5=>?_)
   ·skip
    skip
    cases hc5
   skip
   refine wp_skip ?_
   refine k15 _ _ ?_
   replace H:=H.keep [1,2,3,4,11,29,30,31] rfl
   refine sO H<|sd (aH G G (by unfold i64ok;omega))<|sr 1 rfl<|sE ?_;clear H a;intro a H
   exact k12 (g1-1) (k+1,_,_,_) a _ (by omega) (by first|exact ⟨by omega,by omega,jU hW (vD hB hc6)⟩|exact ⟨by omega,by omega,dK hW (vE hc6)⟩|exact ⟨by omega,by omega,dK hW (qE hB)⟩|exact ⟨by omega,by omega,dK hW (qG hB.2)⟩) (S.sel [1,2] G G) (H.keep [11,31,1,2,3,4,29,30] rfl)
  have hmm:0≤(ps.getD k Psg.zero).mach∧(ps.getD k Psg.zero).mach≤11:=fO hV (by omega) hB.1
  have hpw:=Aa hmm
  have hbr:=rU hou (show (ps.getD k Psg.zero).mach.toNat<12 by omega) (by omega)
  replace H:=H.keep [1,2,3,4,11,13,29,30,31] rfl
  replace S:=S.drew
  refine seq_wq [(0,true),(1,true),(2,true),(3,true),(4,true),(5,true),(6,true),(7,true),(8,true),(9,true),(10,true),(11,true),(12,true),(13,true),(14,true),(15,true),(16,true),(17,true),(18,true),(19,true),(20,false),(21,true),(22,true)] (by kernel_rfl) (by kernel_rfl) (S.sel [0,1,2] G G) fun K21 k21=>?_
  refine qF H<|qd rfl (fun _ S=>(aB dU rfl))<|qd rfl (fun _ S=>aF aE rfl (boxM.rd S (i:=0) G G))<|qd rfl (fun _ S=>(cE G G).to (congrArg Value.bool (decide_eq_true hB.1)))<|qr 1 rfl<|qK ?_;clear H a;intro a H
  refine aG H G G G G (fun _ S=>aP rfl) ?_;clear H a;intro a H
  refine aG H G G G G (fun _ S=>(aB cX rfl)) ?_;clear H a;intro a H
  refine aG H G G G G (fun _ S=>aF aE rfl (boxM.rd S (i:=0) G G)) ?_;clear H a;intro a H
  refine aG H G G G G (fun _ S=>gF G G (by omega) (by omega)) ?_;clear H a;intro a H
  refine aG H G G G G (fun _ S=>fB G G) ?_;clear H a;intro a H
  refine aG H G G G G (fun _ S=>(cE G G).to (congrArg Value.bool (decide_eq_true hB.2))) ?_;clear H a;intro a H
  refine qF H<|qd rfl (fun _ S=>(fL G G G))<|qr 1 rfl<|qK ?_;clear H a;intro a H
  refine aG H G G G G (fun _ S=>(aD dP fM rfl S (i:=2) G G)) ?_;clear H a;intro a H
  refine aG H G G G G (fun _ S=>aP rfl) ?_;clear H a;intro a H
  refine aG H G G G G (fun _ S=>(aB cX rfl)) ?_;clear H a;intro a H
  refine aG H G G G G (fun _ S=>aF aE rfl (boxM.rd S (i:=0) G G)) ?_;clear H a;intro a H
  refine aG H G G G G (fun _ S=>eB G G (by omega) (by omega) (by unfold i64ok;omega)) ?_;clear H a;intro a H
  refine aG H G G G G (fun _ S=>qY G G hou (by omega) hB.2) ?_;clear H a;intro a H
  refine aG H G G G G (fun _ S=>aP rfl) ?_;clear H a;intro a H
  refine aG H G G G G (fun _ S=>aP rfl) ?_;clear H a;intro a H
  refine aT rfl ?_
  refine aX H G G ?_
  refine aA H G G Try.func36 G G (rY P T ps PA pc xs XA xc (out+2^(ps.getD k Psg.zero).mach.toNat) pe BA bc _ (hps.now S) hpn (hxs.now S) hxn (hpe.now S) hpl hV hbr hpp hT) ?_;clear H a
  rintro _ _ a ⟨rfl,S2⟩ H
  replace S:=S.call S2;clear S2
  refine wpList_nil (And.intro (S.sel [0,1,2] G G) ?_)
  refine aG H G G G G (fun _ S=>cI rfl) ?_;clear H a;intro a H
  refine qF H<|qd rfl (fun _ S=>(fL G G G))<|qK ?_;clear H a;intro a H
  refine bM ?_
  refine k21 _ _ ?_
  clear k21 K21
  refine cond_ H rfl (fun hc6=>?_) (fun hc6=>?_)
  ·skip
   simp only [Bool.true_and,o1,o2,o3,o4,o5,o6,o7,o8,o9,oa] at hc6
   replace H:=H.keep [1,2,3,4,11,13,29,30,31] rfl
   refine one_list ?_
   refine ls 3 H<|sr 1 rfl<|sf cX rfl<|sl S 0 aE G G G<|sE ?_;clear H a;intro a H
   refine bB H rfl S aM bC eZ G G G G G G G G G ?_;clear H a S;intro A1 _ a hA1 S H
   refine cK H rfl S aM bC eZ mA G G (i:=2) G G G (ownM.inS S (i:=0) rfl) (kW (w8one rfl)) (by omega) (by omega) ?_;clear H a S;intro A2 c2 _ a S H
   replace S:=S.recell (i:=2) rfl (cell':=wcl (wl++[(bA ps k).toNat])) (fun k j hk hj=>zJ (congrArg (Value.int .i64) (Int.toNat_of_nonneg hmm.1).symm) k j hk hj)
   rw [show wl.length+1=(wl++[(bA ps k).toNat]).length by simp] at H S
   refine ls 1 H<|sr 1 rfl<|sE ?_;clear H a;intro a H
   refine k15 _ _ ?_
   refine sO H<|sd (aH G G (by unfold i64ok;omega))<|sr 1 rfl<|sE ?_;clear H a;intro a H
   exact k12 (g1-1) (k+1,_,_,_) a _ (by omega) (by first|exact ⟨by omega,by omega,jU hW (vD hB hc6)⟩|exact ⟨by omega,by omega,dK hW (vE hc6)⟩|exact ⟨by omega,by omega,dK hW (qE hB)⟩|exact ⟨by omega,by omega,dK hW (qG hB.2)⟩) (S.sel [2,3] G G) (H.keep [11,31,1,2,3,4,29,30] rfl)
  simp only [Bool.true_and,o1,o2,o3,o4,o5,o6,o7,o8,o9,oa] at hc6
  refine wp_skip ?_
  refine k15 _ _ ?_
  replace H:=H.keep [1,2,3,4,11,29,30,31] rfl
  refine sO H<|sd (aH G G (by unfold i64ok;omega))<|sr 1 rfl<|sE ?_;clear H a;intro a H
  exact k12 (g1-1) (k+1,_,_,_) a _ (by omega) (by first|exact ⟨by omega,by omega,jU hW (vD hB hc6)⟩|exact ⟨by omega,by omega,dK hW (vE hc6)⟩|exact ⟨by omega,by omega,dK hW (qE hB)⟩|exact ⟨by omega,by omega,dK hW (qG hB.2)⟩) (S.sel [1,2] G G) (H.keep [11,31,1,2,3,4,29,30] rfl)
 refine wp_exit ?_
 refine k10 _ _ ?_
 obtain rfl:k=ps.length:=by omega
 replace S:=sB S (i:=0) rfl (mK wl).symm
 replace S:=(S.sel [0,1] G G)
 rw [vB] at S
 rw [show Value.slice A9 wl.length c9 = .slice A9 (toI wl).length c9 by rw [mK]] at H
 have hso:=wW (f:=(mustB P T ps xs out pe)) (out:=out) hV
 rw [←hW] at hso
 refine seq_list fun K25 k25=>?_
 refine ls 1 H<|sr 1 rfl<|sE ?_;clear H a;intro a H
 refine aA H G G Try.func37 G G (zZ S (i:=0) rfl (by rw [mK];omega)) ?_;clear H a
 rintro _ _ a ⟨rfl,S2⟩ H
 replace S:=S2;clear S2
 refine k25 _ _ ?_;clear k25 K25
 refine sS H fun K26 k26=>sr 3 rfl<|sE ?_;clear H a;intro a H
 refine k26 _ ?_;clear k26 K26
 refine wp_ret ?_
 refine ret2 (fn:=Try.f16) rfl H G G ?_
 rw [oT hc1 hc2]
 rw [hso] at S
 replace S:=sB S (i:=0) rfl (show (toI wl).length=(toI (mustL P T ps xs out pe)).length by unfold mustL;rw [←hso,List.length_mergeSort])
 refine ⟨A9,c9,?_,(S.sel [0] G G)⟩
 rw [show (toI (mustL P T ps xs out pe)).length=(toI wl).length by unfold mustL;rw [←hso,List.length_mergeSort]]
end
section
def MList (ps:List Psg) (k:Nat) (ml:List Int):Prop:=ml.length≤k∧∀ m,0≤m→(hasI ml m=true↔¬ cntM ps m k=0)
theorem MList.nil {ps:List Psg}:MList ps 0 []:=⟨Nat.le_refl 0,fun m _=>by
  constructor
  · intro h;cases h
  · intro h;exact absurd rfl h⟩
theorem oU {ps:List Psg} {m:Int} {k:Nat}:cntM ps m (k+1)=cntM ps m k+(if bA ps k=m then 1 else 0):=rfl
theorem wY {l:List Int} {x m:Int}:hasI (l++[x]) m=(hasI l m||decide (m=x)):=by unfold hasI;rw [List.any_append];simp
theorem MList.add {ps:List Psg} {k:Nat} {ml:List Int} (h:MList ps k ml):MList ps (k+1) (ml++[bA ps k]):=⟨by rw [List.length_append];have:=h.1;simp;omega,fun m hm=>by
  have h1:=h.2 m hm
  have h2:=uV (ps:=ps) (m:=m) (k:=k)
  rw [wY,oU,Bool.or_eq_true,decide_eq_true_eq,h1]
  by_cases e:bA ps k=m
  · rw [if_pos e];exact ⟨fun _=>by omega,fun _ => .inr e.symm⟩
  · rw [if_neg e,Int.add_zero];exact ⟨fun g=>g.resolve_right (fun g=>e g.symm),.inl⟩⟩
theorem MList.skip {ps:List Psg} {k:Nat} {ml:List Int} (h:MList ps k ml) (hk:bA ps k<0):MList ps (k+1) ml:=⟨by have:=h.1;omega,fun m hm=>by
  rw [oU,if_neg (by omega),Int.add_zero]
  exact h.2 m hm⟩
theorem MList.fresh {ps:List Psg} {k:Nat} {ml:List Int} (h:MList ps k ml) (h0:0≤(ps.getD k Psg.zero).mach) (hh:hasI ml (ps.getD k Psg.zero).mach=false):cntM ps (bA ps k) k=0:=by
  have h9:=h.2 _ h0
  rw [hh] at h9
  have h8:bA ps k=(ps.getD k Psg.zero).mach:=rfl
  rw [h8]
  simp only [Bool.false_eq_true,false_iff] at h9
  omega
theorem lD {pl:Int} {ps:List Psg} {k:Nat} (h:psgOk pl (ps.getD k Psg.zero)=true) (hz:cntM ps (bA ps k) k=0):pasOk pl ps k=true:=by unfold pasOk;rw [h,decide_eq_true (.inr hz)];rfl
theorem lE {pl:Int} {ps:List Psg} {k:Nat} (h:psgOk pl (ps.getD k Psg.zero)=true) (hz:(ps.getD k Psg.zero).mach<0):pasOk pl ps k=true:=by unfold pasOk;rw [h,decide_eq_true (.inl hz)];rfl
theorem Bz {pl:Int} {ps:List Psg} {k:Nat} {ml:List Int} (hM:MList ps k ml) (hc:((ps.getD k Psg.zero).mach<0∨11<(ps.getD k Psg.zero).mach)∨hasI ml (ps.getD k Psg.zero).mach=true) (hk:(ps.getD k Psg.zero).kind=3∨(ps.getD k Psg.zero).kind=4):pasOk pl ps k=false:=by
  unfold pasOk
  rw [Bool.and_eq_false_iff]
  by_cases h0:0≤(ps.getD k Psg.zero).mach∧(ps.getD k Psg.zero).mach≤11
  · refine .inr (decide_eq_false ?_)
    have h9:=hM.2 _ h0.1
    have h8:bA ps k=(ps.getD k Psg.zero).mach:=rfl
    rw [h8]
    rcases hc with h7|h7
    · omega
    · rw [h7] at h9
      simp only [true_iff] at h9
      omega
  · exact .inl (dX (by omega))
theorem Ca {pl:Int} {xs:List Int} {k:Nat} (h:(0≤xs.getD k 0∧xs.getD k 0≤pl-1)∧(k=0∨xs.getD (k-1) 0<xs.getD k 0)):exOk pl xs k=true:=by unfold exOk;rw [decide_eq_true_eq];omega
theorem Cb {pl:Int} {xs:List Int} {k:Nat} (h:¬ ((0≤xs.getD k 0∧xs.getD k 0≤pl-1)∧(k=0∨xs.getD (k-1) 0<xs.getD k 0))):exOk pl xs k=false:=by unfold exOk;rw [decide_eq_false_iff_not];omega
theorem uH {l:List Int} {x:Int} {v:Value} (hv:v = .int .i64 x):∀ k j,k<l.length+1→j<1→capp l.length (icl l) (fun k' j=>([[v]].getD k' []).getD j undef) k j=icl (l++[x]) k j:=by
  intro k j hk hj
  have:j=0:=by omega
  subst this
  subst hv
  unfold capp icl
  by_cases h:k<l.length
  · rw [if_pos h,List.getD_eq_getElem?_getD,List.getD_eq_getElem?_getD,List.getElem?_append_left h]
  · have e:k=l.length:=by omega
    subst e
    rw [if_neg h,Nat.sub_self,List.getD_eq_getElem?_getD,List.getElem?_append_right (Nat.le_refl _),Nat.sub_self]
    rfl
theorem cB (n lo hi:Int) (w:World) :
    Calls Try.prog 33 [.int .i64 n,.int .i64 lo,.int .i64 hi].toArray w (Ret (fun v w'=>v = .bool (decide (lo≤n)&&decide (n≤hi))∧w'=w)):=by
 refine enter Try.func33 rfl Try.ntmps33 rfl (fun a H=>?_)
 have S:=St.start w
 refine sS H fun K1 k1=>sr 1 rfl<|sE ?_;clear H a;intro a H
 refine k1 _ ?_;clear k1 K1
 replace H:=H.keep [0,1,2] rfl
 refine sS H fun K2 k2=>sr 4 rfl<|sg 3 3 10 13 true G G (fun hg4=>sy hg4<|sr 1 rfl<|sy hg4<|sr 1 rfl<|sy hg4<|sr 1 rfl<|sz 3 G G G)<|sa G G G<|sr 1 rfl<|sE ?_;clear H a;intro a H
 refine k2 _ ?_;clear k2 K2
 refine wp_ret ?_
 refine ret1 (fn:=Try.f33) rfl H rfl ?_
 exact ⟨rfl,rfl⟩
theorem Cc (n:Int) (w:World) :
    Calls Try.prog 31 [.int .i64 n].toArray w (Ret (fun v w'=>v = .bool (decide (0≤n)&&decide (n≤4095))∧w'=w)):=by
 refine enter Try.func31 rfl Try.ntmps31 rfl (fun a H=>?_)
 have S:=St.start w
 refine sS H fun K1 k1=>sr 1 rfl<|sE ?_;clear H a;intro a H
 refine k1 _ ?_;clear k1 K1
 refine sS H fun K2 k2=>sr 1 rfl<|sc rfl Try.func33 G G (cB _ _ _ _)<|sr 1 rfl<|sE ?_;clear H a;intro a H
 refine k2 _ ?_;clear k2 K2
 refine wp_ret ?_
 refine ret1 (fn:=Try.f31) rfl H rfl ?_
 exact ⟨rfl,rfl⟩
theorem Cd (l:List Int) (A:Option Addr) (cp:Nat) (x:Int) (w:World) (hl:InS w noF 1 A l.length (icl l)) (hn:l.length≤9223372036854775807) :
    Calls Try.prog 43 [.slice A l.length cp,.int .i64 x].toArray w (Ret (fun u w'=>u = .bool (hasI l x)∧St w noF [] w')):=by
 refine enter Try.func43 rfl Try.ntmps43 rfl (fun a H=>?_)
 have S:=St.start w
 refine sS H fun K1 k1=>sr 1 rfl<|sE ?_;clear H a;intro a H
 refine k1 _ ?_;clear k1 K1
 refine wp_seq_k fun K2 k2=>?_
 refine sS H fun K3 k3=>sr 1 rfl<|sE ?_;clear H a;intro a H
 refine k3 _ ?_;clear k3 K3
 refine wp_block ?_
 refine loop_st (X:=Nat) (R0:=_) [0,1] H rfl (fun k=>[(5,.int .i64 (k:Int))]) (fun k=>[]) (fun g k=>k≤l.length∧g+k=l.length∧(l.take k).any (fun y=>decide (x=y))=false) (l.length) 0 ?_ (S.sel [] G G) (H.keep [5,0,1] rfl) ?_
 · exact ⟨by omega,by omega,rfl⟩
 clear H S a
 intro g1 x1 a w1 hp S H K4 k4
 obtain ⟨k,rfl⟩:∃ y,y=x1:=⟨_,rfl⟩
 refine wp_seq_k fun K5 k5=>?_
 refine sS H fun K6 k6=>sr 2 rfl<|sL aM rfl<|sr 1 rfl<|sE ?_;clear H a;intro a H
 refine k6 _ ?_;clear k6 K6
 refine condL H rfl (fun hc1=>?_) (fun hc1=>?_)
 ·skip
  refine wp_skip ?_
  refine k5 _ _ ?_
  refine wp_seq_k fun K7 k7=>?_
  refine wp_block ?_
  replace H:=H.keep [0,1,5] rfl
  refine sS H fun K8 k8=>sr 2 rfl<|si aM bC G G (hl.adr (by omega)) (by omega)<|slm aE rfl (hl.rd S (by omega) (by omega))<|sr 2 rfl<|sE ?_;clear H a;intro a H
  refine k8 _ ?_;clear k8 K8
  refine condE H rfl (fun hc2=>?_) (fun hc2=>?_)
  ·skip
   refine sS H fun K9 k9=>sr 1 rfl<|sE ?_;clear H a;intro a H
   refine k9 _ ?_;clear k9 K9
   refine wp_ret ?_
   refine ret1 (fn:=Try.f43) rfl H rfl ?_
   exact ⟨by rw [zR (k:=k) (by omega) (by omega)],(S.sel [] G G)⟩
  refine wp_skip ?_
  refine k7 _ _ ?_
  replace H:=H.keep [0,1,5] rfl
  refine sO H<|sr 1 rfl<|sd (aH G G (by unfold i64ok;omega))<|sr 1 rfl<|sE ?_;clear H a;intro a H
  exact k4 (g1-1) (k+1) a _ (by omega) (⟨by omega,by omega,rX (by omega) hp.2.2 (by omega)⟩) (S.sel [] G G) (H.keep [5,0,1] rfl)
 refine wp_exit ?_
 refine k2 _ _ ?_
 refine sS H fun K11 k11=>sr 1 rfl<|sE ?_;clear H a;intro a H
 refine k11 _ ?_;clear k11 K11
 refine wp_ret ?_
 refine ret1 (fn:=Try.f43) rfl H rfl ?_
 exact ⟨by unfold hasI;rw [←List.take_of_length_le (l:=l) (i:=k) (by omega),hp.2.2],(S.sel [] G G)⟩
theorem sC (pl:Int) (ps:List Psg) (PA:Option Addr) (pc:Nat) (xs:List Int) (XA:Option Addr) (xc:Nat) (w:World) (hps:InS w noF 7 PA ps.length (pcell ps)) (hpn:ps.length≤9223372036854775807) (hxs:InS w noF 1 XA xs.length (icl xs)) (hxn:xs.length≤9223372036854775807) :
    Calls Try.prog 19 [.agg [.int .i64 pl,.slice PA ps.length pc,.slice XA xs.length xc].toArray].toArray w (Ret (fun v w'=>v = .int .i64 (stE pl ps xs)∧St w noF [] w')):=by
 refine enter Try.func19 rfl Try.ntmps19 rfl (fun a H=>?_)
 have S:=St.start w
 refine seq_list fun K1 k1=>?_
 refine aV H rfl S G G ?_;clear H a S;intro b1 _ a hb1 hbw1 S H
 refine ls 1 H<|sr 1 rfl<|sE ?_;clear H a;intro a H
 refine k1 _ _ ?_;clear k1 K1
 refine wp_seq_k fun K2 k2=>?_
 replace H:=H.keep [1] rfl
 refine sS H fun K3 k3=>sf eE rfl<|sl S 0 aE G G G<|sc rfl Try.func33 G G (cB _ _ _ _)<|sr 2 rfl<|sg 4 4 11 15 false G G (fun hg5=>by
     have hq5:=hg5;try simp only [o1,o2,o3,o4,o5,o6,o7,o8,o9,oa] at hq5
     exact sy hg5<|sf eF rfl<|sy hg5<|sl S 0 fR G G G<|sy hg5<|sL gH rfl<|sy hg5<|sr 1 rfl<|sz 4 G G G)<|so G G G<|sE ?_;clear H a;intro a H
 refine k3 _ ?_;clear k3 K3
 refine cond_ H rfl (fun hc1=>?_) (fun hc1=>?_)
 ·skip
  try simp only [o1,o2,o3,o4,o5,o6,o7,o8,o9,oa] at hc1
  replace H:=H.keep [] rfl
  refine sS H fun K4 k4=>sr 1 rfl<|sE ?_;clear H a;intro a H
  refine k4 _ ?_;clear k4 K4
  refine wp_ret ?_
  refine ret1 (fn:=Try.f19) rfl H rfl ?_
  exact ⟨congrArg _ (uW (by omega)).symm,(S.sel [] G G)⟩
 try simp only [o1,o2,o3,o4,o5,o6,o7,o8,o9,oa] at hc1
 refine wp_skip ?_
 refine k2 _ _ ?_
 refine sS H fun K5 k5=>sr 1 rfl<|sE ?_;clear H a;intro a H
 refine k5 _ ?_;clear k5 K5
 refine wp_seq_k fun K6 k6=>?_
 refine sS H fun K7 k7=>sr 1 rfl<|sE ?_;clear H a;intro a H
 refine k7 _ ?_;clear k7 K7
 refine wp_block ?_
 replace S:=S.newNil 3 1 (icl [])
 refine loop_st (X:=Nat×List Int×Option Addr×Nat) (R0:=_) [1] H rfl (fun ⟨k,ml,A9,c9⟩=>[(3,.slice A9 ml.length c9),(4,.int .i64 (k:Int))]) (fun ⟨k,ml,A9,c9⟩=>[ownM 3 1 A9 ml.length c9 (icl ml)]) (fun g ⟨k,ml,A9,c9⟩=>k≤ps.length∧g+k=ps.length∧allN (pasOk pl ps) k=true∧MList ps k ml) (ps.length) (0,[],none,0) ?_ (S.sel [0,1] G G) (H.keep [3,4,1] rfl) ?_
 · exact ⟨by omega,by omega,rfl,MList.nil⟩
 clear H S a
 intro g1 x1 a w1 hp S H K8 k8
 obtain ⟨k,ml,A9,c9⟩:=x1
 dsimp only at hp S H
 obtain ⟨hkl,hgk,hA,hM⟩:=hp
 refine wp_seq_k fun K9 k9=>?_
 refine sS H fun K10 k10=>sr 1 rfl<|sf eF rfl<|sl S 1 fR G G G<|sL gH rfl<|sr 1 rfl<|sE ?_;clear H a;intro a H
 refine k10 _ ?_;clear k10 K10
 refine condL H rfl (fun hc2=>?_) (fun hc2=>?_)
 ·skip
  refine wp_skip ?_
  refine k9 _ _ ?_
  refine wp_seq_k fun K11 k11=>?_
  refine wp_block ?_
  replace H:=H.keep [1,3,4] rfl
  refine seq_list fun K12 k12=>?_
  refine ls 5 H<|sf eF rfl<|sl S 1 fR G G G<|sr 1 rfl<|si gH gG G G (hps.adr (by omega)) (by omega)<|sd ((cS mY gG rfl S hps (by omega) (by omega)))<|sE ?_;clear H a;intro a H
  refine aI H rfl S uO ?_;clear H a S;intro b5 _ a hb5 hbw5 S H
  refine aC H S (i:=0) G G G G gG G G ?_
  clear H a S;intro _ a S H
  refine k12 _ _ ?_;clear k12 K12
  refine wp_seq_k fun K13 k13=>?_
  replace H:=H.keep [1,3,4,5] rfl
  refine sS H fun K14 k14=>sf gQ rfl<|sl S 0 aE G G G<|sf eE rfl<|sl S 2 aE G G G<|sd (cH G G (by unfold i64ok;omega))<|sc rfl Try.func33 G G (cB _ _ _ _)<|sr 2 rfl<|sg 7 7 36 43 false G G (fun hg8=>by
      have hq8:=hg8;try simp only [o1,o2,o3,o4,o5,o6,o7,o8,o9,oa] at hq8
      exact sy hg8<|sf gR rfl<|sy hg8<|sl S 0 aE G G G<|sy hg8<|sf eE rfl<|sy hg8<|sl S 2 aE G G G<|sy hg8<|sd (cH G G (by unfold i64ok;omega))<|sy hg8<|sc rfl Try.func33 G G (cB _ _ _ _)<|sy hg8<|sr 1 rfl<|sz 7 G G G)<|so G G G<|sr 1 rfl<|sg 5 16 45 50 false G G (fun hg17=>by
      have hq17:=hg17;try simp only [o1,o2,o3,o4,o5,o6,o7,o8,o9,oa] at hq17
      exact sy hg17<|sf gQ rfl<|sy hg17<|sl S 0 aE G G G<|sy hg17<|sf gR rfl<|sy hg17<|sl S 0 aE G G G<|sy hg17<|sr 1 rfl<|sz 5 G G G)<|so G G G<|sr 1 rfl<|sg 4 23 52 56 false G G (fun hg24=>by
      have hq24:=hg24;try simp only [o1,o2,o3,o4,o5,o6,o7,o8,o9,oa] at hq24
      exact sy hg24<|sf pG rfl<|sy hg24<|sl S 0 aE G G G<|sy hg24<|sc rfl Try.func33 G G (cB _ _ _ _)<|sy hg24<|sr 1 rfl<|sz 4 G G G)<|so G G G<|sr 1 rfl<|sg 4 29 58 62 false G G (fun hg30=>by
      have hq30:=hg30;try simp only [o1,o2,o3,o4,o5,o6,o7,o8,o9,oa] at hq30
      exact sy hg30<|sf mH rfl<|sy hg30<|sl S 0 aE G G G<|sy hg30<|sc rfl Try.func33 G G (cB _ _ _ _)<|sy hg30<|sr 1 rfl<|sz 4 G G G)<|so G G G<|sr 1 rfl<|sg 4 35 64 68 false G G (fun hg36=>by
      have hq36:=hg36;try simp only [o1,o2,o3,o4,o5,o6,o7,o8,o9,oa] at hq36
      exact sy hg36<|sf dU rfl<|sy hg36<|sl S 0 aE G G G<|sy hg36<|sc rfl Try.func33 G G (cB _ _ _ _)<|sy hg36<|sr 1 rfl<|sz 4 G G G)<|so G G G<|sE ?_;clear H a;intro a H
  refine k14 _ ?_;clear k14 K14
  refine cond_ H rfl (fun hc3=>?_) (fun hc3=>?_)
  ·skip
   try simp only [o1,o2,o3,o4,o5,o6,o7,o8,o9,oa] at hc3
   replace H:=H.keep [] rfl
   refine sS H fun K15 k15=>sr 1 rfl<|sE ?_;clear H a;intro a H
   refine k15 _ ?_;clear k15 K15
   refine wp_ret ?_
   refine ret1 (fn:=Try.f19) rfl H rfl ?_
   exact ⟨congrArg _ (iQ (k:=k) (by omega) (by unfold pasOk;rw [Bool.and_eq_false_iff];exact .inl (dX (by omega)))).symm,(S.sel [] G G)⟩
  try simp only [o1,o2,o3,o4,o5,o6,o7,o8,o9,oa] at hc3
  refine wp_skip ?_
  refine k13 _ _ ?_
  refine wp_seq_k fun K16 k16=>?_
  refine sS H fun K17 k17=>sf dU rfl<|sl S 0 aE G G G<|sr 2 rfl<|sg 3 3 73 76 false G G (fun hg4=>by
      have hq4:=hg4;try simp only [o1,o2,o3,o4,o5,o6,o7,o8,o9,oa] at hq4
      exact sy hg4<|sf dU rfl<|sy hg4<|sl S 0 aE G G G<|sy hg4<|sr 1 rfl<|sz 3 G G G)<|so G G G<|sE ?_;clear H a;intro a H
  refine k17 _ ?_;clear k17 K17
  refine cond_ H rfl (fun hc4=>?_) (fun hc4=>?_)
  ·skip
   try simp only [o1,o2,o3,o4,o5,o6,o7,o8,o9,oa] at hc4
   refine wp_seq_k fun K18 k18=>?_
   replace H:=H.keep [1,3,4,5] rfl
   refine seq_list fun K19 k19=>?_
   refine ls 2 H<|sf cX rfl<|sl S 0 aE G G G<|sE ?_;clear H a;intro a H
   refine aA H G G Try.func33 G G (cB _ _ _ _) ?_;clear H a
   rintro _ _ a ⟨rfl,rfl⟩ H
   refine ls 2 H<|sr 2 rfl<|sE ?_;clear H a;intro a H
   apply bT (i:=4) (g:=82) (t:=86) (b:=false) 4 H S G G (by kernel_rfl) (by kernel_rfl) G G
   case h1=>
    intro hg5
    have hq5:=hg5;try simp only [o1,o2,o3,o4,o5,o6,o7,o8,o9,oa] at hq5
    refine ls 3 H<|sy hg5<|sr 1 rfl<|sy hg5<|sf cX rfl<|sy hg5<|sl S 0 aE G G G<|sE ?_;intro a H
    refine cL H G G (by assumption) ?_
    refine aA H G G Try.func43 G G (Cd ml A9 c9 _ _ (ownM.inS S (i:=1) rfl) (by have:=hM.1;omega)) ?_
    rintro _ _ a ⟨rfl,S2⟩ H
    replace S:=S.call S2;clear S2
    exact wpList_nil ⟨H.strip 4 G G,(S.sel [0,1,2] G G)⟩
   clear H a S;intro a _ H S
   refine ls 1 H<|so G G G<|sE ?_;clear H a;intro a H
   refine k19 _ _ ?_;clear k19 K19
   refine cond_ H rfl (fun hc5=>?_) (fun hc5=>?_)
   ·skip
    try simp only [o1,o2,o3,o4,o5,o6,o7,o8,o9,oa] at hc5
    replace H:=H.keep [] rfl
    refine sS H fun K20 k20=>sr 1 rfl<|sE ?_;clear H a;intro a H
    refine k20 _ ?_;clear k20 K20
    refine wp_ret ?_
    refine ret1 (fn:=Try.f19) rfl H rfl ?_
    exact ⟨congrArg _ (iQ (k:=k) (by omega) (Bz hM hc5 hc4)).symm,(S.sel [] G G)⟩
   try simp only [o1,o2,o3,o4,o5,o6,o7,o8,o9,oa] at hc5
   have hz:=hM.fresh hc5.1.1 hc5.2
   refine wp_skip ?_
   refine k18 _ _ ?_
   refine one_list ?_
   refine ls 3 H<|sr 1 rfl<|sf cX rfl<|sl S 0 aE G G G<|sE ?_;clear H a;intro a H
   refine bB H rfl S aM bC eZ G G G G G G G G G ?_;clear H a S;intro A1 _ a hA1 S H
   refine cK H rfl S aM bC eZ mA G G (i:=2) G G G (ownM.inS S (i:=0) rfl) (kW (w8one rfl)) (by have:=hM.1;omega) (by have:=hM.1;omega) ?_;clear H a S;intro A2 c2 _ a S H
   replace S:=S.recell (i:=2) rfl (cell':=icl (ml++[bA ps k])) (fun q j hq hj=>uH rfl q j hq hj)
   rw [show ml.length+1=(ml++[bA ps k]).length by simp] at H S
   refine ls 1 H<|sr 1 rfl<|sE ?_;clear H a;intro a H
   refine k16 _ _ ?_
   replace H:=H.keep [1,3,4,5] rfl
   refine sS H fun K22 k22=>sf dU rfl<|sl S 1 aE G G G<|sr 1 rfl<|sE ?_;clear H a;intro a H
   refine k22 _ ?_;clear k22 K22
   refine condE H rfl (fun hc6=>?_) (fun hc6=>?_)
   ·skip
    refine sS H fun K23 k23=>sf gS rfl<|sl S 1 aE G G G<|sc rfl Try.func33 G G (cB _ _ _ _)<|sr 1 rfl<|sE ?_;clear H a;intro a H
    refine k23 _ ?_;clear k23 K23
    refine cond_ H rfl (fun hc7=>?_) (fun hc7=>?_)
    ·skip
     try simp only [o1,o2,o3,o4,o5,o6,o7,o8,o9,oa] at hc7
     refine sS H fun K24 k24=>sr 1 rfl<|sE ?_;clear H a;intro a H
     refine k24 _ ?_;clear k24 K24
     refine wp_ret ?_
     refine ret1 (fn:=Try.f19) rfl H rfl ?_
     exact ⟨congrArg _ (iQ (k:=k) (by omega) (by unfold pasOk;rw [Bool.and_eq_false_iff];exact .inl (dX (by omega)))).symm,(S.sel [] G G)⟩
    try simp only [o1,o2,o3,o4,o5,o6,o7,o8,o9,oa] at hc7
    refine wp_skip ?_
    refine k11 _ _ ?_
    replace H:=H.keep [1,3,4] rfl
    refine sO H<|sr 1 rfl<|sd (aH G G (by unfold i64ok;omega))<|sr 1 rfl<|sE ?_;clear H a;intro a H
    exact k8 (g1-1) (k+1,_,_,_) a _ (by omega) (by first|exact ⟨by omega,by omega,cM hA (lD (cQ.2 (by omega)) hz),hM.add⟩|exact ⟨by omega,by omega,cM hA (lE (cQ.2 (by omega)) (by omega)),hM.skip (by unfold bA;omega)⟩) (S.sel [2,3] G G) (H.keep [3,4,1] rfl)
   refine sS H fun K26 k26=>sf gS rfl<|sl S 1 aE G G G<|sr 1 rfl<|sE ?_;clear H a;intro a H
   refine k26 _ ?_;clear k26 K26
   refine condN H rfl (fun hc8=>?_) (fun hc8=>?_)
   ·skip
    refine sS H fun K27 k27=>sr 1 rfl<|sE ?_;clear H a;intro a H
    refine k27 _ ?_;clear k27 K27
    refine wp_ret ?_
    refine ret1 (fn:=Try.f19) rfl H rfl ?_
    exact ⟨congrArg _ (iQ (k:=k) (by omega) (by unfold pasOk;rw [Bool.and_eq_false_iff];exact .inl (dX (by omega)))).symm,(S.sel [] G G)⟩
   refine wp_skip ?_
   refine k11 _ _ ?_
   replace H:=H.keep [1,3,4] rfl
   refine sO H<|sr 1 rfl<|sd (aH G G (by unfold i64ok;omega))<|sr 1 rfl<|sE ?_;clear H a;intro a H
   exact k8 (g1-1) (k+1,_,_,_) a _ (by omega) (by first|exact ⟨by omega,by omega,cM hA (lD (cQ.2 (by omega)) hz),hM.add⟩|exact ⟨by omega,by omega,cM hA (lE (cQ.2 (by omega)) (by omega)),hM.skip (by unfold bA;omega)⟩) (S.sel [2,3] G G) (H.keep [3,4,1] rfl)
  try simp only [o1,o2,o3,o4,o5,o6,o7,o8,o9,oa] at hc4
  refine sS H fun K29 k29=>sf cX rfl<|sl S 0 aE G G G<|sr 1 rfl<|sE ?_;clear H a;intro a H
  refine k29 _ ?_;clear k29 K29
  refine condN H rfl (fun hc9=>?_) (fun hc9=>?_)
  ·skip
   refine sS H fun K30 k30=>sr 1 rfl<|sE ?_;clear H a;intro a H
   refine k30 _ ?_;clear k30 K30
   refine wp_ret ?_
   refine ret1 (fn:=Try.f19) rfl H rfl ?_
   exact ⟨congrArg _ (iQ (k:=k) (by omega) (by unfold pasOk;rw [Bool.and_eq_false_iff];exact .inl (dX (by omega)))).symm,(S.sel [] G G)⟩
  refine wp_skip ?_
  refine k16 _ _ ?_
  replace H:=H.keep [1,3,4,5] rfl
  refine sS H fun K31 k31=>sf dU rfl<|sl S 0 aE G G G<|sr 1 rfl<|sE ?_;clear H a;intro a H
  refine k31 _ ?_;clear k31 K31
  refine condE H rfl (fun hc10=>?_) (fun hc10=>?_)
  ·skip
   refine sS H fun K32 k32=>sf gS rfl<|sl S 0 aE G G G<|sc rfl Try.func33 G G (cB _ _ _ _)<|sr 1 rfl<|sE ?_;clear H a;intro a H
   refine k32 _ ?_;clear k32 K32
   refine cond_ H rfl (fun hc11=>?_) (fun hc11=>?_)
   ·skip
    try simp only [o1,o2,o3,o4,o5,o6,o7,o8,o9,oa] at hc11
    refine sS H fun K33 k33=>sr 1 rfl<|sE ?_;clear H a;intro a H
    refine k33 _ ?_;clear k33 K33
    refine wp_ret ?_
    refine ret1 (fn:=Try.f19) rfl H rfl ?_
    exact ⟨congrArg _ (iQ (k:=k) (by omega) (by unfold pasOk;rw [Bool.and_eq_false_iff];exact .inl (dX (by omega)))).symm,(S.sel [] G G)⟩
   try simp only [o1,o2,o3,o4,o5,o6,o7,o8,o9,oa] at hc11
   refine wp_skip ?_
   refine k11 _ _ ?_
   replace H:=H.keep [1,3,4] rfl
   refine sO H<|sr 1 rfl<|sd (aH G G (by unfold i64ok;omega))<|sr 1 rfl<|sE ?_;clear H a;intro a H
   exact k8 (g1-1) (k+1,_,_,_) a _ (by omega) (by first|exact ⟨by omega,by omega,cM hA (lD (cQ.2 (by omega)) hz),hM.add⟩|exact ⟨by omega,by omega,cM hA (lE (cQ.2 (by omega)) (by omega)),hM.skip (by unfold bA;omega)⟩) (S.sel [1,2] G G) (H.keep [3,4,1] rfl)
  refine sS H fun K35 k35=>sf gS rfl<|sl S 0 aE G G G<|sr 1 rfl<|sE ?_;clear H a;intro a H
  refine k35 _ ?_;clear k35 K35
  refine condN H rfl (fun hc12=>?_) (fun hc12=>?_)
  ·skip
   refine sS H fun K36 k36=>sr 1 rfl<|sE ?_;clear H a;intro a H
   refine k36 _ ?_;clear k36 K36
   refine wp_ret ?_
   refine ret1 (fn:=Try.f19) rfl H rfl ?_
   exact ⟨congrArg _ (iQ (k:=k) (by omega) (by unfold pasOk;rw [Bool.and_eq_false_iff];exact .inl (dX (by omega)))).symm,(S.sel [] G G)⟩
  refine wp_skip ?_
  refine k11 _ _ ?_
  replace H:=H.keep [1,3,4] rfl
  refine sO H<|sr 1 rfl<|sd (aH G G (by unfold i64ok;omega))<|sr 1 rfl<|sE ?_;clear H a;intro a H
  exact k8 (g1-1) (k+1,_,_,_) a _ (by omega) (by first|exact ⟨by omega,by omega,cM hA (lD (cQ.2 (by omega)) hz),hM.add⟩|exact ⟨by omega,by omega,cM hA (lE (cQ.2 (by omega)) (by omega)),hM.skip (by unfold bA;omega)⟩) (S.sel [1,2] G G) (H.keep [3,4,1] rfl)
 refine wp_exit ?_
 refine k6 _ _ ?_
 refine wp_seq_k fun K38 k38=>?_
 refine sS H fun K39 k39=>sr 1 rfl<|sE ?_;clear H a;intro a H
 refine k39 _ ?_;clear k39 K39
 refine wp_block ?_
 refine loop_st (X:=Nat) (R0:=_) [1] H rfl (fun k2=>[(6,.int .i64 (k2:Int))]) (fun k2=>[]) (fun g k2=>k2≤xs.length∧g+k2=xs.length∧allN (exOk pl xs) k2=true) (xs.length) 0 ?_ (S.sel [0,1] G G) (H.keep [6,1] rfl) ?_
 · exact ⟨by omega,by omega,rfl⟩
 clear H S a
 intro g2 x2 a w2 hp S H K40 k40
 obtain ⟨k2,rfl⟩:∃ y,y=x2:=⟨_,rfl⟩
 refine wp_seq_k fun K41 k41=>?_
 refine sS H fun K42 k42=>sr 1 rfl<|sf fI rfl<|sl S 1 aW G G G<|sL aM rfl<|sr 1 rfl<|sE ?_;clear H a;intro a H
 refine k42 _ ?_;clear k42 K42
 refine condL H rfl (fun hc13=>?_) (fun hc13=>?_)
 ·skip
  refine wp_skip ?_
  refine k41 _ _ ?_
  refine wp_seq_k fun K43 k43=>?_
  refine wp_block ?_
  replace H:=H.keep [1,6] rfl
  replace S:=S.drew
  refine sD H fun K44 k44=>sf fI rfl<|sl S 1 aW G G G<|sr 1 rfl<|si aM bC G G (hxs.adr (by omega)) (by omega)<|slm aE rfl (hxs.rd S (by omega) (by omega))<|sf eE rfl<|sl S 1 aE G G G<|sd (cH G G (by unfold i64ok;omega))<|sc rfl Try.func33 G G (cB _ _ _ _)<|sr 2 rfl<|sg 16 10 123 139 false G G (fun hg11=>by
      have hq11:=hg11;try simp only [o1,o2,o3,o4,o5,o6,o7,o8,o9,oa] at hq11
      exact sy hg11<|sr 1 rfl<|sy hg11<|sr 1 rfl<|sy hg11<|sr 1 rfl<|sg 12 13 126 138 true G G (fun hg14=>by
           have hq14:=hg14;try simp only [o1,o2,o3,o4,o5,o6,o7,o8,o9,oa] at hq14
           exact sy hg14<|sf fI rfl<|sy hg14<|sl S 1 aW G G G<|sy hg14<|sr 1 rfl<|sy hg14<|si aM bC G G (hxs.adr (by omega)) (by omega)<|sy hg14<|slm aE rfl (hxs.rd S (by omega) (by omega))<|sy hg14<|sf fI rfl<|sy hg14<|sl S 1 aW G G G<|sy hg14<|sr 1 rfl<|sy hg14<|sd (cH G G (by unfold i64ok;omega))<|sy hg14<|sI aM bC G G (hxs.adr (by omega)) (by omega) (by omega)<|sy hg14<|slm aE rfl (hxs.rd S (by omega) (by omega))<|sy hg14<|sr 1 rfl<|sz 12 G G G)<|sy hg11<|sa G G G<|sz 5 G G G)<|so G G G<|sE ?_;clear H a;intro a H
  refine k44 _ ?_;clear k44 K44
  refine cond_ H rfl (fun hc14=>?_) (fun hc14=>?_)
  ·skip
   try simp only [o1,o2,o3,o4,o5,o6,o7,o8,o9,oa] at hc14
   rw [show ((k2:Int)-1).toNat=k2-1 by omega] at hc14
   replace H:=H.keep [] rfl
   refine sS H fun K45 k45=>sr 1 rfl<|sE ?_;clear H a;intro a H
   refine k45 _ ?_;clear k45 K45
   refine wp_ret ?_
   refine ret1 (fn:=Try.f19) rfl H rfl ?_
   exact ⟨congrArg _ (Cp (k:=k2) (by omega) (Cb (by omega))).symm,(S.sel [] G G)⟩
  try simp only [o1,o2,o3,o4,o5,o6,o7,o8,o9,oa] at hc14
  rw [show ((k2:Int)-1).toNat=k2-1 by omega] at hc14
  refine wp_skip ?_
  refine k43 _ _ ?_
  refine sO H<|sr 1 rfl<|sd (aH G G (by unfold i64ok;omega))<|sr 1 rfl<|sE ?_;clear H a;intro a H
  exact k40 (g2-1) (k2+1) a _ (by omega) (⟨by omega,by omega,cM hp.2.2 (Ca (by omega))⟩) (S.sel [0,1] G G) (H.keep [6,1] rfl)
 refine wp_exit ?_
 refine k38 _ _ ?_
 refine sS H fun K47 k47=>sr 1 rfl<|sE ?_;clear H a;intro a H
 refine k47 _ ?_;clear k47 K47
 refine wp_ret ?_
 refine ret1 (fn:=Try.f19) rfl H rfl ?_
 have hk9:k=ps.length:=by omega
 have hk8:k2=xs.length:=by omega
 exact ⟨congrArg _ (Cq (by omega) (hk9 ▸ hA) (hk8 ▸ hp.2.2)).symm,(S.sel [] G G)⟩
end
end Go.Proofs.Ytoekeohiokcefaa
