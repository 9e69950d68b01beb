/- Part 3 of the proof. -/
import Derived.Test.YtinghmelkmblmaaGreatQcb
namespace Go.Proofs.YtinghmelkmblmaaGreat
open Go.RowKit
set_option linter.unusedVariables false
set_option linter.unusedSimpArgs false
set_option maxRecDepth 100000
set_option maxHeartbeats 4000000
section
theorem bY (n lo hi:Int) (w:World) :
    Calls Tryz.prog 104 [.int .i64 n,.int .i64 lo,.int .i64 hi].toArray w (Ret (fun v w'=>v = .bool (decide (lo≤n)&&decide (n≤hi))∧w'=w)):=by
 refine enter Tryz.func104 rfl Tryz.ntmps104 rfl (fun a H=>?_)
 have S:=St.start w
 refine sS H fun K1 k1=>sr 1 G<|sE ?_;intro a H
 refine k1 _ ?_;replace H:=H.keep [0,1,2] rfl;refine sS H fun K2 k2=>sr 4 G<|sg 3 3 10 13 true G G (fun hg4=>sy hg4<|sr 1 G<|sy hg4<|sr 1 G<|sy hg4<|sr 1 G<|sz 3 G G G)<|sa G G G<|sr 1 G<|sE ?_;intro a H
 refine k2 _ ?_;refine wp_ret ?_;refine ret1 (fn:=Tryz.f104) rfl H rfl ?_;exact ⟨rfl,rfl⟩
theorem Ag (p1 p2 p3 p4 p5 p6 p7 pl:Int) (w:World) (hpl : -1000≤pl∧pl≤1000) :
    Calls Tryz.prog 139 [.agg [.int .i64 p1,.int .i64 p2,.int .i64 p3,.int .i64 p4,.int .i64 p5,.int .i64 p6,.int .i64 p7].toArray,.int .i64 pl].toArray w (Ret (fun v w'=>v = .bool (psgOk pl (⟨p1,p2,p3,p4,p5,p6,p7⟩:Psg))∧St w noF [] w')):=by
 refine enter Tryz.func139 rfl Tryz.ntmps139 rfl (fun a H=>?_)
 have S:=St.start w
 refine seq_list fun K1 k1=>?_
 refine aO H rfl S G G ?_;intro b2 _ a hb2 hbw2 S H
 refine ls 1 H<|sr 1 G<|sE ?_;clear H a;intro a H
 refine k1 _ _ ?_;refine wp_seq_k fun K2 k2=>?_
 replace H:=H.keep [1,2] rfl;refine sS H fun K3 k3=>sf gA rfl<|sl S 0 aD G G G<|sr 1 G<|sd (aR G G (by unfold i64ok;omega))<|sc rfl Tryz.func104 G G (bY _ _ _ _)<|sr 2 G<|sg 6 6 11 17 false G G (fun hg7=>sy hg7<|sf gB rfl<|sy hg7<|sl S 0 aD G G G<|sy hg7<|sr 1 G<|sy hg7<|sd (aR G G (by unfold i64ok;omega))<|sy hg7<|sc rfl Tryz.func104 G G (bY _ _ _ _)<|sy hg7<|sr 1 G<|sz 6 G G G)<|so G G G<|sr 1 G<|sg 5 14 19 24 false G G (fun hg15=>sy hg15<|sf gA rfl<|sy hg15<|sl S 0 aD G G G<|sy hg15<|sf gB rfl<|sy hg15<|sl S 0 aD G G G<|sy hg15<|sr 1 G<|sz 5 G G G)<|so G G G<|sr 1 G<|sg 4 21 26 30 false G G (fun hg22=>sy hg22<|sf nC rfl<|sy hg22<|sl S 0 aD G G G<|sy hg22<|sc rfl Tryz.func104 G G (bY _ _ _ _)<|sy hg22<|sr 1 G<|sz 4 G G G)<|so G G G<|sr 1 G<|sg 4 27 32 36 false G G (fun hg28=>sy hg28<|sf qE rfl<|sy hg28<|sl S 0 aD G G G<|sy hg28<|sc rfl Tryz.func104 G G (bY _ _ _ _)<|sy hg28<|sr 1 G<|sz 4 G G G)<|so G G G<|sE ?_;clear H a;intro a H
 refine k3 _ ?_;refine cond_ H rfl (fun hc1=>?_) (fun hc1=>?_)
 ·skip
  try simp only [oz] at hc1
  replace H:=H.keep [] rfl;refine sS H fun K4 k4=>sr 1 G<|sE ?_;clear H a;intro a H
  refine k4 _ ?_;refine wp_ret ?_;refine ret1 (fn:=Tryz.f139) rfl H rfl ?_;refine ⟨congrArg Value.bool ?_,(S.sel [] G G)⟩;exact (fU (by first|omega|(dsimp only;omega))).symm
 try simp only [oz] at hc1
 refine wp_skip ?_;refine k2 _ _ ?_;refine wp_seq_k fun K5 k5=>?_
 refine sS H fun K6 k6=>sf fA rfl<|sl S 0 aD G G G<|sE ?_;clear H a;intro a H
 refine k6 _ ?_;refine wp_block ?_;have SR:=(S.sel [0] G G);refine meet_sr (X:=Bool) [2,39] H rfl (fun q=>[(40,.bool q)]) (fun q=>[]) (fun q=>q=decide (p3=1∨p3=2∨p3=5)) SR (fun K8 k8=>?_) ?_
 ·skip
  refine sS H fun K9 k9=>sr 2 G<|sE ?_;clear H a;intro a H
  refine k9 _ ?_;refine condE H rfl (fun hc2=>?_) (fun hc2=>?_)
  ·skip
   refine wp_skip ?_;exact k8 _ a _ (decide_eq_decide.2 (by omega)) (S.sel [0] G G) (H.keep [40,2,39] rfl)
  refine sS H fun K10 k10=>sr 2 G<|sE ?_;clear H a;intro a H
  refine k10 _ ?_;refine condE H rfl (fun hc3=>?_) (fun hc3=>?_)
  ·skip
   refine wp_skip ?_;exact k8 _ a _ (decide_eq_decide.2 (by omega)) (S.sel [0] G G) (H.keep [40,2,39] rfl)
  refine sO H<|sr 2 G<|sE ?_;clear H a;intro a H
  exact k8 _ a _ (decide_eq_decide.2 (by omega)) (S.sel [0] G G) (H.keep [40,2,39] rfl)
 clear SR H S a;intro xm a wm hp S H;obtain ⟨q,rfl⟩:∃ y,y=xm:=⟨_,rfl⟩;subst hp;refine cond_ H rfl (fun hc4=>?_) (fun hc4=>?_)
 ·skip
  simp only [o7,o8] at hc4
  replace H:=H.keep [2] rfl;refine sS H fun K12 k12=>sf dQ rfl<|sl S 0 aD G G G<|sr 2 G<|sg 3 3 47 50 true G G (fun hg4=>sy hg4<|sf jT rfl<|sy hg4<|sl S 0 aD G G G<|sy hg4<|sr 1 G<|sz 3 G G G)<|sa G G G<|sr 1 G<|sE ?_;intro a H
  refine k12 _ ?_;refine wp_ret ?_;refine ret1 (fn:=Tryz.f139) rfl H rfl ?_;refine ⟨congrArg Value.bool ?_,(S.sel [] G G)⟩;unfold psgOk;rw [←Bool.decide_and];exact decide_eq_decide.2 (by first|omega|(dsimp only;omega))
 simp only [o7,o8] at hc4
 replace H:=H.keep [2,39] rfl;refine sS H fun K13 k13=>sr 2 G<|sE ?_;intro a H
 refine k13 _ ?_;refine condE H rfl (fun hc5=>?_) (fun hc5=>?_)
 ·skip
  replace H:=H.keep [2] rfl;refine sS H fun K14 k14=>sf dQ rfl<|sl S 0 aD G G G<|sc rfl Tryz.func104 G G (bY _ _ _ _)<|sr 1 G<|sg 3 3 57 60 true G G (fun hg4=>sy hg4<|sf jT rfl<|sy hg4<|sl S 0 aD G G G<|sy hg4<|sc rfl Tryz.func104 G G (bY _ _ _ _)<|sz 3 G G G)<|sa G G G<|sr 1 G<|sE ?_;intro a H
  refine k14 _ ?_;refine wp_ret ?_;refine ret1 (fn:=Tryz.f139) rfl H rfl ?_;refine ⟨congrArg Value.bool ?_,(S.sel [] G G)⟩;unfold psgOk;simp only [←Bool.decide_and];exact decide_eq_decide.2 (by first|omega|(dsimp only;omega))
 replace H:=H.keep [2,39] rfl;refine sS H fun K15 k15=>sr 2 G<|sE ?_;intro a H
 refine k15 _ ?_;refine condE H rfl (fun hc6=>?_) (fun hc6=>?_)
 ·skip
  replace H:=H.keep [2] rfl;refine sS H fun K16 k16=>sf dQ rfl<|sl S 0 aD G G G<|sc rfl Tryz.func104 G G (bY _ _ _ _)<|sr 1 G<|sg 3 3 67 70 true G G (fun hg4=>sy hg4<|sf jT rfl<|sy hg4<|sl S 0 aD G G G<|sy hg4<|sr 1 G<|sz 3 G G G)<|sa G G G<|sr 1 G<|sE ?_;intro a H
  refine k16 _ ?_;refine wp_ret ?_;refine ret1 (fn:=Tryz.f139) rfl H rfl ?_;refine ⟨congrArg Value.bool ?_,(S.sel [] G G)⟩;unfold psgOk;simp only [←Bool.decide_and];exact decide_eq_decide.2 (by first|omega|(dsimp only;omega))
 refine wp_skip ?_;refine k5 _ _ ?_;replace H:=H.keep [] rfl;refine sS H fun K17 k17=>sr 1 G<|sE ?_;intro a H
 refine k17 _ ?_;refine wp_ret ?_;refine ret1 (fn:=Tryz.f139) rfl H rfl ?_;refine ⟨congrArg Value.bool ?_,(S.sel [] G G)⟩;exact (fU (by first|omega|(dsimp only;omega))).symm
theorem mK (pl:Int) (ps:List Psg) (PA:Option Addr) (pc:Nat) (xs:List Int) (XA:Option Addr) (xc:Nat) (w:World) (hps:InS w noF 7 PA ps.length (pcell ps)) (hpn:ps.length≤9223372036854775807) (hxs:InS w noF 1 XA xs.length (icl xs)) (hxn:xs.length≤9223372036854775807) :
    Calls Tryz.prog 102 [.agg [.int .i64 pl,.slice PA ps.length pc,.slice XA xs.length xc].toArray].toArray w (Ret (fun v w'=>v = .int .i64 (stE pl ps xs)∧St w noF [] w')):=by
 refine enter Tryz.func102 rfl Tryz.ntmps102 rfl (fun a H=>?_)
 have S:=St.start w
 refine seq_list fun K1 k1=>?_
 refine aO H rfl S G G ?_;intro b1 _ a hb1 hbw1 S H
 refine ls 1 H<|sr 1 G<|sE ?_;clear H a;intro a H
 refine k1 _ _ ?_;refine wp_seq_k fun K2 k2=>?_
 replace H:=H.keep [1] rfl;refine sS H fun K3 k3=>sf dY rfl<|sl S 0 aD G G G<|sc rfl Tryz.func104 G G (bY _ _ _ _)<|sr 2 G<|sg 4 4 13 17 false G G (fun hg5=>sy hg5<|sf fS rfl<|sy hg5<|sl S 0 iU G G G<|sy hg5<|sL iR rfl<|sy hg5<|sr 1 G<|sz 4 G G G)<|so G G G<|sE ?_;clear H a;intro a H
 refine k3 _ ?_;refine cond_ H rfl (fun hc1=>?_) (fun hc1=>?_)
 ·skip
  try simp only [oz] at hc1
  replace H:=H.keep [] rfl;refine sS H fun K4 k4=>sr 1 G<|sE ?_;clear H a;intro a H
  refine k4 _ ?_;refine wp_ret ?_;refine ret1 (fn:=Tryz.f102) rfl H rfl ?_;exact ⟨congrArg _ (Ht (by omega)).symm,(S.sel [] G G)⟩
 try simp only [oz] at hc1
 refine wp_skip ?_;refine k2 _ _ ?_;refine seq_list fun K5 k5=>?_
 refine zB (fun n:Int => .int .i64 n) H rfl S ?_;intro b19 _ a hb19 S H
 refine ls 1 H<|sr 1 G<|sE ?_;clear H a;intro a H
 refine k5 _ _ ?_;refine wp_seq_k fun K6 k6=>?_
 refine sS H fun K7 k7=>sf fS rfl<|sl S 1 iU G G G<|sL iR rfl<|sr 1 G<|sE ?_;clear H a;intro a H
 refine k7 _ ?_;refine wp_block ?_;refine loop_st (X:=Nat×List (Int×Value)) (R0:=_) [1,3,21,22] H rfl (fun ⟨k,l⟩=>[(23,.int .i64 (k:Int))]) (fun ⟨k,l⟩=>[mapM (fun n:Int => .int .i64 n) b19 l]) (fun g ⟨k,l⟩=>k≤ps.length∧g+k=ps.length∧allN (pasOk pl ps) k=true∧CntMap ps k l) (ps.length) (0,[]) ?_ (S.sel [0,1] G G) (H.keep [23,1,3,21,22] rfl) ?_
 · exact ⟨by omega,by omega,rfl,CntMap.nil ps⟩
 clear H S a;intro g1 x1 a w1 hp S H K8 k8;obtain ⟨k,l⟩:=x1;dsimp only at hp S H;obtain ⟨hkl,hgk,hA,hM⟩:=hp;refine sS H fun K9 k9=>sr 1 G<|sE ?_;clear H a;intro a H
 refine k9 _ ?_;refine wp_seq_k fun K10 k10=>?_
 refine condL H rfl (fun hc2=>?_) (fun hc2=>?_)
 ·skip
  refine wp_skip ?_;refine k10 _ _ ?_;refine wp_seq_k fun K11 k11=>?_
  refine wp_block ?_;refine seq_list fun K12 k12=>?_
  refine ls 2 H<|si iR dR G G (hps.adr (by omega)) (by omega)<|sd ((aU jJ dR rfl S hps (by omega) (by omega)))<|sE ?_;clear H a;intro a H
  refine aJ H rfl S oX ?_;intro b5 _ a hb5 hbw5 S H
  refine aE H S (i:=0) G G G G dR G G ?_
  clear H a S;intro _ a S H;refine k12 _ _ ?_;refine wp_seq_k fun K13 k13=>?_
  replace H:=H.keep [1,3,5,21,22,23] rfl;refine seq_list fun K14 k14=>?_
  refine ls 3 H<|sd ((aB jJ dR rfl S (i:=0) G G))<|sf dY rfl<|sl S 2 aD G G G<|sE ?_;clear H a;intro a H
  refine aA H G G Tryz.func139 G G (Ag _ _ _ _ _ _ _ pl _ (by omega)) ?_;clear H a
  rintro _ _ a ⟨rfl,S2⟩ H;replace S:=S.call S2;clear S2;refine ls 1 H<|sr 1 G<|sE ?_;clear H a;intro a H
  refine k14 _ _ ?_;refine cond_ H rfl (fun hc3=>?_) (fun hc3=>?_)
  ·skip
   try simp only [oz] at hc3
   refine sS H fun K15 k15=>sr 1 G<|sE ?_;clear H a;intro a H
   refine k15 _ ?_;refine wp_ret ?_;refine ret1 (fn:=Tryz.f102) rfl H rfl ?_;exact ⟨congrArg _ (mJ (k:=k) (by omega) (by unfold pasOk;rw [hc3];rfl)).symm,(S.sel [] G G)⟩
  try simp only [oz] at hc3
  refine wp_skip ?_;refine k13 _ _ ?_;have hcn:=Uy (ps:=ps) (m:=cH ps k) k;have hc0:=Hs (ps:=ps) (m:=cH ps k) (k:=k);have hcs:cntM ps (cH ps k) (k+1)=cntM ps (cH ps k) k+1:=by unfold cntM;rw [sm,if_pos rfl]
  replace H:=H.keep [1,3,5,21,22,23] rfl;refine seq_list fun K16 k16=>?_
  refine ls 5 H<|sr 1 G<|sf dQ rfl<|sl S 0 aD G G G<|sd ((sV (k:=cH ps k) S (i:=1) rfl Ft (fQ Tryz.underlying3) aDl G G).to (hM _))<|sd (aI G G (by unfold i64ok;omega))<|sE ?_;clear H a;intro a H
  refine uO (k:=cH ps k) H S (i:=1) rfl Ft (fQ Tryz.underlying3) G G G ?_;intro _ a S H
  refine k16 _ _ ?_;replace H:=H.keep [1,3,5,21,22,23] rfl;refine seq_list fun K17 k17=>?_
  refine ls 4 H<|sf dQ rfl<|sl S 0 aD G G G<|sr 2 G<|sE ?_;clear H a;intro a H
  apply bR (i:=3) (g:=40) (t:=45) (b:=true) 5 H S G G (by kernel_rfl) (by kernel_rfl) G G
  case h1=>
   intro hg4;refine ls 5 H<|sy hg4<|sr 1 G<|sy hg4<|sf dQ rfl<|sy hg4<|sl S 0 aD G G G<|sy hg4<|sd ((sV (k:=cH ps k) S (i:=1) rfl Ft (fQ Tryz.underlying3) aDl G G).to (hM.step _))<|sy hg4<|sr 1 G<|sE ?_;intro a H
   exact wpList_nil ⟨H.strip 5 G G,(S.sel [0,1,2] G G)⟩
  clear H a S;intro a _ H S;refine ls 1 H<|sa G G G<|sE ?_;clear H a;intro a H
  refine k17 _ _ ?_;refine cond_ H rfl (fun hc4=>?_) (fun hc4=>?_)
  ·skip
   try simp only [oz] at hc4
   replace H:=H.keep [] rfl;refine sS H fun K18 k18=>sr 1 G<|sE ?_;clear H a;intro a H
   refine k18 _ ?_;refine wp_ret ?_;refine ret1 (fn:=Tryz.f102) rfl H rfl ?_;exact ⟨congrArg _ (mJ (k:=k) (by omega) (by unfold pasOk;rw [decide_eq_false (by unfold cH at *;omega),Bool.and_false])).symm,(S.sel [] G G)⟩
  try simp only [oz] at hc4
  refine wp_skip ?_;refine k11 _ _ ?_;refine sO H<|sd (aI G G (by unfold i64ok;omega))<|sr 1 G<|sE ?_;clear H a;intro a H
  exact k8 (g1-1) (k+1,_) a _ (by omega) (⟨by omega,by omega,cM hA (by unfold pasOk;rw [Bool.and_eq_true];refine ⟨hc3,decide_eq_true ?_⟩;unfold cH at *;omega),hM.step⟩) (S.sel [1,2] G G) (H.keep [23,1,3,21,22] rfl)
 refine wp_exit ?_;refine k6 _ _ ?_;refine sS H fun K20 k20=>sr 1 G<|sE ?_;clear H a;intro a H
 refine k20 _ ?_;refine wp_seq_k fun K21 k21=>?_
 refine sS H fun K22 k22=>sf jK rfl<|sl S 1 bE G G G<|sL aP rfl<|sr 1 G<|sE ?_;clear H a;intro a H
 refine k22 _ ?_;refine wp_block ?_;refine loop_st (X:=Nat) (R0:=_) [1,49,50] H rfl (fun k2=>[(6,.int .i64 (if k2=0 then -1 else xs.getD (k2-1) 0)),(51,.int .i64 (k2:Int))]) (fun k2=>[]) (fun g k2=>k2≤xs.length∧g+k2=xs.length∧allN (exOk pl xs) k2=true) (xs.length) 0 ?_ (S.sel [0,1] G G) (H.keep [6,51,1,49,50] rfl) ?_
 · exact ⟨by omega,by omega,rfl⟩
 clear H S a;intro g2 x2 a w2 hp S H K23 k23;obtain ⟨k2,rfl⟩:∃ y,y=x2:=⟨_,rfl⟩
 have hxb:k2≠0→0≤xs.getD (k2-1) 0∧xs.getD (k2-1) 0<pl:=fun h0=>by
   have:=bI.1 hp.2.2 (k2-1) (by omega)
   unfold exOk at this
   simp only [decide_eq_true_eq] at this
   omega
 refine sS H fun K24 k24=>sr 1 G<|sE ?_;clear H a;intro a H
 refine k24 _ ?_;refine wp_seq_k fun K25 k25=>?_
 refine condL H rfl (fun hc5=>?_) (fun hc5=>?_)
 ·skip
  refine wp_skip ?_;refine k25 _ _ ?_;refine wp_seq_k fun K26 k26=>?_
  refine wp_block ?_;refine sS H fun K27 k27=>si aP aX G G (hxs.adr (by omega)) (by omega)<|slm aD rfl (hxs.rd S (by omega) (by omega))<|sr 1 G<|sE ?_;clear H a;intro a H
  refine k27 _ ?_;refine wp_seq_k fun K28 k28=>?_
  replace H:=H.keep [1,6,8,49,50,51] rfl;refine sS H fun K29 k29=>sr 2 G<|sd (aI G G (by unfold i64ok;omega))<|sf dY rfl<|sl S 1 aD G G G<|sd (aR G G (by unfold i64ok;omega))<|sc rfl Tryz.func104 G G (bY _ _ _ _)<|sr 1 G<|sE ?_;clear H a;intro a H
  refine k29 _ ?_;refine cond_ H rfl (fun hc6=>?_) (fun hc6=>?_)
  ·skip
   try simp only [oz] at hc6
   refine sS H fun K30 k30=>sr 1 G<|sE ?_;clear H a;intro a H
   refine k30 _ ?_;refine wp_ret ?_;refine ret1 (fn:=Tryz.f102) rfl H rfl ?_;exact ⟨congrArg _ (Zi (k:=k2) (by omega) (by unfold exOk;rw [decide_eq_false_iff_not];rcases Nat.eq_zero_or_pos k2 with h0|h0 <;> first|(rw [if_pos h0] at hc6;omega)|(rw [if_neg (Nat.ne_of_gt h0)] at hc6;omega))).symm,(S.sel [] rfl rfl)⟩
  try simp only [oz] at hc6
  refine wp_skip ?_;refine k28 _ _ ?_;replace H:=H.keep [1,8,49,50,51] rfl;refine sO H<|sr 2 G<|sE ?_;clear H a;intro a H
  refine k26 _ _ ?_;refine sO H<|sd (aI G G (by unfold i64ok;omega))<|sr 1 G<|sE ?_;clear H a;intro a H
  exact k23 (g2-1) (k2+1) a _ (by omega) (⟨by omega,by omega,cM hp.2.2 (by unfold exOk;rw [decide_eq_true_eq];rcases Nat.eq_zero_or_pos k2 with h0|h0 <;> first|(rw [if_pos h0] at hc6;omega)|(rw [if_neg (Nat.ne_of_gt h0)] at hc6;omega))⟩) (S.sel [0,1] rfl rfl) (H.keep [6,51,1,49,50] rfl)
 refine wp_exit ?_;refine k21 _ _ ?_;refine sS H fun K33 k33=>sr 1 G<|sE ?_;intro a H
 refine k33 _ ?_;refine wp_ret ?_;refine ret1 (fn:=Tryz.f102) rfl H rfl ?_;have hk9:k=ps.length:=by omega
 have hk8:k2=xs.length:=by omega
 exact ⟨congrArg _ (Zj (by omega) (hk9 ▸ hA) (hk8 ▸ hp.2.2)).symm,(S.sel [] G G)⟩
theorem vV (pl:Int) (ps:List Psg) (PA:Option Addr) (pc:Nat) (xs:List Int) (XA:Option Addr) (xc:Nat) (pe:List Int) (BA:Option Addr) (bc:Nat) (w:World) (hpe:InS w noF 1 BA pe.length (icl pe)) (hpen:pe.length≤9223372036854775807) :
    Calls Tryz.prog 140 [.agg [.int .i64 pl,.slice PA ps.length pc,.slice XA xs.length xc].toArray,.slice BA pe.length bc].toArray w (Ret (fun v w'=>v = .bool (eN pl pe)∧St w noF [] w')):=by
 refine enter Tryz.func140 rfl Tryz.ntmps140 rfl (fun a H=>?_)
 have S:=St.start w
 refine seq_list fun K1 k1=>?_
 refine aO H rfl S G G ?_;intro b2 _ a hb2 hbw2 S H
 refine ls 1 H<|sr 1 G<|sE ?_;intro a H
 refine k1 _ _ ?_;refine wp_seq_k fun K2 k2=>?_
 refine sS H fun K3 k3=>sr 1 G<|sL aP rfl<|sr 1 G<|sE ?_;intro a H
 refine k3 _ ?_;refine wp_block ?_;refine loop_st (X:=Nat) (R0:=_) [1,2,7,8] H rfl (fun k=>[(9,.int .i64 (k:Int))]) (fun k=>[]) (fun g k=>k≤pe.length∧g+k=pe.length∧allN (fun k=>decide (0≤pe.getD k 0∧pe.getD k 0≤1000)) k=true) (pe.length) 0 ?_ (S.sel [0] G G) (H.keep [9,1,2,7,8] rfl) ?_
 · exact ⟨by omega,by omega,rfl⟩
 clear H S a;intro g1 x1 a w1 hp S H K4 k4;obtain ⟨k,rfl⟩:∃ y,y=x1:=⟨_,rfl⟩;refine sS H fun K5 k5=>sr 1 G<|sE ?_;intro a H
 refine k5 _ ?_;refine wp_seq_k fun K6 k6=>?_
 refine condL H rfl (fun hc1=>?_) (fun hc1=>?_)
 ·skip
  refine wp_skip ?_;refine k6 _ _ ?_;refine wp_seq_k fun K7 k7=>?_
  refine wp_block ?_;refine sS H fun K8 k8=>si aP aX G G (hpe.adr (by omega)) (by omega)<|slm aD rfl (hpe.rd S (by omega) (by omega))<|sr 1 G<|sE ?_;intro a H
  refine k8 _ ?_;refine sS H fun K9 k9=>sr 1 G<|sc rfl Tryz.func104 G G (bY _ _ _ _)<|sr 1 G<|sE ?_;intro a H
  refine k9 _ ?_;refine cond_ H rfl (fun hc2=>?_) (fun hc2=>?_)
  ·skip
   try simp only [oz] at hc2
   refine sS H fun K10 k10=>sr 1 G<|sE ?_;intro a H
   refine k10 _ ?_;refine wp_ret ?_;refine ret1 (fn:=Tryz.f140) rfl H rfl ?_;refine ⟨congrArg Value.bool ?_,(S.sel [] G G)⟩;unfold eN;rw [gL (k:=k) (by omega) (by rw [decide_eq_false_iff_not];omega)];rfl
  try simp only [oz] at hc2
  refine wp_skip ?_;refine k7 _ _ ?_;replace H:=H.keep [1,2,7,8,9] rfl;refine sO H<|sd (aI G G (by unfold i64ok;omega))<|sr 1 G<|sE ?_;intro a H
  exact k4 (g1-1) (k+1) a _ (by omega) (⟨by omega,by omega,cM hp.2.2 (by rw [decide_eq_true_eq];omega)⟩) (S.sel [0] G G) (H.keep [9,1,2,7,8] rfl)
 refine wp_exit ?_;refine k2 _ _ ?_;refine sS H fun K12 k12=>sr 1 G<|sL aP rfl<|sf dY rfl<|sl S 0 aD G G G<|sr 2 G<|sE ?_;intro a H
 refine k12 _ ?_;refine wp_ret ?_;refine ret1 (fn:=Tryz.f140) rfl H rfl ?_;refine ⟨congrArg Value.bool ?_,(S.sel [] G G)⟩;unfold eN;rw [show pe.length=k by omega,hp.2.2,Bool.true_and]
theorem Ah (pl:Int) (ps:List Psg) (PA:Option Addr) (pc:Nat) (xs:List Int) (XA:Option Addr) (xc:Nat) (out:Int) (pe:List Int) (BA:Option Addr) (bc:Nat) (T:Int) (w:World) (hps:InS w noF 7 PA ps.length (pcell ps)) (hpn:ps.length≤9223372036854775807) (hxs:InS w noF 1 XA xs.length (icl xs)) (hxn:xs.length≤9223372036854775807) (hpe:InS w noF 1 BA pe.length (icl pe)) (hpen:pe.length≤9223372036854775807) :
    Calls Tryz.prog 177 [.agg [.int .i64 pl,.slice PA ps.length pc,.slice XA xs.length xc].toArray,.int .i64 out,.slice BA pe.length bc,.int .i64 T].toArray w (Ret (fun v w'=>v = .int .i64 (dO pl ps xs out pe T)∧St w noF [] w')):=by
 refine enter Tryz.func177 rfl Tryz.ntmps177 rfl (fun a H=>?_)
 have S:=St.start w
 refine seq_list fun K1 k1=>?_
 refine aO H rfl S G G ?_;intro b4 _ a hb4 hbw4 S H
 refine ls 1 H<|sr 1 G<|sE ?_;intro a H
 refine k1 _ _ ?_;refine wp_seq_k fun K2 k2=>?_
 refine seq_list fun K3 k3=>?_
 refine ls 1 H<|sd ((aB bW cQ rfl S (i:=0) G G))<|sE ?_;intro a H
 refine aA H G G Tryz.func102 G G (mK pl ps PA pc xs XA xc _ (hps.now S) hpn (hxs.now S) hxn) ?_;clear H a
 rintro _ _ a ⟨rfl,S2⟩ H;replace S:=S.call S2;clear S2;refine ls 1 H<|sr 1 G<|sE ?_;intro a H
 refine k3 _ _ ?_;refine sS H fun K4 k4=>sr 2 G<|sE ?_;intro a H
 refine k4 _ ?_;refine condN H rfl (fun hc1=>?_) (fun hc1=>?_)
 ·skip
  refine sS H fun K5 k5=>sr 2 G<|sE ?_;intro a H
  refine k5 _ ?_;refine wp_ret ?_;refine ret1 (fn:=Tryz.f177) rfl H rfl ?_;refine ⟨?_,(S.sel [] G G)⟩;unfold dO;rw [if_pos hc1]
 refine wp_skip ?_;refine k2 _ _ ?_;refine wp_seq_k fun K6 k6=>?_
 replace H:=H.keep [1,2,3,4] rfl;refine seq_list fun K7 k7=>?_
 refine ls 1 H<|sr 1 G<|sE ?_;intro a H
 refine aA H G G Tryz.func104 G G (bY _ _ _ _) ?_;clear H a
 rintro _ _ a ⟨rfl,rfl⟩ H;refine ls 2 H<|sr 2 G<|sE ?_;intro a H
 apply bR (i:=3) (g:=18) (t:=22) (b:=false) 4 H S G G (by kernel_rfl) (by kernel_rfl) G G
 case h1=>
  intro hg4;refine ls 2 H<|sy hg4<|sd ((aB bW cQ rfl S (i:=0) G G))<|sy hg4<|sr 1 G<|sE ?_;intro a H
  refine cF H G G (by assumption) ?_
  refine aA H G G Tryz.func140 G G (vV pl ps PA pc xs XA xc pe BA bc _ (hpe.now S) hpen) ?_
  rintro _ _ a ⟨rfl,S2⟩ H;replace S:=S.call S2;clear S2;refine ls 1 H<|sy hg4<|sr 1 G<|sE ?_;intro a H
  exact wpList_nil ⟨H.strip 4 G G,(S.sel [0] G G)⟩
 clear H a S;intro a _ H S;refine ls 6 H<|so G G G<|sr 1 G<|sg 3 9 24 27 false G G (fun hg10=>sy hg10<|sr 1 G<|sy hg10<|sc rfl Tryz.func104 G G (bY _ _ _ _)<|sy hg10<|sr 1 G<|sz 3 G G G)<|so G G G<|sE ?_;intro a H
 refine k7 _ _ ?_;refine cond_ H rfl (fun hc2=>?_) (fun hc2=>?_)
 ·skip
  try simp only [oz] at hc2
  replace H:=H.keep [] rfl;refine sS H fun K8 k8=>sr 1 G<|sE ?_;intro a H
  refine k8 _ ?_;refine wp_ret ?_;refine ret1 (fn:=Tryz.f177) rfl H rfl ?_;refine ⟨?_,(S.sel [] rfl rfl)⟩;unfold dO;rw [if_neg (by omega),if_neg (by simp only [Bool.and_eq_true,decide_eq_true_eq];rcases hc2 with (h|h)|h <;> first|(intro h9;omega)|(rw [h];simp))]
 try simp only [oz] at hc2
 refine wp_skip ?_;refine k6 _ _ ?_;refine sS H fun K9 k9=>sr 1 G<|sE ?_;intro a H
 refine k9 _ ?_;refine wp_ret ?_;refine ret1 (fn:=Tryz.f177) rfl H rfl ?_;refine ⟨?_,(S.sel [] G G)⟩;unfold dO;rw [if_neg (by omega),if_pos (by simp only [Bool.and_eq_true,decide_eq_true_eq];exact ⟨⟨by omega,hc2.1.2⟩,by omega⟩)]
end
section
theorem StV.mch {P:Nat} {ps:List Psg} {xs:List Int} (h:StV P ps xs) (k:Nat) (hk:k<ps.length):(ps.getD k aFf).kind=4→0≤(ps.getD k aFf).mach∧(ps.getD k aFf).mach≤11:=fun h4=>by
 have:=dL.1 (h.pas k hk)
 omega
theorem Qz {k:Nat}:∀ q j,j<1→cput (lcl fun i=>if i<k then -1 else 0) k 0 (.int .i64 (-1)) q j=lcl (fun i=>if i<k+1 then -1 else 0) q j:=by
  intro q j hj;have:j=0:=by omega
  subst this;unfold cput lcl;dsimp only;by_cases e:q=k
  · subst e;rw [if_pos ⟨rfl,rfl⟩,if_pos (by omega)]
  · rw [if_neg (fun h=>e h.1)]
    by_cases h:q<k
    · rw [if_pos h,if_pos (by omega)]
    · rw [if_neg h,if_neg (by omega)]
theorem Ra {P k to:Nat} (hk:k=P):∀ q j,q<P→j<1→cput (lcl fun i=>if i<k then -1 else 0) to 0 (.int .i64 0) q j=lcl (tk0 to) q j:=by
 intro q j hq hj;have:j=0:=by omega
 subst this;unfold cput lcl tk0;dsimp only;by_cases e:q=to
 ·subst e;rw [if_pos ⟨rfl,rfl⟩,if_pos rfl]
 ·rw [if_neg (fun h=>e h.1),if_pos (by omega),if_neg e]
theorem Vv {L:Nat→Int} {p:Nat} {v:Int}:∀ k j,j<1→cput (lcl L) p 0 (.int .i64 v) k j=lcl (upd L p v) k j:=by
 intro k j hj;have:j=0:=by omega
 subst this;unfold cput lcl upd;by_cases e:k=p <;> simp [e]
theorem aEf {m:Bool} (h:m=true):b2i m=1:=by subst h;rfl
theorem aBg {P f:Nat} {ps:List Psg} {out:Int} {help:Bool} {tk:Nat→Int} {m:Bool} (e:P=f) (h:m=false→∀ i,i<f→∀ k,k<ps.length→FixAt ps out help tk i k):m=false→∀ i,i<P→∀ k,k<ps.length→FixAt ps out help tk i k:=by subst e;exact h
theorem aBh:∀ k j,j<1→[Value.int .i64 0].getD j undef=lcl (fun i=>if i<0 then -1 else 0) k j:=by
 intro k j hj;have:j=0:=by omega
 subst this;rfl
theorem vW (pl:Int) (ps:List Psg) (PA:Option Addr) (pc:Nat) (xs:List Int) (XA:Option Addr) (xc:Nat) (l:List Int) (LA:Option Addr) (lc:Nat) (w:World) (hl:InS w noF 1 LA l.length (icl l)) (hln:l.length≤9223372036854775807) (hpl : -1000≤pl∧pl≤1000) :
    Calls Tryz.prog 106 [.agg [.int .i64 pl,.slice PA ps.length pc,.slice XA xs.length xc].toArray,.slice LA l.length lc].toArray w (Ret (fun v w'=>v = .bool (plOk pl l)∧St w noF [] w')):=by
 refine enter Tryz.func106 rfl Tryz.ntmps106 rfl (fun a H=>?_)
 have S:=St.start w
 refine seq_list fun K1 k1=>?_
 refine aO H rfl S G G ?_;intro b2 _ a hb2 hbw2 S H
 refine ls 1 H<|sr 1 G<|sE ?_;intro a H
 refine k1 _ _ ?_;refine wp_seq_k fun K2 k2=>?_
 refine sS H fun K3 k3=>sr 1 G<|sL aP rfl<|sr 1 G<|sE ?_;intro a H
 refine k3 _ ?_;refine wp_block ?_;refine loop_st (X:=Nat) (R0:=_) [2,7,8] H rfl (fun k=>[(9,.int .i64 (k:Int))]) (fun k=>[]) (fun g k=>k≤l.length∧g+k=l.length∧allN (fun k=>decide (0≤l.getD k 0∧l.getD k 0≤pl-1)) k=true) (l.length) 0 ?_ (S.sel [0] G G) (H.keep [9,2,7,8] rfl) ?_
 · exact ⟨by omega,by omega,rfl⟩
 clear H S a;intro g1 x1 a w1 hp S H K4 k4;obtain ⟨k,rfl⟩:∃ y,y=x1:=⟨_,rfl⟩;refine sS H fun K5 k5=>sr 1 G<|sE ?_;intro a H
 refine k5 _ ?_;refine wp_seq_k fun K6 k6=>?_
 refine condL H rfl (fun hc1=>?_) (fun hc1=>?_)
 ·skip
  refine wp_skip ?_;refine k6 _ _ ?_;refine wp_seq_k fun K7 k7=>?_
  refine wp_block ?_;refine sS H fun K8 k8=>si aP aX G G (hl.adr (by omega)) (by omega)<|slm aD rfl (hl.rd S (by omega) (by omega))<|sr 1 G<|sE ?_;intro a H
  refine k8 _ ?_;replace H:=H.keep [2,6,7,8,9] rfl;refine sS H fun K9 k9=>sr 1 G<|sf dY rfl<|sl S 0 aD G G G<|sd (aR G G (by unfold i64ok;omega))<|sc rfl Tryz.func104 G G (bY _ _ _ _)<|sr 1 G<|sE ?_;intro a H
  refine k9 _ ?_;refine cond_ H rfl (fun hc2=>?_) (fun hc2=>?_)
  ·skip
   try simp only [oz] at hc2
   refine sS H fun K10 k10=>sr 1 G<|sE ?_;intro a H
   refine k10 _ ?_;refine wp_ret ?_;refine ret1 (fn:=Tryz.f106) rfl H rfl ?_;exact ⟨congrArg Value.bool (Gc (k:=k) (by omega) (by omega)).symm,(S.sel [] G G)⟩
  try simp only [oz] at hc2
  refine wp_skip ?_;refine k7 _ _ ?_;refine sO H<|sd (aI G G (by unfold i64ok;omega))<|sr 1 G<|sE ?_;intro a H
  exact k4 (g1-1) (k+1) a _ (by omega) (⟨by omega,by omega,cM hp.2.2 (by rw [decide_eq_true_eq];omega)⟩) (S.sel [0] G G) (H.keep [9,2,7,8] rfl)
 refine wp_exit ?_;refine k2 _ _ ?_;replace H:=H.keep [] rfl;refine sS H fun K12 k12=>sr 1 G<|sE ?_;intro a H
 refine k12 _ ?_;refine wp_ret ?_;refine ret1 (fn:=Tryz.f106) rfl H rfl ?_;refine ⟨congrArg Value.bool ?_,(S.sel [] G G)⟩;unfold plOk;rw [show l.length=k by omega,hp.2.2]
theorem tB (P:Nat) (ps:List Psg) (PA:Option Addr) (pc:Nat) (xs:List Int) (XA:Option Addr) (xc:Nat) (out:Int) (help:Bool) (p:Psg) (f:Int) (w:World) (hm:p.kind=4→0≤p.mach∧p.mach≤11) (hou:0≤out) :
    Calls Tryz.prog 175 [.agg [.int .i64 (P:Int),.slice PA ps.length pc,.slice XA xs.length xc,.int .i64 out,.bool help].toArray,.agg [.int .i64 p.a,.int .i64 p.b,.int .i64 p.kind,.int .i64 p.ticks,.int .i64 p.wide,.int .i64 p.mach,.int .i64 p.still].toArray,.int .i64 f].toArray w (Ret (fun v w'=>v = .int .i64 (oth out help p f)∧St w noF [] w')):=by
 refine enter Tryz.func175 rfl Tryz.ntmps175 rfl (fun a H=>?_)
 have S:=St.start w
 refine seq_list fun K1 k1=>?_
 refine aO H rfl S G G ?_;intro b3 _ a hb3 hbw3 S H
 refine aO H rfl S G G ?_;intro b4 _ a hb4 hbw4 S H
 refine ls 1 H<|sr 1 G<|sE ?_;intro a H
 refine k1 _ _ ?_;replace H:=H.keep [2,3,4] rfl
 refine sS H fun K2 k2=>sf fA rfl<|sl S 0 aD G G G<|sr 2 G<|sg 12 3 11 23 false G G (fun hg4=>by
     have hq4:=hg4;try simp only [oz] at hq4
     exact sy hg4<|sf fA rfl<|sy hg4<|sl S 0 aD G G G<|sy hg4<|sr 1 G<|sy hg4<|sr 1 G<|sg 7 7 15 22 true G G (fun hg8=>by
          have hq8:=hg8;try simp only [oz] at hq8
          exact sy hg8<|sf Og rfl<|sy hg8<|sl S 1 aD G G G<|sy hg8<|sf dQ rfl<|sy hg8<|sl S 0 aD G G G<|sy hg8<|sd (gV G G (by omega) (by omega))<|sy hg8<|sd (fO G G)<|sy hg8<|sr 1 G<|sz 7 G G G)<|sy hg4<|sa G G G<|sz 6 G G G)<|so G G G<|sr 1 G<|sg 7 17 25 32 false G G (fun hg18=>by
     have hq18:=hg18;try simp only [oz] at hq18
     exact sy hg18<|sf fA rfl<|sy hg18<|sl S 0 aD G G G<|sy hg18<|sr 1 G<|sy hg18<|sr 1 G<|sg 2 21 29 31 true G G (fun hg22=>by
          have hq22:=hg22;try simp only [oz] at hq22
          exact sy hg22<|sf Oh rfl<|sy hg22<|sl S 1 iP G G G<|sz 2 G G G)<|sy hg18<|sa G G G<|sz 6 G G G)<|so G G G<|sr 1 G<|sE ?_;intro a H
 refine k2 _ ?_;refine wp_seq_k fun K3 k3=>?_
 refine wp_block ?_;replace H:=H.keep [2,4,7] rfl;refine sS H fun K4 k4=>sr 3 G<|sE ?_;intro a H
 refine k4 _ ?_;refine cond_ H rfl (fun hc1=>?_) (fun hc1=>?_)
 ·skip
  try simp only [oz] at hc1
  refine sS H fun K5 k5=>sr 1 G<|sE ?_;intro a H
  refine k5 _ ?_;refine wp_ret ?_;refine ret1 (fn:=Tryz.f175) rfl H rfl ?_;refine ⟨congrArg (Value.int .i64) ?_,(S.sel [] G G)⟩;unfold oth;rw [if_pos (aDm hc1)]
 try simp only [oz] at hc1
 refine sS H fun K6 k6=>sf gA rfl<|sl S 0 aD G G G<|sr 3 G<|sE ?_;intro a H
 refine k6 _ ?_;refine condE H rfl (fun hc2=>?_) (fun hc2=>?_)
 ·skip
  replace H:=H.keep [4] rfl;refine sS H fun K7 k7=>sf gB rfl<|sl S 0 aD G G G<|sr 1 G<|sE ?_;intro a H
  refine k7 _ ?_;refine wp_ret ?_;refine ret1 (fn:=Tryz.f175) rfl H rfl ?_;refine ⟨congrArg (Value.int .i64) ?_,(S.sel [] G G)⟩;unfold oth othr;rw [if_neg (by rw [Py hc1];simp),if_pos hc2]
 refine sS H fun K8 k8=>sf gB rfl<|sl S 0 aD G G G<|sr 3 G<|sE ?_;intro a H
 refine k8 _ ?_;refine condE H rfl (fun hc3=>?_) (fun hc3=>?_)
 ·skip
  replace H:=H.keep [4] rfl;refine sS H fun K9 k9=>sf gA rfl<|sl S 0 aD G G G<|sr 1 G<|sE ?_;intro a H
  refine k9 _ ?_;refine wp_ret ?_;refine ret1 (fn:=Tryz.f175) rfl H rfl ?_;refine ⟨congrArg (Value.int .i64) ?_,(S.sel [] G G)⟩;unfold oth othr;rw [if_neg (by rw [Py hc1];simp),if_neg hc2,if_pos hc3]
 refine wp_skip ?_;refine k3 _ _ ?_;refine sS H fun K10 k10=>sr 1 G<|sE ?_;intro a H
 refine k10 _ ?_;refine wp_ret ?_;refine ret1 (fn:=Tryz.f175) rfl H rfl ?_;refine ⟨congrArg (Value.int .i64) ?_,(S.sel [] G G)⟩;unfold oth othr;rw [if_neg (by rw [Py hc1];simp),if_neg hc2,if_neg hc3]
theorem yD (P:Nat) (ps:List Psg) (PA:Option Addr) (pc:Nat) (xs:List Int) (XA:Option Addr) (xc:Nat) (out:Int) (help:Bool) (to:Int) (w:World) (hps:InS w noF 7 PA ps.length (pcell ps)) (hpn:ps.length≤9223372036854775807) (hxs:InS w noF 1 XA xs.length (icl xs)) (hxn:xs.length≤9223372036854775807) (hV:StV P ps xs) (hou:0≤out) (hto:0≤to∧to<P) :
    Calls Tryz.prog 144 [.agg [.int .i64 (P:Int),.slice PA ps.length pc,.slice XA xs.length xc,.int .i64 out,.bool help].toArray,.int .i64 to].toArray w (Ret (fun v w'=>∃ A c,v = .slice A P c∧FarOk P ps out help to.toNat (dst P ps out help to.toNat)∧St w noF [ownM 3 1 A P c (lcl (dst P ps out help to.toNat))] w')):=by
 have hP10:=hV.size
 refine enter Tryz.func144 rfl Tryz.ntmps144 rfl (fun a H=>?_)
 have S:=St.start w
 refine seq_list fun K1 k1=>?_
 refine aO H rfl S G G ?_;intro b2 _ a hb2 hbw2 S H
 refine ls 1 H<|sr 1 G<|sE ?_;intro a H
 refine k1 _ _ ?_;refine seq_list fun K2 k2=>?_
 refine ls 3 H<|sf vB rfl<|sf dY rfl<|sl S 0 aD G G G<|sE ?_;intro a H
 refine fP (n:=_) H rfl S aP aX fD mQ rfl (by decide) G G (by omega) (by omega) ?_;intro A1 _ a hA1 S H
 replace S:=S.recell (i:=0) rfl (cell':=lcl (fun i=>if i<0 then -1 else 0)) (fun k j hk hj=>aBh k j hj);refine ls 1 H<|sr 1 G<|sE ?_;intro a H
 refine k2 _ _ ?_;refine wp_seq_k fun K3 k3=>?_
 replace H:=H.keep [1,2,5] rfl;refine sS H fun K4 k4=>sr 1 G<|sL aP rfl<|sr 1 G<|sE ?_;intro a H
 refine k4 _ ?_;refine wp_block ?_;refine loop_st (X:=Nat) (R0:=_) [1,2,5,18] H rfl (fun k=>[(19,.int .i64 (k:Int))]) (fun k=>[ownM 3 1 A1 P P (lcl (fun i=>if i<k then -1 else 0))]) (fun g k=>k≤P∧g+k=P) (P) 0 ?_ (S.sel [0,1] G G) (H.keep [19,1,2,5,18] rfl) ?_
 · exact ⟨by omega,by omega⟩
 clear H S a;intro g1 x1 a w1 hp S H K5 k5;obtain ⟨k,rfl⟩:∃ y,y=x1:=⟨_,rfl⟩;refine sS H fun K6 k6=>sr 1 G<|sE ?_;intro a H
 refine k6 _ ?_;refine wp_seq_k fun K7 k7=>?_
 refine condL H rfl (fun hc1=>?_) (fun hc1=>?_)
 ·skip
  refine wp_skip ?_;refine k7 _ _ ?_;refine wp_seq_k fun K8 k8=>?_
  refine wp_block ?_;refine sS H fun K9 k9=>sr 2 G<|sE ?_;intro a H
  refine k9 _ ?_;refine one_list ?_;refine ls 3 H<|sr 2 G<|si aP aX G G (aEj S (i:=0) rfl (by omega)) (by omega)<|sE ?_;intro a H
  refine bC H S (i:=0) G G G (by omega) (by omega) aX rfl ?_
  clear H a S;intro _ a S H;replace S:=S.recell (i:=0) rfl (cell':=lcl (fun i=>if i<k+1 then -1 else 0)) (fun q j hq hj=>Qz q j hj);refine k8 _ _ ?_;refine sO H<|sd (aI G G (by unfold i64ok;omega))<|sr 1 G<|sE ?_;intro a H
  exact k5 (g1-1) (k+1) a _ (by omega) (⟨by omega,by omega⟩) (S.sel [0,1] G G) (H.keep [19,1,2,5,18] rfl)
 refine wp_exit ?_;refine k3 _ _ ?_;replace H:=H.keep [1,2,5] rfl;refine seq_list fun K12 k12=>?_
 refine ls 3 H<|sr 2 G<|sI aP aX G G (aEj S (i:=0) rfl (by omega)) (by omega) (by omega)<|sE ?_;intro a H
 refine bC H S (i:=0) G G G (by omega) (by omega) aX rfl ?_
 clear H a S;intro _ a S H;replace S:=S.recell (i:=0) rfl (cell':=lcl (tk0 to.toNat)) (fun q j hq hj=>Ra (by omega) q j hq hj);refine k12 _ _ ?_;refine wp_seq_k fun K13 k13=>?_
 refine sS H fun K14 k14=>sr 1 G<|sE ?_;intro a H
 refine k14 _ ?_;refine wp_block ?_;refine loop_st (X:=(Nat→Int)×Bool) (R0:=_) [2,5] H rfl (fun ⟨tk,mo⟩=>[(7,.bool mo)]) (fun ⟨tk,mo⟩=>[ownM 3 1 A1 P P (lcl tk)]) (fun g ⟨tk,mo⟩=>FarI P ps out help to.toNat tk∧potF P tk+b2i mo≤(g:Int)∧(mo=false→∀ i,i<P→∀ k,k<ps.length→FixAt ps out help tk i k)) ((potF P (tk0 to.toNat)+1).toNat) (tk0 to.toNat,true) ?_ (S.sel [0,1] G G) (H.keep [7,2,5] rfl) ?_
 · exact ⟨FarI.init (by omega),by have:=Hw (P:=P) (tk:=tk0 to.toNat);show potF P (tk0 to.toNat)+1≤_;omega,fun h=>by cases h⟩
 clear H S a;intro g2 x2 a w2 hp S H K15 k15;obtain ⟨tk,mo⟩:=x2;dsimp only at hp S H;obtain ⟨hI,hpot,hfx⟩:=hp;have hpn0:=Hw (P:=P) (tk:=tk);refine wp_seq_k fun K16 k16=>?_
 refine sS H fun K17 k17=>sr 1 G<|sE ?_;intro a H
 refine k17 _ ?_;refine cond_ H rfl (fun hc2=>?_) (fun hc2=>?_)
 ·skip
  try simp only [oz] at hc2
  have hb9:=aEf hc2
  refine wp_skip ?_;refine k16 _ _ ?_;refine wp_block ?_;refine sS H fun K18 k18=>sr 1 G<|sE ?_;intro a H
  refine k18 _ ?_;refine sS H fun K19 k19=>sf vB rfl<|sf dY rfl<|sl S 1 aD G G G<|sr 1 G<|sE ?_;intro a H
  refine k19 _ ?_;refine wp_block ?_;refine loop_st (X:=Nat×(Nat→Int)×Bool) (R0:=_) [2,5,32] H rfl (fun ⟨f,tk1,m1⟩=>[(7,.bool m1),(33,.int .i64 (f:Int))]) (fun ⟨f,tk1,m1⟩=>[ownM 3 1 A1 P P (lcl tk1)]) (fun g ⟨f,tk1,m1⟩=>f≤P∧g+f=P∧FarI P ps out help to.toNat tk1∧potF P tk1+b2i m1≤potF P tk∧(m1=false→∀ i,i<f→∀ k,k<ps.length→FixAt ps out help tk1 i k)) (P) (0,tk,false) ?_ (S.sel [0,1] G G) (H.keep [7,33,2,5,32] rfl) ?_
  · exact ⟨by omega,by omega,hI,by show potF P tk+0≤_;omega,fun _ i hi=>absurd hi (Nat.not_lt_zero i)⟩
  clear H S a;intro g3 x3 a w3 hp S H K20 k20;obtain ⟨f,tk1,m1⟩:=x3;dsimp only at hp S H;obtain ⟨hfP,hgf,hI1,hpot1,hfx1⟩:=hp;refine sS H fun K21 k21=>sr 1 G<|sE ?_;intro a H
  refine k21 _ ?_;refine wp_seq_k fun K22 k22=>?_
  refine condL H rfl (fun hc3=>?_) (fun hc3=>?_)
  ·skip
   refine wp_skip ?_;refine k22 _ _ ?_;refine wp_seq_k fun K23 k23=>?_
   refine wp_block ?_;refine sS H fun K24 k24=>sr 2 G<|sE ?_;intro a H
   refine k24 _ ?_;refine sS H fun K25 k25=>sf vB rfl<|sf fS rfl<|sl S 1 iU G G G<|sL iR rfl<|sr 1 G<|sE ?_;intro a H
   refine k25 _ ?_;refine wp_block ?_;refine loop_st (X:=Nat×(Nat→Int)×Bool) (R0:=_) [2,5,8,32,33,38,39] H rfl (fun ⟨k,tk2,m2⟩=>[(7,.bool m2),(40,.int .i64 (k:Int))]) (fun ⟨k,tk2,m2⟩=>[ownM 3 1 A1 P P (lcl tk2)]) (fun g ⟨k,tk2,m2⟩=>k≤ps.length∧g+k=ps.length∧FarI P ps out help to.toNat tk2∧potF P tk2+b2i m2≤potF P tk∧(m2=false→(∀ i,i<f→∀ k,k<ps.length→FixAt ps out help tk2 i k)∧∀ q,q<k→FixAt ps out help tk2 f q)) (ps.length) (0,tk1,m1) ?_ (S.sel [0,1] G G) (H.keep [7,40,2,5,8,32,33,38,39] rfl) ?_
   · exact ⟨by omega,by omega,hI1,hpot1,fun h=>⟨hfx1 h,fun q hq=>absurd hq (Nat.not_lt_zero q)⟩⟩
   clear H S a;intro g4 x4 a w4 hp S H K26 k26;obtain ⟨k,tk2,m2⟩:=x4;dsimp only at hp S H;obtain ⟨hkl,hgk,hI2,hpot2,hfx2⟩:=hp;refine sS H fun K27 k27=>sr 1 G<|sE ?_;intro a H
   refine k27 _ ?_;refine wp_seq_k fun K28 k28=>?_
   refine condL H rfl (fun hc4=>?_) (fun hc4=>?_)
   ·skip
    refine wp_skip ?_;refine k28 _ _ ?_;refine wp_seq_k fun K29 k29=>?_
    refine wp_block ?_;refine seq_list fun K30 k30=>?_
    refine ls 2 H<|si iR dR G G (hps.adr (by omega)) (by omega)<|sd ((aU jJ dR rfl S hps (by omega) (by omega)))<|sE ?_;intro a H
    refine aJ H rfl S oX ?_;intro b10 _ a hb10 hbw10 S H
    refine aE H S (i:=0) G G G G dR G G ?_
    clear H a S;intro _ a S H;refine k30 _ _ ?_;replace H:=H.keep [2,5,7,8,10,32,33,38,39,40] rfl;refine seq_list fun K31 k31=>?_
    refine ls 3 H<|sd ((aB tN uR rfl S (i:=2) G G))<|sd ((aB jJ dR rfl S (i:=0) G G))<|sr 1 G<|sE ?_;intro a H
    refine aA H G G Tryz.func175 G G (tB P ps PA pc xs XA xc out help (ps.getD k aFf) (f:Int) _ (hV.mch k (by omega)) hou) ?_;clear H a
    rintro _ _ a ⟨rfl,S2⟩ H;replace S:=S.call S2;clear S2;have hoi:0≤oth out help (ps.getD k aFf) (f:Int)→oth out help (ps.getD k aFf) (f:Int)<P:=fun h=>(rW hV.psv (show k<ps.length by omega) h).2.1
    have htb:=(hV.psv k (by omega)).2.2
    refine ls 1 H<|sr 1 G<|sE ?_;intro a H
    refine k31 _ _ ?_;refine wp_seq_k fun K32 k32=>?_
    replace H:=H.keep [2,5,7,8,10,11,32,33,38,39,40] rfl
    refine sS H fun K33 k33=>sr 3 G<|sg 5 2 50 55 false G G (fun hg3=>by
        have hq3:=hg3;try simp only [oz] at hq3
        exact sy hg3<|sr 1 G<|sy hg3<|sr 1 G<|sy hg3<|sI aP aX G G (aEj S (i:=1) rfl (by omega)) (by omega) (by omega)<|sy hg3<|slm aD rfl (aEk S (i:=1) rfl (by omega) (by omega))<|sy hg3<|sr 1 G<|sz 5 G G G)<|so G G G<|sE ?_;intro a H
    refine k33 _ ?_;refine cond_ H rfl (fun hc5=>?_) (fun hc5=>?_)
    ·skip
     try simp only [oz] at hc5
     refine wp_exit ?_;refine k29 _ _ ?_;replace H:=H.keep [2,5,7,8,32,33,38,39,40] rfl;refine sO H<|sd (aI G G (by unfold i64ok;omega))<|sr 1 G<|sE ?_;intro a H
     exact k26 (g4-1) (k+1,_,_) a _ (by omega) (by first|exact ⟨by omega,by omega,hI2.up hV.psv (by omega) (by omega) (by omega) (by omega) (by omega) (by omega) (by omega) hpot2⟩|exact ⟨by omega,by omega,hI2,hpot2,zX (P:=P) hfx2 (vN (by omega))⟩) (S.sel [1,2] G G) (H.keep [7,40,2,5,8,32,33,38,39] rfl)
    try simp only [oz] at hc5
    refine wp_skip ?_;refine k32 _ _ ?_;have hsm:=hI2.small (by omega) (i:=(oth out help (ps.getD k aFf) f).toNat) (by omega);replace H:=H.keep [2,5,7,8,10,11,32,33,38,39,40] rfl;replace S:=S.drew;refine sD H fun K35 k35=>sr 2 G<|sI aP aX G G (aEj S (i:=1) rfl (by omega)) (by omega) (by omega)<|slm aD rfl (aEk S (i:=1) rfl (by omega) (by omega))<|sf nC rfl<|sl S 0 aD G G G<|sd (aI G G (by unfold i64ok;omega))<|sr 1 G<|sE ?_;intro a H
    refine k35 _ ?_;replace H:=H.keep [2,5,7,8,12,32,33,38,39,40] rfl
    refine sS H fun K36 k36=>sr 2 G<|si aP aX G G (aEj S (i:=1) rfl (by omega)) (by omega)<|slm aD rfl (aEk S (i:=1) rfl (by omega) (by omega))<|sr 2 G<|sg 6 5 69 75 false G G (fun hg6=>by
        have hq6:=hg6;try simp only [oz] at hq6
        exact sy hg6<|sr 1 G<|sy hg6<|sr 1 G<|sy hg6<|sr 1 G<|sy hg6<|si aP aX G G (aEj S (i:=1) rfl (by omega)) (by omega)<|sy hg6<|slm aD rfl (aEk S (i:=1) rfl (by omega) (by omega))<|sy hg6<|sr 1 G<|sz 6 G G G)<|so G G G<|sE ?_;intro a H
    refine k36 _ ?_;refine cond_ H rfl (fun hc6=>?_) (fun hc6=>?_)
    ·skip
     try simp only [oz] at hc6
     replace H:=H.keep [2,5,8,12,32,33,38,39,40] rfl;refine one_list ?_;refine ls 4 H<|sr 3 G<|si aP aX G G (aEj S (i:=1) rfl (by omega)) (by omega)<|sE ?_;intro a H
     refine bC H S (i:=1) G G G (by omega) (by omega) aX rfl ?_
     clear H a S;intro _ a S H;replace S:=S.recell (i:=1) rfl (cell':=lcl (upd tk2 f (tk2 (oth out help (ps.getD k aFf) f).toNat+(ps.getD k aFf).ticks))) (fun q j hq hj=>Vv q j hj);refine ls 1 H<|sr 1 G<|sE ?_;intro a H
     refine k29 _ _ ?_;refine sO H<|sd (aI G G (by unfold i64ok;omega))<|sr 1 G<|sE ?_;intro a H
     exact k26 (g4-1) (k+1,_,_) a _ (by omega) (by first|exact ⟨by omega,by omega,hI2.up hV.psv (by omega) (by omega) (by omega) (by omega) (by omega) (by omega) (by omega) hpot2⟩|exact ⟨by omega,by omega,hI2,hpot2,zX (P:=P) hfx2 (vN (by omega))⟩) (S.sel [1,2] G G) (H.keep [7,40,2,5,8,32,33,38,39] rfl)
    try simp only [oz] at hc6
    refine wp_skip ?_;refine k29 _ _ ?_;replace H:=H.keep [2,5,7,8,32,33,38,39,40] rfl;refine sO H<|sd (aI G G (by unfold i64ok;omega))<|sr 1 G<|sE ?_;intro a H
    exact k26 (g4-1) (k+1,_,_) a _ (by omega) (by first|exact ⟨by omega,by omega,hI2.up hV.psv (by omega) (by omega) (by omega) (by omega) (by omega) (by omega) (by omega) hpot2⟩|exact ⟨by omega,by omega,hI2,hpot2,zX (P:=P) hfx2 (vN (by omega))⟩) (S.sel [1,2] G G) (H.keep [7,40,2,5,8,32,33,38,39] rfl)
   refine wp_exit ?_;refine k23 _ _ ?_;refine sO H<|sd (aI G G (by unfold i64ok;omega))<|sr 1 G<|sE ?_;intro a H
   exact k20 (g3-1) (f+1,tk2,m2) a _ (by omega) (⟨by omega,by omega,hI2,hpot2,aAq (P:=P) (by omega) hfx2⟩) (S.sel [0,1] G G) (H.keep [7,33,2,5,32] rfl)
  refine wp_exit ?_;exact k15 (g2-1) (tk1,m1) a _ (by omega) (⟨hI1,by omega,aBg (by omega) hfx1⟩) (S.sel [0,1] G G) (H.keep [7,2,5] rfl)
 try simp only [oz] at hc2
 refine wp_exit ?_;refine k13 _ _ ?_;refine sS H fun K41 k41=>sr 2 G<|sE ?_;intro a H
 refine k41 _ ?_;refine wp_ret ?_;refine ret1 (fn:=Tryz.f144) rfl H rfl ?_;have hmf:mo=false:=by (cases mo <;> simp_all)
 have hok:=hI.done (by omega) (hfx hmf)
 have hdo:=aAr hV.psv (by omega) hok
 replace S:=S.recell (i:=0) rfl (cell':=lcl (dst P ps out help to.toNat)) (fun q j hq hj=>by unfold lcl;rw [pD hV.psv hok hq]);exact ⟨_,_,rfl,hdo,(S.sel [0] G G)⟩
theorem Ai (P:Nat) (ps:List Psg) (PA:Option Addr) (pc:Nat) (xs:List Int) (XA:Option Addr) (xc:Nat) (out:Int) (help:Bool) (fr to:Int) (w:World) (hps:InS w noF 7 PA ps.length (pcell ps)) (hpn:ps.length≤9223372036854775807) (hxs:InS w noF 1 XA xs.length (icl xs)) (hxn:xs.length≤9223372036854775807) (hV:StV P ps xs) (hou:0≤out) (hfr:0≤fr∧fr<P) (hto:0≤to∧to<P) :
    Calls Tryz.prog 107 [.agg [.int .i64 (P:Int),.slice PA ps.length pc,.slice XA xs.length xc,.int .i64 out,.bool help].toArray,.int .i64 fr,.int .i64 to].toArray w (Ret (fun v w'=>v = .bool (decide (0≤dst P ps out help to.toNat fr.toNat))∧FarOk P ps out help to.toNat (dst P ps out help to.toNat)∧St w noF [] w')):=by
 refine enter Tryz.func107 rfl Tryz.ntmps107 rfl (fun a H=>?_)
 have S:=St.start w
 refine seq_list fun K1 k1=>?_
 refine aO H rfl S G G ?_;intro b3 _ a hb3 hbw3 S H
 refine ls 1 H<|sr 1 G<|sE ?_;intro a H
 refine k1 _ _ ?_;replace H:=H.keep [1,2,3] rfl;refine seq_list fun K2 k2=>?_
 refine ls 2 H<|sd ((aB tN uR rfl S (i:=0) G G))<|sr 1 G<|sE ?_;intro a H
 refine aA H G G Tryz.func144 G G (yD P ps PA pc xs XA xc out help to _ (hps.now S) hpn (hxs.now S) hxn hV hou hto) ?_;clear H a
 rintro _ _ a ⟨A5,c5,rfl,hdo,S2⟩ H;replace S:=S.call S2;clear S2;refine ls 5 H<|sr 1 G<|sI aP aX rfl rfl (aEj S (i:=0) rfl (by omega)) (by omega) (by omega)<|slm aD rfl (aEk S (i:=0) rfl (by omega) (by omega))<|sr 2 G<|sE ?_;intro a H
 refine k2 _ _ ?_;refine wp_ret ?_;refine ret1 (fn:=Tryz.f107) rfl H rfl ?_;exact ⟨rfl,hdo,(S.sel [] G G)⟩
theorem Gh (pl:Int) (ps:List Psg) (PA:Option Addr) (pc:Nat) (xs:List Int) (XA:Option Addr) (xc:Nat) (out:Int) (l:List Int) (LA:Option Addr) (lc:Nat) (w:World) (hps:InS w noF 7 PA ps.length (pcell ps)) (hpn:ps.length≤9223372036854775807) (hxs:InS w noF 1 XA xs.length (icl xs)) (hxn:xs.length≤9223372036854775807) (hl:InS w noF 1 LA l.length (icl l)) (hln:l.length≤9223372036854775807) :
    Calls Tryz.prog 176 [.agg [.int .i64 pl,.slice PA ps.length pc,.slice XA xs.length xc].toArray,.int .i64 out,.slice LA l.length lc].toArray w (Ret (fun v w'=>v = .int .i64 (askE pl ps xs out l)∧St w noF [] w')):=by
 refine enter Tryz.func176 rfl Tryz.ntmps176 rfl (fun a H=>?_)
 have S:=St.start w
 refine seq_list fun K1 k1=>?_
 refine aO H rfl S G G ?_;intro b3 _ a hb3 hbw3 S H
 refine ls 1 H<|sr 1 G<|sE ?_;intro a H
 refine k1 _ _ ?_;refine wp_seq_k fun K2 k2=>?_
 refine seq_list fun K3 k3=>?_
 refine ls 1 H<|sd ((aB bW cQ rfl S (i:=0) G G))<|sE ?_;intro a H
 refine aA H G G Tryz.func102 G G (mK pl ps PA pc xs XA xc _ (hps.now S) hpn (hxs.now S) hxn) ?_;clear H a
 rintro _ _ a ⟨rfl,S2⟩ H;replace S:=S.call S2;clear S2;refine ls 1 H<|sr 1 G<|sE ?_;intro a H
 refine k3 _ _ ?_;refine sS H fun K4 k4=>sr 2 G<|sE ?_;intro a H
 refine k4 _ ?_;refine condN H rfl (fun hc1=>?_) (fun hc1=>?_)
 ·skip
  refine sS H fun K5 k5=>sr 2 G<|sE ?_;intro a H
  refine k5 _ ?_;refine wp_ret ?_;refine ret1 (fn:=Tryz.f176) rfl H rfl ?_;refine ⟨?_,(S.sel [] G G)⟩;unfold askE;rw [if_pos hc1]
 have hst:stE pl ps xs=0:=by omega
 refine wp_skip ?_;refine k2 _ _ ?_;refine wp_seq_k fun K6 k6=>?_
 replace H:=H.keep [1,2,3] rfl;refine seq_list fun K7 k7=>?_
 refine ls 1 H<|sr 1 G<|sE ?_;intro a H
 refine aA H G G Tryz.func104 G G (bY _ _ _ _) ?_;clear H a
 rintro _ _ a ⟨rfl,rfl⟩ H;refine ls 2 H<|sr 2 G<|sE ?_;intro a H
 apply bR (i:=3) (g:=16) (t:=20) (b:=false) 4 H S G G (by kernel_rfl) (by kernel_rfl) G G
 case h1=>
  intro hg4;refine ls 2 H<|sy hg4<|sd ((aB bW cQ rfl S (i:=0) G G))<|sy hg4<|sr 1 G<|sE ?_;intro a H
  refine cF H G G (by assumption) ?_
  refine aA H G G Tryz.func106 G G (vW pl ps PA pc xs XA xc l LA lc _ (hl.now S) hln (by have:=(jW hst).size;omega)) ?_
  rintro _ _ a ⟨rfl,S2⟩ H;replace S:=S.call S2;clear S2;refine ls 1 H<|sy hg4<|sr 1 G<|sE ?_;intro a H
  exact wpList_nil ⟨H.strip 4 G G,(S.sel [0] G G)⟩
 clear H a S;intro a _ H S;refine ls 1 H<|so G G G<|sE ?_;intro a H
 refine k7 _ _ ?_;refine cond_ H rfl (fun hc2=>?_) (fun hc2=>?_)
 ·skip
  try simp only [oz] at hc2
  replace H:=H.keep [] rfl;refine sS H fun K8 k8=>sr 1 G<|sE ?_;intro a H
  refine k8 _ ?_;refine wp_ret ?_;refine ret1 (fn:=Tryz.f176) rfl H rfl ?_;refine ⟨?_,(S.sel [] rfl rfl)⟩;unfold askE;rw [if_neg (by omega),if_neg (by simp only [Bool.and_eq_true,decide_eq_true_eq];rcases hc2 with h|h <;> first|(intro h9;omega)|(rw [h];simp))]
 try simp only [oz] at hc2
 refine wp_skip ?_;refine k6 _ _ ?_;refine sS H fun K9 k9=>sr 1 G<|sE ?_;intro a H
 refine k9 _ ?_;refine wp_ret ?_;refine ret1 (fn:=Tryz.f176) rfl H rfl ?_;refine ⟨?_,(S.sel [] G G)⟩;unfold askE;rw [if_neg (by omega),if_pos (by simp only [Bool.and_eq_true,decide_eq_true_eq];exact ⟨by omega,hc2.2⟩)]
theorem Cx (pl:Int) (ps:List Psg) (PA:Option Addr) (pc:Nat) (xs:List Int) (XA:Option Addr) (xc:Nat) (out:Int) (help:Bool) (fr to:Int) (w:World) (hps:InS w noF 7 PA ps.length (pcell ps)) (hpn:ps.length≤9223372036854775807) (hxs:InS w noF 1 XA xs.length (icl xs)) (hxn:xs.length≤9223372036854775807) :
    Calls Tryz.prog 145 [.agg [.int .i64 pl,.slice PA ps.length pc,.slice XA xs.length xc].toArray,.int .i64 out,.bool help,.int .i64 fr,.int .i64 to].toArray w (Ret (fun u w'=>(askE pl ps xs out [fr,to]≠0∧u = .tuple #[.int .i64 0,.slice none 0 0,.int .i64 (askE pl ps xs out [fr,to])]∧St w noF [] w')∨(askE pl ps xs out [fr,to]=0∧FarOk pl.toNat ps out help to.toNat (dst pl.toNat ps out help to.toNat)∧((dst pl.toNat ps out help to.toNat fr.toNat<0∧u = .tuple #[.int .i64 0,.slice none 0 0,.int .i64 3]∧St w noF [] w')∨(0≤dst pl.toNat ps out help to.toNat fr.toNat∧∃ A c,u = .tuple #[.int .i64 (dst pl.toNat ps out help to.toNat fr.toNat),.slice A (wayL pl.toNat ps out help fr.toNat to.toNat).length c,.int .i64 0]∧St w noF [ownM 3 1 A (wayL pl.toNat ps out help fr.toNat to.toNat).length c (wcl (wayL pl.toNat ps out help fr.toNat to.toNat))] w'))))):=by
 refine enter Tryz.func145 rfl Tryz.ntmps145 rfl (fun a H=>?_)
 have S:=St.start w
 refine seq_list fun K1 k1=>?_
 refine aO H rfl S G G ?_;clear H a S;intro b5 _ a hb5 hbw5 S H
 refine ls 3 H<|sr 3 G<|sE ?_;clear H a;intro a H
 refine k1 _ _ ?_;refine wp_seq_k fun K2 k2=>?_
 replace H:=H.keep [1,2,3,4,5,11] rfl;refine seq_list fun K3 k3=>?_
 refine ls 4 H<|sd ((aB bW cQ rfl S (i:=0) G G))<|sr 3 G<|sE ?_;clear H a;intro a H
 refine aY H rfl S aP aX fD G G G G G G G G G ?_;clear H a S;intro A1 _ a hA1 S H
 refine aA H G G Tryz.func176 G G (Gh pl ps PA pc xs XA xc out [fr,to] _ _ _ (hps.now S) hpn (hxs.now S) hxn ((aEi S (i:=0) rfl).congr (fun k j hk hj=>xZ k j hk hj)) (show 2≤9223372036854775807 by omega)) ?_;clear H a
 rintro _ _ a ⟨rfl,S2⟩ H;replace S:=S.call S2;clear S2;refine ls 1 H<|sr 1 G<|sE ?_;clear H a;intro a H
 refine k3 _ _ ?_;refine sS H fun K4 k4=>sr 2 G<|sE ?_;clear H a;intro a H
 refine k4 _ ?_;refine condN H rfl (fun hc1=>?_) (fun hc1=>?_)
 ·skip
  replace H:=H.keep [12] rfl;refine sS H fun K5 k5=>sr 4 G<|sE ?_;clear H a;intro a H
  refine k5 _ ?_;refine wp_ret ?_;refine ret3 (fn:=Tryz.f145) rfl H G G G ?_;exact .inl ⟨hc1,rfl,(S.sel [] G G)⟩
 obtain ⟨hst,hou,hpl⟩:=Ve hc1;have hV0:=jW hst;obtain ⟨P,rfl⟩:∃ P:Nat,pl=P:=⟨pl.toNat,by have:=hV0.size;omega⟩;have hV:=hV0;have hP10:=hV.size;have hfr:0≤fr∧fr≤P-1:=hpl 0 (show 0<2 by omega);have hto:0≤to∧to≤P-1:=hpl 1 (show 1<2 by omega);obtain ⟨fr,rfl⟩:=Int.eq_ofNat_of_zero_le hfr.1;obtain ⟨to,rfl⟩:=Int.eq_ofNat_of_zero_le hto.1;refine wp_skip ?_;refine k2 _ _ ?_;replace H:=H.keep [1,2,3,4,5,11] rfl;refine seq_list fun K6 k6=>?_
 refine ls 4 H<|sd ((aB bW cQ rfl S (i:=1) G G))<|sr 2 G<|sd (aN Pk G G)<|sE ?_;clear H a;intro a H
 refine aJ H rfl S Pa ?_;clear H a S;intro b13 _ a hb13 hbw13 S H
 refine aE H S (i:=0) G G G G uR G G ?_
 clear H a S;intro _ a S H;refine k6 _ _ ?_;replace H:=H.keep [3,4,5,11,13] rfl;refine seq_list fun K7 k7=>?_
 refine ls 2 H<|sd ((aB tN uR rfl S (i:=0) G G))<|sr 1 G<|sE ?_;clear H a;intro a H
 refine aA H G G Tryz.func144 G G (yD P ps PA pc xs XA xc out help (to:Int) _ (hps.now S) hpn (hxs.now S) hxn hV hou.1 (by omega)) ?_;clear H a
 rintro _ _ a ⟨A5,c5,rfl,hdo,S2⟩ H;replace S:=S.call S2;clear S2;rw [Int.toNat_natCast] at hdo S;refine ls 1 H<|sr 1 G<|sE ?_;clear H a;intro a H
 refine k7 _ _ ?_;refine wp_seq_k fun K8 k8=>?_
 refine sS H fun K9 k9=>sr 2 G<|si aP aX G G (aEj S (i:=0) rfl (by omega)) (by omega)<|slm aD rfl (aEk S (i:=0) rfl (by omega) (by omega))<|sr 1 G<|sE ?_;clear H a;intro a H
 refine k9 _ ?_;refine condL H rfl (fun hc2=>?_) (fun hc2=>?_)
 ·skip
  replace H:=H.keep [] rfl;refine sS H fun K10 k10=>sr 3 G<|sE ?_;clear H a;intro a H
  refine k10 _ ?_;refine wp_ret ?_;refine ret3 (fn:=Tryz.f145) rfl H G G G ?_;simp only [Int.toNat_natCast];exact .inr ⟨hc1,hdo,.inl ⟨hc2,trivial,(S.sel [] G G)⟩⟩
 refine wp_skip ?_;refine k8 _ _ ?_;refine wp_seq_k fun K11 k11=>?_
 refine sS H fun K12 k12=>sr 2 G<|sE ?_;clear H a;intro a H
 refine k12 _ ?_;refine wp_block ?_;replace S:=S.newNil 3 1 (wcl []);refine loop_st (X:=Nat×List Nat×Option Addr×Nat) (R0:=_) [3,4,5,13,14] H rfl (fun ⟨p,wl,A9,c9⟩=>[(11,.slice A9 wl.length c9),(15,.int .i64 (p:Int))]) (fun ⟨p,wl,A9,c9⟩=>[ownM 3 1 A9 wl.length c9 (wcl wl)]) (fun g ⟨p,wl,A9,c9⟩=>p<P∧0≤dst P ps out help to p∧dst P ps out help to p≤(g:Int)∧wl++wayG ps out help (dst P ps out help to) to g p=wayL P ps out help fr to) ((dst P ps out help to fr).toNat) (fr,[],none,0) ?_ (S.sel [0,1,2,3,4] G G) (H.keep [11,15,3,4,5,13,14] rfl) ?_
 · exact ⟨by omega,by omega,by omega,rfl⟩
 clear H S a;intro g1 x1 a w1 hp S H K13 k13;obtain ⟨p,wl,A9,c9⟩:=x1;dsimp only at hp S H;obtain ⟨hpP,hp0,hpg,hW⟩:=hp;refine wp_seq_k fun K14 k14=>?_
 refine sS H fun K15 k15=>sr 3 G<|sE ?_;clear H a;intro a H
 refine k15 _ ?_;refine condN H rfl (fun hc3=>?_) (fun hc3=>?_)
 ·skip
  refine wp_skip ?_;refine k14 _ _ ?_;refine wp_block ?_;refine sS H fun K16 k16=>sf fS rfl<|sl S 4 iU G G G<|sL iR rfl<|sr 1 G<|sE ?_;clear H a;intro a H
  refine k16 _ ?_;refine wp_block ?_;refine loop_st (X:=Nat) (R0:=_) [3,4,5,13,14,45,46] H rfl (fun k=>[(11,.slice A9 wl.length c9),(15,.int .i64 (p:Int)),(47,.int .i64 (k:Int))]) (fun k=>[]) (fun g k=>k≤ps.length∧g+k=ps.length∧∀ q,q<k→stepB ps out help (dst P ps out help to) p q=false) (ps.length) 0 ?_ (S.sel [0,1,2,3,4] G G) (H.keep [11,15,47,3,4,5,13,14,45,46] rfl) ?_
  · exact ⟨by omega,by omega,fun q hq=>absurd hq (Nat.not_lt_zero q)⟩
  clear H S a;intro g2 x2 a w2 hp S H K17 k17;obtain ⟨k,rfl⟩:∃ y,y=x2:=⟨_,rfl⟩;refine sS H fun K18 k18=>sr 1 G<|sE ?_;clear H a;intro a H
  refine k18 _ ?_;refine wp_seq_k fun K19 k19=>?_
  refine condL H rfl (fun hc4=>?_) (fun hc4=>?_)
  ·skip
   refine wp_skip ?_;refine k19 _ _ ?_;refine wp_seq_k fun K20 k20=>?_
   refine wp_block ?_;refine seq_list fun K21 k21=>?_
   refine ls 3 H<|sr 1 G<|si iR dR G G (hps.adr (by omega)) (by omega)<|sd ((aU jJ dR rfl S hps (by omega) (by omega)))<|sE ?_;clear H a;intro a H
   refine aJ H rfl S oX ?_;clear H a S;intro b17 _ a hb17 hbw17 S H
   refine ls 1 H<|sr 1 G<|sE ?_;clear H a;intro a H
   refine aE H S (i:=0) G G G G dR G G ?_
   clear H a S;intro _ a S H;refine k21 _ _ ?_;replace H:=H.keep [3,4,5,11,13,14,15,16,17,45,46,47] rfl;refine seq_list fun K22 k22=>?_
   refine ls 3 H<|sd ((aB tN uR rfl S (i:=3) G G))<|sd ((aB jJ dR rfl S (i:=0) G G))<|sr 1 G<|sE ?_;clear H a;intro a H
   refine aA H G G Tryz.func175 G G (tB P ps PA pc xs XA xc out help (ps.getD k aFf) (p:Int) _ (hV.mch k (by omega)) hou.1) ?_;clear H a
   rintro _ _ a ⟨rfl,S2⟩ H;replace S:=S.call S2;clear S2;have hoi:0≤oth out help (ps.getD k aFf) (p:Int)→oth out help (ps.getD k aFf) (p:Int)<P:=fun h=>(rW hV.psv (show k<ps.length by omega) h).2.1
   have htb:=(hV.psv k (by omega)).2.2
   refine ls 1 H<|sr 1 G<|sE ?_;clear H a;intro a H
   refine k22 _ _ ?_;replace H:=H.keep [3,4,5,11,13,14,15,16,17,18,45,46,47] rfl;replace S:=S.drew
   refine sD H fun K23 k23=>sr 3 G<|sg 5 2 58 63 true G G (fun hg3=>by
       have hq3:=hg3;try simp only [oz] at hq3
       exact sy hg3<|sr 1 G<|sy hg3<|sr 1 G<|sy hg3<|sI aP aX G G (aEj S (i:=2) rfl (by omega)) (by omega) (by omega)<|sy hg3<|slm aD rfl (aEk S (i:=2) rfl (by omega) (by omega))<|sy hg3<|sr 1 G<|sz 5 G G G)<|sa G G G<|sr 1 G<|sg 12 9 65 77 true G G (fun hg10=>by
       have hq10:=hg10;try simp only [oz] at hq10
       have hsm:=hdo.sml (oth out help (ps.getD k aFf) p).toNat (by omega)
       exact sy hg10<|sr 1 G<|sy hg10<|sr 1 G<|sy hg10<|sI aP aX G G (aEj S (i:=2) rfl (by omega)) (by omega) (by omega)<|sy hg10<|slm aD rfl (aEk S (i:=2) rfl (by omega) (by omega))<|sy hg10<|sf nC rfl<|sy hg10<|sl S 0 aD G G G<|sy hg10<|sd (aI G G (by unfold i64ok;omega))<|sy hg10<|sr 1 G<|sy hg10<|sr 1 G<|sy hg10<|si aP aX G G (aEj S (i:=2) rfl (by omega)) (by omega)<|sy hg10<|slm aD rfl (aEk S (i:=2) rfl (by omega) (by omega))<|sy hg10<|sr 1 G<|sz 12 G G G)<|sa G G G<|sE ?_;clear H a;intro a H
   refine k23 _ ?_;refine cond_ H rfl (fun hc5=>?_) (fun hc5=>?_)
   ·skip
    try simp only [oz] at hc5
    have hsb:=Vg hc5
    obtain ⟨b,hb,hbP,hb0,hbd,hbt⟩:=Vd hV.psv (by omega) hsb;have hsk:=Vc hp.2.2 hsb (by omega);have hwl:wl.length≤200:=by have:=Pz (ps:=ps) (out:=out) (help:=help) (d:=dst P ps out help to) (to:=to) (dst P ps out help to fr).toNat fr;have h8:=hdo.sml fr (by omega);have h9:=congrArg List.length hW;rw [List.length_append] at h9;unfold wayL at h9;omega
    rw [hb] at H;replace H:=H.keep [3,4,5,11,13,14,16,18] rfl;refine seq_list fun K24 k24=>?_
    refine ls 2 H<|sr 2 G<|sE ?_;clear H a;intro a H
    refine aY H rfl S aP aX fD G G G G G G G G G ?_;clear H a S;intro A2 _ a hA2 S H
    refine bM H rfl S aP aX fD mQ G G (i:=2) G G G (aEi S (i:=0) rfl) (qO (w8one rfl)) (by omega) (by omega) ?_;clear H a S;intro A3 c3 _ a S H
    replace S:=S.recell (i:=2) rfl (cell':=wcl (wl++[k])) (fun k j hk hj=>Cp rfl k j hk hj);rw [show wl.length+1=(wl++[k]).length by simp] at H S;refine ls 1 H<|sr 1 G<|sE ?_;clear H a;intro a H
    refine k24 _ _ ?_;refine sS H fun K25 k25=>sr 2 G<|sE ?_;clear H a;intro a H
    refine k25 _ ?_;refine wp_exit ?_;exact k13 (g1-1) (b,wl++[k],_,_) a _ (by omega) (⟨hbP,hb0,by omega,Qa hW (by omega) (by omega) hsk hb⟩) (S.sel [2,3,4,5,6] G G) (H.keep [11,15,3,4,5,13,14] rfl)
   try simp only [oz] at hc5
   refine wp_skip ?_;refine k20 _ _ ?_;refine sO H<|sd (aI G G (by unfold i64ok;omega))<|sr 1 G<|sE ?_;clear H a;intro a H
   exact k17 (g2-1) (k+1) a _ (by omega) (⟨by omega,by omega,Vi hp.2.2 (Vh hc5)⟩) (S.sel [1,2,3,4,5] G G) (H.keep [11,15,47,3,4,5,13,14,45,46] rfl)
  exfalso
  obtain ⟨h91,h92,h93⟩:=hdo.stp hV.psv hpP hp0 (by omega);rw [hp.2.2 _ (by omega)] at h92;cases h92
 refine wp_exit ?_;refine k11 _ _ ?_;replace H:=H.keep [3,11,14] rfl;refine sS H fun K27 k27=>sr 2 G<|si aP aX G G (aEj S (i:=1) rfl (by omega)) (by omega)<|slm aD rfl (aEk S (i:=1) rfl (by omega) (by omega))<|sr 4 G<|sE ?_;clear H a;intro a H
 refine k27 _ ?_;refine wp_ret ?_;refine ret3 (fn:=Tryz.f145) rfl H rfl rfl rfl ?_;obtain rfl:p=to:=by omega
 have hw9:=Vf hW
 simp only [Int.toNat_natCast]
 rw [←hw9];exact .inr ⟨hc1,hdo,.inr ⟨hc2,_,_,rfl,(S.sel [0] G G)⟩⟩
end
section
section
variable {ps:List Psg} {out:Int} {help:Bool} {l:List Int} {a b:Int} {k:Nat} {s:Int×Int}
end
section
variable {P:Nat} {ps:List Psg} {xs:List Int} {out:Int} {help:Bool} {fr to:Nat} {l:List Int}
end
structure Hr where
 out:Int
 help:Bool
 pe:List Int
 A:Option Addr
 c:Nat
def aFn:Hr:=⟨0,false,[],none,0⟩
def Hr.cell (h:Hr):Nat→Value
 | 0 => .int .i64 h.out
 | 1 => .bool h.help
 | _ => .slice h.A h.pe.length h.c
structure Hq where
 out:Int
 help:Bool
 pe:List Int
def aFm:Hq:=⟨0,false,[]⟩
def Hr.q (h:Hr):Hq:=⟨h.out,h.help,h.pe⟩
def hcl (l:List Hq) (DA:Nat→Option Addr) (dc:Nat→Nat) (k:Nat):Nat→Value
 | 0 => .int .i64 (l.getD k aFm).out
 | 1 => .bool (l.getD k aFm).help
 | _ => .slice (DA k) (l.getD k aFm).pe.length (dc k)
structure Prm where
 fr:Int
 to:Int
 first:Int
 last:Int
 helped:Bool
def aFj:Prm:=⟨0,0,0,0,false⟩
def Prm.cell (p:Prm):Nat→Value
 | 0 => .int .i64 p.fr
 | 1 => .int .i64 p.to
 | 2 => .int .i64 p.first
 | 3 => .int .i64 p.last
 | _ => .bool p.helped
def dX (l:List Prm) (k j:Nat):Value:=(l.getD k aFj).cell j
theorem Gi (l:List Prm):∀ k j,k<l.length→j<5→(dX l k j).oneCell'=true:=fun k j _ _=>by
 unfold dX Prm.cell
 split <;> rfl
def hqOk (pl:Int) (h:Hq):Bool:=decide (0≤h.out∧h.out≤4095)&&eN pl h.pe
def dayOk (pl:Int) (day:List Hq):Bool:=allN (fun k=>hqOk pl (day.getD k aFm)) day.length&&decide (day.length≤48)
def dayE (pl:Int) (ps:List Psg) (xs:List Int) (day:List Hq):Int:=if stE pl ps xs≠0 then stE pl ps xs else if dayOk pl day=true then 0 else 81
def prmOk (pl:Int) (p:Prm):Bool:=decide (0≤p.fr∧p.fr≤pl-1∧0≤p.to∧p.to≤pl-1∧0≤p.first∧p.first≤p.last∧p.last<48)
def prsOk (pl:Int) (l:List Prm):Bool:=allN (fun k=>prmOk pl (l.getD k aFj)) l.length&&decide (l.length≤40)
def keptE (pl:Int) (ps:List Psg) (xs:List Int) (day:List Hq) (l:List Prm):Int:=if dayE pl ps xs day≠0 then dayE pl ps xs day else if prsOk pl l=true then 0 else 82
theorem oE {pl:Int} {ps:List Psg} {xs:List Int} {day:List Hq} (h:dayE pl ps xs day=0):stE pl ps xs=0∧dayOk pl day=true:=by
  unfold dayE at h
  split at h
  · omega
  · split at h
    · exact ⟨by omega,by assumption⟩
    · cases h
theorem vX {pl:Int} {day:List Hq} (h:dayOk pl day=true):day.length≤48∧∀ k,k<day.length→(0≤(day.getD k aFm).out∧(day.getD k aFm).out≤4095)∧eN pl (day.getD k aFm).pe=true:=by
 unfold dayOk at h
 simp only [Bool.and_eq_true,decide_eq_true_eq] at h
 refine ⟨h.2,fun k hk=>?_⟩
 have:=bI.1 h.1 k hk
 unfold hqOk at this
 simpa using this
theorem lV {pl:Int} {ps:List Psg} {xs:List Int} {day:List Hq} {l:List Prm} (h:keptE pl ps xs day l=0):dayE pl ps xs day=0∧l.length≤40∧∀ k,k<l.length→prmOk pl (l.getD k aFj)=true:=by
  unfold keptE at h
  split at h
  · omega
  · split at h
    · rename_i h1 h2
      unfold prsOk at h2
      simp only [Bool.and_eq_true,decide_eq_true_eq] at h2
      exact ⟨by omega,h2.2,bI.1 h2.1⟩
    · cases h
theorem kI {pl:Int} {p:Prm}:prmOk pl p=true↔(0≤p.fr∧p.fr≤pl-1∧0≤p.to∧p.to≤pl-1∧0≤p.first∧p.first≤p.last∧p.last<48):=by unfold prmOk;rw [decide_eq_true_eq]
noncomputable def eL (P:Nat) (ps:List Psg) (h:Hq) (n:Nat) (p:Prm):Bool:=(decide (p.first≤(n:Int))&&decide ((n:Int)≤p.last))&&decide (dst P ps h.out (h.help&&p.helped) p.to.toNat p.fr.toNat<0)
noncomputable def lC (P:Nat) (ps:List Psg) (day:List Hq) (l:List Prm) (h:Nat):Nat:=fstB (fun i=>eL P ps (day.getD h aFm) h (l.getD i aFj)) l.length
noncomputable def pF (P:Nat) (ps:List Psg) (day:List Hq) (l:List Prm):Nat:=fstB (fun h=>decide (lC P ps day l h<l.length)) day.length
noncomputable def keptV (pl:Int) (ps:List Psg) (xs:List Int) (day:List Hq) (l:List Prm):Int×Int×Bool×Int:=
 if keptE pl ps xs day l≠0 then (0,0,false,keptE pl ps xs day l)
 else if pF pl.toNat ps day l<day.length then ((pF pl.toNat ps day l:Int),(lC pl.toNat ps day l (pF pl.toNat ps day l):Int),false,0) else (0,0,true,0)
section
variable {P:Nat} {ps:List Psg} {xs:List Int} {day:List Hq} {l:List Prm} {h i:Nat}
theorem qQ {pl:Int} (he:keptE pl ps xs day l≠0):keptV pl ps xs day l=(0,0,false,keptE pl ps xs day l):=by unfold keptV;rw [if_pos he]
theorem Vw (he:keptE P ps xs day l=0) (hh:h<day.length) (hi:i<l.length) (h1:∀ q,q<h→∀ j,j<l.length→eL P ps (day.getD q aFm) q (l.getD j aFj)=false) (h2:∀ j,j<i→eL P ps (day.getD h aFm) h (l.getD j aFj)=false)
  (hb:eL P ps (day.getD h aFm) h (l.getD i aFj)=true):keptV P ps xs day l=((h:Int),(i:Int),false,0):=by
 have e1:lC P ps day l h=i:=pB h2 hb hi
 have e2:pF P ps day l=h:=pB (fun q hq=>decide_eq_false (by unfold lC;rw [jX (h1 q hq)];omega)) (decide_eq_true (by rw [e1];exact hi)) hh
 unfold keptV
 rw [if_neg (by omega),Int.toNat_natCast,e2,if_pos hh,e1]
theorem Rb (he:keptE P ps xs day l=0) (h1:∀ q,q<day.length→∀ j,j<l.length→eL P ps (day.getD q aFm) q (l.getD j aFj)=false):keptV P ps xs day l=(0,0,true,0):=by
 have e2:pF P ps day l=day.length:=jX (fun q hq=>decide_eq_false (by unfold lC;rw [jX (h1 q hq)];omega))
 unfold keptV
 rw [if_neg (by omega),Int.toNat_natCast,e2,if_neg (by omega)]
theorem vY {pl:Int} {k:Nat} (hk:k<day.length) (hx:hqOk pl (day.getD k aFm)=false):dayOk pl day=false:=by unfold dayOk;rw [gL hk hx];rfl
theorem Cy {pl:Int} (h1:allN (fun k=>hqOk pl (day.getD k aFm)) day.length=true):dayOk pl day=decide (day.length≤48):=by unfold dayOk;rw [h1];rfl
theorem Lf (h1:∀ q,q<h→∀ j,j<l.length→eL P ps (day.getD q aFm) q (l.getD j aFj)=false) (h2:∀ j,j<i→eL P ps (day.getD h aFm) h (l.getD j aFj)=false) (hi:l.length≤i) :
  ∀ q,q<h+1→∀ j,j<l.length→eL P ps (day.getD q aFm) q (l.getD j aFj)=false:=fun q hq j hj=>by
 by_cases e:q=h
 ·subst e;exact h2 j (by omega)
 ·exact h1 q (by omega) j hj
theorem Vx {f:Nat→Bool} (h:∀ j,j<i→f j=false) (hi:f i=false):∀ j,j<i+1→f j=false:=fun j hj=>by
 by_cases e:j=i
 ·subst e;exact hi
 ·exact h j (by omega)
end
section
variable {w w0:World} {F0:Nat→Prop} {R:List Mem} {e sz i k:Nat} {A:Nat→Option Addr} {n c:Nat→Nat} {cell:Nat→Nat→Nat→Value}
theorem aFb (S:St w0 F0 R w) (e sz:Nat) (A:Nat→Option Addr) (n c:Nat→Nat) (cell:Nat→Nat→Nat→Value):St w0 F0 (ragM e sz (fun q=>q<0) A n c cell::R) w:=
 S.new (Keeps.refl _ _) ⟨fun q hq=>absurd hq (Nat.not_lt_zero q),fun q _ hq=>absurd hq (Nat.not_lt_zero q)⟩ (fun b ⟨q,hq,_⟩=>absurd hq (Nat.not_lt_zero q))
theorem aEz {A':Option Addr} {n' c':Nat} {cell':Nat→Nat→Value} (S:St w0 F0 (ownM e sz A' n' c' cell'::R) w) (hi:R[i]?=some (ragM e sz (fun q=>q<k) A n c cell)) :
  St w0 F0 (R.set i (ragM e sz (fun q=>q<k+1) (upd A k A') (upd n k n') (upd c k c') (upd cell k cell'))) w:=by
 have e1:(fun q=>q<k)=(fun q=>q<k+1∧q≠k):=by funext q;exact propext ⟨fun h=>by omega,fun h=>by omega⟩
 rw [e1] at hi;exact aEq (D:=fun q=>q<k+1) S hi (by omega)
theorem aFc {n':Nat→Nat} {A':Nat→Option Addr} {c':Nat→Nat} {cell':Nat→Nat→Nat→Value} {D:Nat→Prop} (S:St w0 F0 R w) (hi:R[i]?=some (ragM e sz D A n c cell)) (h:∀ q,D q→A q=A' q∧n q=n' q∧c q=c' q∧cell q=cell' q):St w0 F0 (R.set i (ragM e sz D A' n' c' cell')) w:=by
 have hrow:∀ q,D q→ownM e sz (A' q) (n' q) (c' q) (cell' q)=ownM e sz (A q) (n q) (c q) (cell q):=fun q hq=>by obtain ⟨h1,h2,h3,h4⟩:=h q hq;rw [h1,h2,h3,h4]
 refine S.imp hi (fun ⟨h1,h2⟩=>⟨fun q hq=>by rw [hrow q hq];exact h1 q hq,fun q r hq hr hqr b hb hb'=>?_⟩) ?_
 ·rw [hrow q hq] at hb;rw [hrow r hr] at hb';exact h2 q r hq hr hqr b hb hb'
 ·rintro b ⟨q,hq,hb⟩;rw [hrow q hq] at hb;exact ⟨q,hq,hb⟩
end
end
section
theorem vZ {pl a b:Int}:plOk pl [a,b]=true↔(0≤a∧a≤pl-1)∧(0≤b∧b≤pl-1):=by
  unfold plOk
  rw [bI];constructor
  · intro h
    have h0:=h 0 (show 0<2 by omega)
    have h1:=h 1 (show 1<2 by omega)
    exact ⟨of_decide_eq_true h0,of_decide_eq_true h1⟩
  · rintro ⟨h0,h1⟩ k hk
    match k,hk with
    | 0,_=>exact decide_eq_true h0
    | 1,_=>exact decide_eq_true h1
theorem Gj {pl a b:Int} (h:plOk pl [a,b]=false):¬ ((0≤a∧a≤pl-1)∧(0≤b∧b≤pl-1)):=fun h2=>by rw [vZ.2 h2] at h;cases h
section
variable {pl:Int} {ps:List Psg} {xs:List Int} {day:List Hq} {l:List Prm}
theorem wA (h:stE pl ps xs≠0):keptE pl ps xs day l=stE pl ps xs:=by
 have:dayE pl ps xs day=stE pl ps xs:=by unfold dayE;rw [if_pos h]
 unfold keptE;rw [this,if_pos h]
theorem yE (h:stE pl ps xs=0) (hd:dayOk pl day=false):keptE pl ps xs day l=81:=by
 have:dayE pl ps xs day=81:=by unfold dayE;rw [if_neg (by omega),if_neg (by rw [hd];simp)]
 unfold keptE;rw [this];rfl
theorem sC (h:stE pl ps xs=0) (hd:dayOk pl day=true):dayE pl ps xs day=0:=by unfold dayE;rw [if_neg (by omega),if_pos hd]
theorem oF (h:dayE pl ps xs day=0) (hd:prsOk pl l=false):keptE pl ps xs day l=82:=by unfold keptE;rw [if_neg (by omega),if_neg (by rw [hd];simp)]
theorem wB (h:dayE pl ps xs day=0) (hd:prsOk pl l=true):keptE pl ps xs day l=0:=by unfold keptE;rw [if_neg (by omega),if_pos hd]
theorem Cz (h:¬ l.length≤40):prsOk pl l=false:=by unfold prsOk;rw [decide_eq_false h,Bool.and_false]
theorem Ig {k:Nat} (hk:k<l.length) (h:prmOk pl (l.getD k aFj)=false):prsOk pl l=false:=by unfold prsOk;rw [gL hk h];rfl
theorem Ih (h:allN (fun k=>prmOk pl (l.getD k aFj)) l.length=true) (h2:l.length≤40):prsOk pl l=true:=by unfold prsOk;rw [h,decide_eq_true h2];rfl
theorem Rc {p:Prm} (h:¬ (0≤p.fr∧p.fr≤pl-1∧0≤p.to∧p.to≤pl-1∧0≤p.first∧p.first≤p.last∧p.last<48)):prmOk pl p=false:=by unfold prmOk;exact decide_eq_false h
theorem Re {P:Nat} {h:Hq} {n:Nat} {p:Prm} (h1:p.first≤(n:Int)∧(n:Int)≤p.last) (h2:dst P ps h.out (h.help&&p.helped) p.to.toNat p.fr.toNat<0):eL P ps h n p=true:=by
 unfold eL;rw [decide_eq_true h1.1,decide_eq_true h1.2,decide_eq_true h2];rfl
theorem Lg {P:Nat} {h:Hq} {n:Nat} {p:Prm} (h1:¬ (p.first≤(n:Int)∧(n:Int)≤p.last)):eL P ps h n p=false:=by
 unfold eL
 by_cases h2:p.first≤(n:Int)
 ·rw [decide_eq_false (p:=(n:Int)≤p.last) (by omega),Bool.and_false];rfl
 ·rw [decide_eq_false h2];rfl
theorem Lh {P:Nat} {h:Hq} {n:Nat} {p:Prm} (h2:¬ dst P ps h.out (h.help&&p.helped) p.to.toNat p.fr.toNat<0):eL P ps h n p=false:=by
 unfold eL;rw [decide_eq_false h2,Bool.and_false]
end
theorem wC (pl:Int) (ps:List Psg) (PA:Option Addr) (pc:Nat) (xs:List Int) (XA:Option Addr) (xc:Nat) (day:List Hq) (HA:Option Addr) (hcp:Nat) (DA:Nat→Option Addr) (dc:Nat→Nat) (w:World) (hps:InS w noF 7 PA ps.length (pcell ps)) (hpn:ps.length≤9223372036854775807) (hxs:InS w noF 1 XA xs.length (icl xs)) (hxn:xs.length≤9223372036854775807) (hday:InS w noF 3 HA day.length (hcl day DA dc)) (hdn:day.length≤9223372036854775807) (hdp:∀ k,k<day.length→InS w noF 1 (DA k) (day.getD k aFm).pe.length (icl (day.getD k aFm).pe)) (hdl:∀ k,k<day.length→(day.getD k aFm).pe.length≤9223372036854775807) :
    Calls Tryz.prog 103 [.agg [.int .i64 pl,.slice PA ps.length pc,.slice XA xs.length xc].toArray,.slice HA day.length hcp].toArray w (Ret (fun v w'=>v = .bool (dayOk pl day)∧St w noF [] w')):=by
 refine enter Tryz.func103 rfl Tryz.ntmps103 rfl (fun a H=>?_)
 have S:=St.start w
 refine seq_list fun K1 k1=>?_
 refine aO H rfl S G G ?_;intro b2 _ a hb2 hbw2 S H
 refine ls 1 H<|sr 1 G<|sE ?_;clear H a;intro a H
 refine k1 _ _ ?_;refine wp_seq_k fun K2 k2=>?_
 refine sS H fun K3 k3=>sr 1 G<|sL iZ rfl<|sr 1 G<|sE ?_;clear H a;intro a H
 refine k3 _ ?_;refine wp_block ?_;refine loop_st (X:=Nat) (R0:=_) [1,2,7,8] H rfl (fun k=>[(9,.int .i64 (k:Int))]) (fun k=>[]) (fun g k=>k≤day.length∧g+k=day.length∧allN (fun k=>hqOk pl (day.getD k aFm)) k=true) (day.length) 0 ?_ (S.sel [0] G G) (H.keep [9,1,2,7,8] rfl) ?_
 · exact ⟨by omega,by omega,rfl⟩
 clear H S a;intro g1 x1 a w1 hp S H K4 k4;obtain ⟨k,rfl⟩:∃ y,y=x1:=⟨_,rfl⟩;refine sS H fun K5 k5=>sr 1 G<|sE ?_;clear H a;intro a H
 refine k5 _ ?_;refine wp_seq_k fun K6 k6=>?_
 refine condL H rfl (fun hc1=>?_) (fun hc1=>?_)
 ·skip
  refine wp_skip ?_;refine k6 _ _ ?_;refine wp_seq_k fun K7 k7=>?_
  refine wp_block ?_;refine seq_list fun K8 k8=>?_
  refine ls 2 H<|si iZ iY G G (hday.adr (by omega)) (by omega)<|sd ((aU zE iY rfl S hday (by omega) (by omega)))<|sE ?_;clear H a;intro a H
  refine aJ H rfl S vH ?_;intro b6 _ a hb6 hbw6 S H
  refine aE H S (i:=0) G G G G iY G G ?_
  clear H a S;intro _ a S H;refine k8 _ _ ?_;replace H:=H.keep [1,2,6,7,8,9] rfl;refine seq_list fun K9 k9=>?_
  refine ls 2 H<|sf nE rfl<|sl S 0 aD G G G<|sE ?_;clear H a;intro a H
  refine aA H G G Tryz.func104 G G (bY _ _ _ _) ?_;clear H a
  rintro _ _ a ⟨rfl,rfl⟩ H;refine ls 2 H<|sr 2 G<|sE ?_;clear H a;intro a H
  apply bR (i:=4) (g:=17) (t:=22) (b:=false) 5 H S G G (by kernel_rfl) (by kernel_rfl) G G
  case h1=>
   intro hg5;have hq5:=hg5;try simp only [oz] at hq5
   refine ls 3 H<|sy hg5<|sd ((aB bW cQ rfl S (i:=1) G G))<|sy hg5<|sf uW rfl<|sy hg5<|sl S 0 bE G G G<|sE ?_;intro a H
   refine cF H G G (by assumption) ?_
   refine aA H G G Tryz.func140 G G (vV pl ps PA pc xs XA xc (day.getD k aFm).pe (DA k) (dc k) _ ((hdp k (by omega)).now S) (hdl k (by omega))) ?_
   rintro _ _ a ⟨rfl,S2⟩ H;replace S:=S.call S2;clear S2;refine ls 1 H<|sy hg5<|sr 1 G<|sE ?_;intro a H
   exact wpList_nil ⟨H.strip 5 G G,(S.sel [0,1] G G)⟩
  clear H a S;intro a _ H S;refine ls 1 H<|so G G G<|sE ?_;clear H a;intro a H
  refine k9 _ _ ?_;refine cond_ H rfl (fun hc2=>?_) (fun hc2=>?_)
  ·skip
   try simp only [oz] at hc2
   replace H:=H.keep [] rfl;refine sS H fun K10 k10=>sr 1 G<|sE ?_;clear H a;intro a H
   refine k10 _ ?_;refine wp_ret ?_;refine ret1 (fn:=Tryz.f103) rfl H rfl ?_;exact ⟨congrArg Value.bool (vY (k:=k) (by omega) (by unfold hqOk;rcases hc2 with h|h;(rw [decide_eq_false (by omega)];rfl);(rw [h,Bool.and_false]))).symm,(S.sel [] rfl rfl)⟩
  try simp only [oz] at hc2
  refine wp_skip ?_;refine k7 _ _ ?_;refine sO H<|sd (aI G G (by unfold i64ok;omega))<|sr 1 G<|sE ?_;clear H a;intro a H
  exact k4 (g1-1) (k+1) a _ (by omega) (⟨by omega,by omega,cM hp.2.2 (by unfold hqOk;rw [decide_eq_true (by omega),hc2.2];rfl)⟩) (S.sel [1] G G) (H.keep [9,1,2,7,8] rfl)
 refine wp_exit ?_;refine k2 _ _ ?_;refine sS H fun K12 k12=>sr 1 G<|sL iZ rfl<|sr 2 G<|sE ?_;clear H a;intro a H
 refine k12 _ ?_;refine wp_ret ?_;refine ret1 (fn:=Tryz.f103) rfl H rfl ?_;obtain rfl:k=day.length:=by omega
 refine ⟨congrArg Value.bool ?_,(S.sel [] G G)⟩
 rw [Cy hp.2.2];exact decide_eq_decide.2 (by omega)
theorem yF (pl:Int) (ps:List Psg) (PA:Option Addr) (pc:Nat) (xs:List Int) (XA:Option Addr) (xc:Nat) (day:List Hq) (HA:Option Addr) (hcp:Nat) (DA:Nat→Option Addr) (dc:Nat→Nat) (l:List Prm) (LA:Option Addr) (lc:Nat) (w:World) (hps:InS w noF 7 PA ps.length (pcell ps)) (hpn:ps.length≤9223372036854775807) (hxs:InS w noF 1 XA xs.length (icl xs)) (hxn:xs.length≤9223372036854775807) (hday:InS w noF 3 HA day.length (hcl day DA dc)) (hdn:day.length≤9223372036854775807) (hdp:∀ k,k<day.length→InS w noF 1 (DA k) (day.getD k aFm).pe.length (icl (day.getD k aFm).pe)) (hdl:∀ k,k<day.length→(day.getD k aFm).pe.length≤9223372036854775807) (hl:InS w noF 5 LA l.length (dX l)) (hln:l.length≤9223372036854775807) :
    Calls Tryz.prog 70 [.agg [.int .i64 pl,.slice PA ps.length pc,.slice XA xs.length xc].toArray,.slice HA day.length hcp,.slice LA l.length lc].toArray w (Ret (fun u w'=>u = .tuple #[.int .i64 (keptV pl ps xs day l).1,.int .i64 (keptV pl ps xs day l).2.1,.bool (keptV pl ps xs day l).2.2.1,.int .i64 (keptV pl ps xs day l).2.2.2]∧St w noF [] w')):=by
 refine enter Tryz.func70 rfl Tryz.ntmps70 rfl (fun a H=>?_)
 have S:=St.start w
 refine seq_list fun K1 k1=>?_
 refine aO H rfl S G G ?_;intro b3 _ a hb3 hbw3 S H
 refine ls 4 H<|sr 4 G<|sE ?_;clear H a;intro a H
 refine k1 _ _ ?_;refine wp_seq_k fun K2 k2=>?_
 refine seq_list fun K3 k3=>?_
 refine ls 1 H<|sd ((aB bW cQ rfl S (i:=0) G G))<|sE ?_;clear H a;intro a H
 refine aA H G G Tryz.func102 G G (mK pl ps PA pc xs XA xc _ (hps.now S) hpn (hxs.now S) hxn) ?_;clear H a
 rintro _ _ a ⟨rfl,S2⟩ H;replace S:=S.call S2;clear S2;refine ls 1 H<|sr 1 G<|sE ?_;clear H a;intro a H
 refine k3 _ _ ?_;replace H:=H.keep [1,2,3,9] rfl;refine sS H fun K4 k4=>sr 2 G<|sE ?_;clear H a;intro a H
 refine k4 _ ?_;refine condN H rfl (fun hc1=>?_) (fun hc1=>?_)
 ·skip
  refine sS H fun K5 k5=>sr 5 G<|sE ?_;clear H a;intro a H
  refine k5 _ ?_;refine wp_ret ?_;refine ret4 (fn:=Tryz.f70) rfl H G G G G ?_;rw [qQ (by rw [wA hc1];exact hc1),wA hc1];exact ⟨rfl,(S.sel [] G G)⟩
 have hst:stE pl ps xs=0:=by omega
 have hV0:=jW hst
 obtain ⟨P,rfl⟩:∃ P:Nat,pl=P:=⟨pl.toNat,by have:=hV0.size;omega⟩;have hV:=hV0;have hP10:=hV.size;refine wp_skip ?_;refine k2 _ _ ?_;refine wp_seq_k fun K6 k6=>?_
 replace H:=H.keep [1,2,3] rfl;refine seq_list fun K7 k7=>?_
 refine ls 2 H<|sd ((aB bW cQ rfl S (i:=0) G G))<|sr 1 G<|sE ?_;clear H a;intro a H
 refine aA H G G Tryz.func103 G G (wC P ps PA pc xs XA xc day HA hcp DA dc _ (hps.now S) hpn (hxs.now S) hxn (hday.now S) hdn (fun k hk=>(hdp k hk).now S) hdl) ?_;clear H a
 rintro _ _ a ⟨rfl,S2⟩ H;replace S:=S.call S2;clear S2;refine ls 1 H<|sr 1 G<|sE ?_;clear H a;intro a H
 refine k7 _ _ ?_;refine cond_ H rfl (fun hc2=>?_) (fun hc2=>?_)
 ·skip
  try simp only [oz] at hc2
  refine sS H fun K8 k8=>sr 4 G<|sE ?_;clear H a;intro a H
  refine k8 _ ?_;refine wp_ret ?_;refine ret4 (fn:=Tryz.f70) rfl H G G G G ?_;rw [qQ (by rw [yE hst hc2];decide),yE hst hc2];exact ⟨rfl,(S.sel [] G G)⟩
 try simp only [oz] at hc2
 have hdE:=sC hst hc2
 have hdk:=vX hc2
 refine wp_skip ?_;refine k6 _ _ ?_;refine wp_seq_k fun K9 k9=>?_
 replace H:=H.keep [1,2,3] rfl;refine sS H fun K10 k10=>sr 1 G<|sL gO rfl<|sr 1 G<|sE ?_;clear H a;intro a H
 refine k10 _ ?_;refine condL H rfl (fun hc3=>?_) (fun hc3=>?_)
 ·skip
  refine sS H fun K11 k11=>sr 4 G<|sE ?_;clear H a;intro a H
  refine k11 _ ?_;refine wp_ret ?_;refine ret4 (fn:=Tryz.f70) rfl H G G G G ?_;have e9:=oF hdE (Cz (l:=l) (by omega));rw [qQ (by rw [e9];decide),e9];exact ⟨rfl,(S.sel [] G G)⟩
 refine wp_skip ?_;refine k9 _ _ ?_;refine wp_seq_k fun K12 k12=>?_
 replace H:=H.keep [1,2,3] rfl;refine sS H fun K13 k13=>sr 1 G<|sL gO rfl<|sr 1 G<|sE ?_;clear H a;intro a H
 refine k13 _ ?_;refine wp_block ?_;refine loop_st (X:=Nat) (R0:=_) [1,2,3,28,29] H rfl (fun k=>[(30,.int .i64 (k:Int))]) (fun k=>[]) (fun g k=>k≤l.length∧g+k=l.length∧allN (fun k=>prmOk P (l.getD k aFj)) k=true) (l.length) 0 ?_ (S.sel [0] G G) (H.keep [30,1,2,3,28,29] rfl) ?_
 · exact ⟨by omega,by omega,rfl⟩
 clear H S a;intro g1 x1 a w1 hp S H K14 k14;obtain ⟨k,rfl⟩:∃ y,y=x1:=⟨_,rfl⟩;refine sS H fun K15 k15=>sr 1 G<|sE ?_;clear H a;intro a H
 refine k15 _ ?_;refine wp_seq_k fun K16 k16=>?_
 refine condL H rfl (fun hc4=>?_) (fun hc4=>?_)
 ·skip
  refine wp_skip ?_;refine k16 _ _ ?_;refine wp_seq_k fun K17 k17=>?_
  refine wp_block ?_;refine seq_list fun K18 k18=>?_
  refine ls 2 H<|si gO fW G G (hl.adr (by omega)) (by omega)<|sd ((aU rO fW rfl S hl (by omega) (by omega)))<|sE ?_;clear H a;intro a H
  refine aJ H rfl S sY ?_;intro b11 _ a hb11 hbw11 S H
  refine aE H S (i:=0) G G G G fW G G ?_
  clear H a S;intro _ a S H;refine k18 _ _ ?_;replace H:=H.keep [1,2,3,11,28,29,30] rfl;refine seq_list fun K19 k19=>?_
  refine ls 5 H<|sd ((aB bW cQ rfl S (i:=1) G G))<|sf qC rfl<|sl S 0 aD G G G<|sf qD rfl<|sl S 0 aD G G G<|sE ?_;clear H a;intro a H
  refine aY H rfl S aP aX fD G G G G G G G G G ?_;intro A1 _ a hA1 S H
  refine aA H G G Tryz.func106 G G (vW P ps PA pc xs XA xc [(l.getD k aFj).fr,(l.getD k aFj).to] _ _ _ ((aEi S (i:=0) rfl).congr (fun k j hk hj=>xZ k j hk hj)) (show 2≤9223372036854775807 by omega) (by omega)) ?_;clear H a
  rintro _ _ a ⟨rfl,S2⟩ H;replace S:=S.call S2;clear S2
  refine ls 18 H<|sr 2 G<|sg 3 8 42 45 false G G (fun hg9=>by
      have hq9:=hg9;try simp only [oz] at hq9
      exact sy hg9<|sf mH rfl<|sy hg9<|sl S 1 aD G G G<|sy hg9<|sr 1 G<|sz 3 G G G)<|so G G G<|sr 1 G<|sg 5 13 47 52 false G G (fun hg14=>by
      have hq14:=hg14;try simp only [oz] at hq14
      exact sy hg14<|sf lA rfl<|sy hg14<|sl S 1 aD G G G<|sy hg14<|sf mH rfl<|sy hg14<|sl S 1 aD G G G<|sy hg14<|sr 1 G<|sz 5 G G G)<|so G G G<|sr 1 G<|sg 3 20 54 57 false G G (fun hg21=>by
      have hq21:=hg21;try simp only [oz] at hq21
      exact sy hg21<|sf lA rfl<|sy hg21<|sl S 1 aD G G G<|sy hg21<|sr 1 G<|sz 3 G G G)<|so G G G<|sE ?_;clear H a;intro a H
  refine k19 _ _ ?_;refine cond_ H rfl (fun hc5=>?_) (fun hc5=>?_)
  ·skip
   try simp only [oz] at hc5
   replace H:=H.keep [] rfl;refine sS H fun K20 k20=>sr 4 G<|sE ?_;clear H a;intro a H
   refine k20 _ ?_;refine wp_ret ?_;refine ret4 (fn:=Tryz.f70) rfl H rfl rfl rfl rfl ?_;have e9:=oF hdE (Ig (l:=l) (k:=k) (by omega) (Rc (by rcases hc5 with ((h|h)|h)|h;(have:=Gj h;omega);omega;omega;omega)));rw [qQ (by rw [e9];decide),e9];exact ⟨rfl,(S.sel [] rfl rfl)⟩
  try simp only [oz] at hc5
  refine wp_skip ?_;refine k17 _ _ ?_;refine sO H<|sd (aI G G (by unfold i64ok;omega))<|sr 1 G<|sE ?_;clear H a;intro a H
  exact k14 (g1-1) (k+1) a _ (by omega) (⟨by omega,by omega,cM hp.2.2 (kI.2 (by have h9:=vZ.1 hc5.1.1.1;omega))⟩) (S.sel [2] G G) (H.keep [30,1,2,3,28,29] rfl)
 refine wp_exit ?_;refine k12 _ _ ?_;refine wp_seq_k fun K22 k22=>?_
 refine sS H fun K23 k23=>sr 1 G<|sL iZ rfl<|sr 1 G<|sE ?_;clear H a;intro a H
 refine k23 _ ?_;refine wp_block ?_;have hpr:allN (fun k=>prmOk P (l.getD k aFj)) l.length=true:=by rw [show l.length=k by omega];exact hp.2.2
 have hkE:=wB hdE (Ih hpr (by omega))
 refine loop_st (X:=Nat) (R0:=_) [2,3,60,61] H rfl (fun h=>[(62,.int .i64 (h:Int))]) (fun h=>[]) (fun g h=>h≤day.length∧g+h=day.length∧∀ q,q<h→∀ j,j<l.length→eL P ps (day.getD q aFm) q (l.getD j aFj)=false) (day.length) 0 ?_ (S.sel [0] G G) (H.keep [62,2,3,60,61] rfl) ?_
 · exact ⟨by omega,by omega,fun q hq=>absurd hq (Nat.not_lt_zero q)⟩
 clear H S a;intro g2 x2 a w2 hp S H K24 k24;obtain ⟨h,rfl⟩:∃ y,y=x2:=⟨_,rfl⟩;obtain ⟨hhl,hgh,hB⟩:=hp;refine sS H fun K25 k25=>sr 1 G<|sE ?_;clear H a;intro a H
 refine k25 _ ?_;refine wp_seq_k fun K26 k26=>?_
 refine condL H rfl (fun hc6=>?_) (fun hc6=>?_)
 ·skip
  have hdo:=hdk.2 h (by omega)
  refine wp_skip ?_;refine k26 _ _ ?_;refine wp_seq_k fun K27 k27=>?_
  refine wp_block ?_;refine seq_list fun K28 k28=>?_
  refine ls 3 H<|sr 1 G<|si iZ iY G G (hday.adr (by omega)) (by omega)<|sd ((aU zE iY rfl S hday (by omega) (by omega)))<|sE ?_;clear H a;intro a H
  refine aJ H rfl S vH ?_;intro b13 _ a hb13 hbw13 S H
  refine ls 1 H<|sr 1 G<|sE ?_;clear H a;intro a H
  refine aE H S (i:=0) G G G G iY G G ?_
  clear H a S;intro _ a S H;refine k28 _ _ ?_;replace H:=H.keep [2,3,12,13,60,61,62] rfl;refine sS H fun K29 k29=>sr 1 G<|sL gO rfl<|sr 1 G<|sE ?_;clear H a;intro a H
  refine k29 _ ?_;refine wp_block ?_;refine loop_st (X:=Nat) (R0:=_) [2,3,12,13,60,61,62,67,68] H rfl (fun i=>[(69,.int .i64 (i:Int))]) (fun i=>[]) (fun g i=>i≤l.length∧g+i=l.length∧∀ j,j<i→eL P ps (day.getD h aFm) h (l.getD j aFj)=false) (l.length) 0 ?_ (S.sel [0,1] G G) (H.keep [69,2,3,12,13,60,61,62,67,68] rfl) ?_
  · exact ⟨by omega,by omega,fun q hq=>absurd hq (Nat.not_lt_zero q)⟩
  clear H S a;intro g3 x3 a w3 hp S H K30 k30;obtain ⟨i,rfl⟩:∃ y,y=x3:=⟨_,rfl⟩;refine sS H fun K31 k31=>sr 1 G<|sE ?_;clear H a;intro a H
  refine k31 _ ?_;refine wp_seq_k fun K32 k32=>?_
  refine condL H rfl (fun hc7=>?_) (fun hc7=>?_)
  ·skip
   have hpi:=kI.1 (bI.1 hpr i (by omega))
   refine wp_skip ?_;refine k32 _ _ ?_;refine wp_seq_k fun K33 k33=>?_
   refine wp_block ?_;refine seq_list fun K34 k34=>?_
   refine ls 3 H<|sr 1 G<|si gO fW G G (hl.adr (by omega)) (by omega)<|sd ((aU rO fW rfl S hl (by omega) (by omega)))<|sE ?_;clear H a;intro a H
   refine aJ H rfl S sY ?_;intro b15 _ a hb15 hbw15 S H
   refine ls 1 H<|sr 1 G<|sE ?_;clear H a;intro a H
   refine aE H S (i:=0) G G G G fW G G ?_
   clear H a S;intro _ a S H;refine k34 _ _ ?_;replace H:=H.keep [2,3,12,13,14,15,60,61,62,67,68,69] rfl;refine seq_list fun K35 k35=>?_
   refine ls 5 H<|sr 1 G<|sf mH rfl<|sl S 0 aD G G G<|sf lA rfl<|sl S 0 aD G G G<|sE ?_;clear H a;intro a H
   refine aA H G G Tryz.func104 G G (bY _ _ _ _) ?_;clear H a
   rintro _ _ a ⟨rfl,rfl⟩ H;refine ls 1 H<|sr 1 G<|sE ?_;clear H a;intro a H
   apply bR (i:=6) (g:=80) (t:=96) (b:=true) 16 H S G G (by kernel_rfl) (by kernel_rfl) G G
   case h1=>
    intro hg7;have hq7:=hg7;try simp only [oz] at hq7
    refine ls 14 H<|sy hg7<|sd ((aB bW cQ rfl S (i:=2) G G))<|sy hg7<|sf nE rfl<|sy hg7<|sl S 1 aD G G G<|sy hg7<|sf Of rfl<|sy hg7<|sl S 1 iP G G G<|sy hg7<|sr 1 G<|sg 2 12 86 88 true G G (fun hg13=>by
        have hq13:=hg13;try simp only [oz] at hq13
        exact sy hg13<|sf Hm rfl<|sy hg13<|sl S 0 iP G G G<|sz 2 G G G)<|sy hg7<|sa G G G<|sy hg7<|sd (aN Pk G G)<|sy hg7<|sf qC rfl<|sy hg7<|sl S 0 aD G G G<|sy hg7<|sf qD rfl<|sy hg7<|sl S 0 aD G G G<|sE ?_;intro a H
    refine cF H G G (by assumption) ?_
    refine aA H G G Tryz.func107 G G (Ai P ps PA pc xs XA xc (day.getD h aFm).out ((day.getD h aFm).help&&(l.getD i aFj).helped) (l.getD i aFj).fr (l.getD i aFj).to _ (hps.now S) hpn (hxs.now S) hxn hV hdo.1.1 (by omega) (by omega)) ?_
    rintro _ _ a ⟨rfl,hdj,S2⟩ H;replace S:=S.call S2;clear S2;refine ls 1 H<|sy hg7<|sr 1 G<|sE ?_;intro a H
    exact wpList_nil ⟨H.strip 15 G G,(S.sel [0,1,2] G G)⟩
   clear H a S;intro a _ H S;refine ls 1 H<|sa G G G<|sE ?_;clear H a;intro a H
   refine k35 _ _ ?_;refine cond_ H rfl (fun hc8=>?_) (fun hc8=>?_)
   ·skip
    try simp only [oz] at hc8
    replace H:=H.keep [12,14] rfl;refine sS H fun K36 k36=>sr 6 G<|sE ?_;clear H a;intro a H
    refine k36 _ ?_;refine wp_ret ?_;refine ret4 (fn:=Tryz.f70) rfl H G G G G ?_;rw [Vw hkE (by omega) (by omega) hB hp.2.2 (Re hc8.1 (by omega))];exact ⟨rfl,(S.sel [] G G)⟩
   try simp only [oz] at hc8
   refine wp_skip ?_;refine k33 _ _ ?_;refine sO H<|sd (aI G G (by unfold i64ok;omega))<|sr 1 G<|sE ?_;clear H a;intro a H
   exact k30 (g3-1) (i+1) a _ (by omega) (⟨by omega,by omega,Vx hp.2.2 (by rcases hc8 with h9|h9;exact Lg (by omega);exact Lh (by omega))⟩) (S.sel [1,2] rfl rfl) (H.keep [69,2,3,12,13,60,61,62,67,68] rfl)
  refine wp_exit ?_;refine k27 _ _ ?_;replace H:=H.keep [2,3,60,61,62] rfl;refine sO H<|sd (aI G G (by unfold i64ok;omega))<|sr 1 G<|sE ?_;clear H a;intro a H
  exact k24 (g2-1) (h+1) a _ (by omega) (⟨by omega,by omega,Lf hB hp.2.2 (by omega)⟩) (S.sel [1] G G) (H.keep [62,2,3,60,61] rfl)
 refine wp_exit ?_;refine k22 _ _ ?_;refine sS H fun K39 k39=>sr 4 G<|sE ?_;clear H a;intro a H
 refine k39 _ ?_;refine wp_ret ?_;refine ret4 (fn:=Tryz.f70) rfl H rfl rfl rfl rfl ?_;obtain rfl:h=day.length:=by omega
 rw [Rb hkE hB];exact ⟨rfl,(S.sel [] G G)⟩
end
section
theorem Aj {l:List Int} (h:∀ k,k<l.length→0≤l.getD k 0∧l.getD k 0≤1000):∀ k,k≤l.length→0≤sumI l k∧sumI l k≤1000*k:=by
  intro k;induction k with
  | zero=>intro _;simp [sumI,sm]
  | succ k ih=>
    intro hk;have h1:=ih (by omega);have h2:=h k (by omega);unfold sumI at *;rw [sm];push_cast;omega
theorem yG (P T:Nat) (ps:List Psg) (PA:Option Addr) (pc:Nat) (xs:List Int) (XA:Option Addr) (xc:Nat) (out:Int) (pe:List Int) (BA:Option Addr) (bc:Nat) (w:World) (hps:InS w noF 7 PA ps.length (pcell ps)) (hpn:ps.length≤9223372036854775807) (hxs:InS w noF 1 XA xs.length (icl xs)) (hxn:xs.length≤9223372036854775807) (hpe:InS w noF 1 BA pe.length (icl pe)) (hpl:pe.length=P) (hV:StV P ps xs) (hou:0≤out∧out≤4095) (hpp:∀ k,k<pe.length→0≤pe.getD k 0∧pe.getD k 0≤1000) (hT:T≤60) :
  Calls Tryz.prog 141 [.agg [.int .i64 (P:Int),.slice PA ps.length pc,.slice XA xs.length xc].toArray,.int .i64 out,.slice BA pe.length bc,.int .i64 (T:Int)].toArray w (Ret fun u w'=>∃ b31 EA A' c',u = .pointer (some ⟨b31,0,none⟩)∧St w noF [boxM b31 291 [.int .i64 (P:Int),.slice PA ps.length pc,.slice XA xs.length xc,.int .i64 (T:Int),.slice EA (layN P T pe xs (hds out xs ps)).k (layN P T pe xs (hds out xs ps)).k,.int .i64 (((P*(T+1)):Nat):Int),.int .i64 (((P*(T+1))+1:Nat):Int)],ownM 312 1 EA (layN P T pe xs (hds out xs ps)).k (layN P T pe xs (hds out xs ps)).k (hdc A' (layN P T pe xs (hds out xs ps)).n c'),ragM 314 7 (fun q=>q<(layN P T pe xs (hds out xs ps)).k) A' (layN P T pe xs (hds out xs ps)).n c' (edgeC (layN P T pe xs (hds out xs ps)) (layT P T pe xs (hds out xs ps)).room (layT P T pe xs (hds out xs ps)).mv)] w'):=by
 have h:=Qy P T ps PA pc xs XA xc out pe BA bc w hps hpn hxs hxn (fun k hk h3=>by have:=dL.1 (hV.pas k hk);omega) hou.1 hpe hpl (by have:=hV.size;omega) hT hV.size.2.2 (Fy hV)
 refine sB h fun u w' ⟨b31,EA,A',c',h1,S⟩=>⟨b31,EA,A',c',h1,?_⟩
 rw [Fv (joins (jAll P T pe xs (hds out xs ps))) (P*(T+1)+2)] at S;exact S
theorem Rf (pe:List Int) (BA:Option Addr) (bc:Nat) (w:World) (hpe:InS w noF 1 BA pe.length (icl pe)) (hpp:∀ k,k<pe.length→0≤pe.getD k 0∧pe.getD k 0≤1000) (hpn:pe.length≤1000) :
    Calls Tryz.prog 143 [.slice BA pe.length bc].toArray w (Ret (fun v w'=>v = .int .i64 (sumI pe pe.length)∧St w noF [] w')):=by
 refine enter Tryz.func143 rfl Tryz.ntmps143 rfl (fun a H=>?_)
 have S:=St.start w
 refine sS H fun K1 k1=>sr 1 G<|sE ?_;clear H a;intro a H
 refine k1 _ ?_;refine sS H fun K2 k2=>sr 1 G<|sE ?_;clear H a;intro a H
 refine k2 _ ?_;refine wp_seq_k fun K3 k3=>?_
 refine sS H fun K4 k4=>sr 1 G<|sL aP rfl<|sr 1 G<|sE ?_;clear H a;intro a H
 refine k4 _ ?_;refine wp_block ?_;refine loop_st (X:=Nat) (R0:=_) [6,7] H rfl (fun k=>[(3,.int .i64 (sumI pe k)),(8,.int .i64 (k:Int))]) (fun k=>[]) (fun g k=>k≤pe.length∧g+k=pe.length) (pe.length) 0 ?_ (S.sel [] G G) (H.keep [3,8,6,7] rfl) ?_
 · exact ⟨by omega,by omega⟩
 clear H S a;intro g1 x1 a w1 hp S H K5 k5;obtain ⟨k,rfl⟩:∃ y,y=x1:=⟨_,rfl⟩;refine sS H fun K6 k6=>sr 1 G<|sE ?_;clear H a;intro a H
 refine k6 _ ?_;refine wp_seq_k fun K7 k7=>?_
 refine condL H rfl (fun hc1=>?_) (fun hc1=>?_)
 ·skip
  refine wp_skip ?_;refine k7 _ _ ?_;refine wp_seq_k fun K8 k8=>?_
  refine wp_block ?_;refine sS H fun K9 k9=>si aP aX G G (hpe.adr (by omega)) (by omega)<|slm aD rfl (hpe.rd S (by omega) (by omega))<|sr 1 G<|sE ?_;clear H a;intro a H
  refine k9 _ ?_;have hsb:=Aj hpp k (by omega);have hsk:=hpp k (by omega);refine sO H<|sr 2 G<|sd (aI G G (by unfold i64ok;omega))<|sr 1 G<|sE ?_;clear H a;intro a H
  refine k8 _ _ ?_;replace H:=H.keep [3,6,7,8] rfl;refine sO H<|sd (aI G G (by unfold i64ok;omega))<|sr 1 G<|sE ?_;clear H a;intro a H
  exact k5 (g1-1) (k+1) a _ (by omega) (⟨by omega,by omega⟩) (S.sel [] G G) (H.keep [3,8,6,7] rfl)
 refine wp_exit ?_;refine k3 _ _ ?_;refine sS H fun K12 k12=>sr 2 G<|sE ?_;clear H a;intro a H
 refine k12 _ ?_;refine wp_ret ?_;refine ret1 (fn:=Tryz.f143) rfl H rfl ?_;have hk9:k=pe.length:=by omega
 subst hk9;exact ⟨rfl,(S.sel [] G G)⟩
theorem Rg (P T:Nat) (ps:List Psg) (PA:Option Addr) (pc:Nat) (xs:List Int) (XA:Option Addr) (xc:Nat) (out:Int) (pe:List Int) (BA:Option Addr) (bc:Nat) (w:World) (hps:InS w noF 7 PA ps.length (pcell ps)) (hpn:ps.length≤9223372036854775807) (hxs:InS w noF 1 XA xs.length (icl xs)) (hxn:xs.length≤9223372036854775807) (hpe:InS w noF 1 BA pe.length (icl pe)) (hpl:pe.length=P) (hV:StV P ps xs) (hou:0≤out∧out≤4095) (hpp:∀ k,k<pe.length→0≤pe.getD k 0∧pe.getD k 0≤1000) (hT:T≤60) :
    Calls Tryz.prog 105 [.agg [.int .i64 (P:Int),.slice PA ps.length pc,.slice XA xs.length xc].toArray,.int .i64 out,.slice BA pe.length bc,.int .i64 (T:Int)].toArray w (Ret (fun u w'=>u = .bool (decide (mfv P T pe xs (hds out xs ps)=sumI pe pe.length))∧St w noF [] w')):=by
 have hO9:=Pw (T:=T) (out:=out) hV hpp
 have hC:P*(T+1)≤10*61:=Nat.mul_le_mul (by have:=hV.size;omega) (by omega)
 refine enter Tryz.func105 rfl Tryz.ntmps105 rfl (fun a H=>?_)
 have S:=St.start w
 refine seq_list fun K1 k1=>?_
 refine aO H rfl S G G ?_;intro b4 _ a hb4 hbw4 S H
 refine ls 1 H<|sr 1 G<|sE ?_;intro a H
 refine k1 _ _ ?_;replace H:=H.keep [1,2,3,4] rfl;refine seq_list fun K2 k2=>?_
 refine ls 4 H<|sd ((aB bW cQ rfl S (i:=0) G G))<|sr 3 G<|sE ?_;intro a H
 refine aA H G G Tryz.func141 G G (yG P T ps PA pc xs XA xc out pe BA bc _ (hps.now S) hpn (hxs.now S) hxn (hpe.now S) hpl hV hou hpp hT) ?_;clear H a
 rintro _ _ a ⟨b31,EA,A',c',rfl,S2⟩ H;replace S:=S.call S2;clear S2;have S1:=(S.sel [0,1,2] rfl rfl);refine aA H rfl rfl Tryz.func142 rfl rfl (Cu (layN P T pe xs (hds out xs ps)) (layT P T pe xs (hds out xs ps)).room (layT P T pe xs (hds out xs ps)).mv b31 (P:Int) (T:Int) _ _ EA A' c' (P*(T+1)) ((P*(T+1))+1) _ _ S1.startR hO9.wf hO9.ok (by show _<P*(T+1)+2;omega) (by show _<P*(T+1)+2;omega) (by omega) (by show P*(T+1)+2≤_;omega) (by have:=hO9.beg;have:=hV.size;omega)) ?_;clear H a;rintro _ _ a ⟨v,r,rfl,hF,h0v,⟨L,hLv,hLx⟩,S2⟩ H;replace S:=(S.sel [0,1,2,3] rfl rfl).callR (M:=[_,_,_]) S2;clear S1 S2;refine ls 1 H<|sr 1 G<|sE ?_;intro a H
 refine aA H G G Tryz.func143 G G (Rf pe BA bc _ (hpe.now S) hpp (by have:=hV.size;omega)) ?_;clear H a
 rintro _ _ a ⟨rfl,S2⟩ H;replace S:=S.call S2;clear S2;refine ls 2 H<|sr 2 G<|sE ?_;intro a H
 refine k2 _ _ ?_;refine wp_ret ?_;refine ret1 (fn:=Tryz.f105) rfl H rfl ?_;have hE:EndP P T pe xs (hds out xs ps) v r L:=⟨hF,h0v,hLv,hLx⟩;rw [Px hO9 hE];exact ⟨rfl,(S.sel [] G G)⟩
theorem Li (pl:Int) (ps:List Psg) (PA:Option Addr) (pc:Nat) (xs:List Int) (XA:Option Addr) (xc:Nat) (out:Int) (pe:List Int) (BA:Option Addr) (bc:Nat) (T0:Int) (w:World) (hps:InS w noF 7 PA ps.length (pcell ps)) (hpn:ps.length≤9223372036854775807) (hxs:InS w noF 1 XA xs.length (icl xs)) (hxn:xs.length≤9223372036854775807) (hpe:InS w noF 1 BA pe.length (icl pe)) (hpen:pe.length≤9223372036854775807) :
    Calls Tryz.prog 146 [.agg [.int .i64 pl,.slice PA ps.length pc,.slice XA xs.length xc].toArray,.int .i64 out,.slice BA pe.length bc,.int .i64 T0].toArray w (Ret (fun u w'=>(dO pl ps xs out pe T0≠0∧u = .tuple #[.int .i64 0,.int .i64 (dO pl ps xs out pe T0)]∧St w noF [] w')∨(dO pl ps xs out pe T0=0∧u = .tuple #[.int .i64 (mfv pl.toNat T0.toNat pe xs (hds out xs ps)),.int .i64 0]∧St w noF [] w'))):=by
 refine enter Tryz.func146 rfl Tryz.ntmps146 rfl (fun a H=>?_)
 have S:=St.start w
 refine seq_list fun K1 k1=>?_
 refine aO H rfl S G G ?_;intro b4 _ a hb4 hbw4 S H
 refine ls 2 H<|sr 2 G<|sE ?_;intro a H
 refine k1 _ _ ?_;refine wp_seq_k fun K2 k2=>?_
 refine seq_list fun K3 k3=>?_
 refine ls 4 H<|sd ((aB bW cQ rfl S (i:=0) G G))<|sr 3 G<|sE ?_;intro a H
 refine aA H G G Tryz.func177 G G (Ah pl ps PA pc xs XA xc out pe BA bc T0 _ (hps.now S) hpn (hxs.now S) hxn (hpe.now S) hpen) ?_;clear H a
 rintro _ _ a ⟨rfl,S2⟩ H;replace S:=S.call S2;clear S2;refine ls 1 H<|sr 1 G<|sE ?_;intro a H
 refine k3 _ _ ?_;replace H:=H.keep [1,2,3,4,10] rfl;refine sS H fun K4 k4=>sr 2 G<|sE ?_;intro a H
 refine k4 _ ?_;refine condN H rfl (fun hc1=>?_) (fun hc1=>?_)
 ·skip
  refine sS H fun K5 k5=>sr 3 G<|sE ?_;intro a H
  refine k5 _ ?_;refine wp_ret ?_;refine ret2 (fn:=Tryz.f146) rfl H G G ?_;exact .inl ⟨hc1,rfl,(S.sel [] G G)⟩
 obtain ⟨hst,hou,hcr,hti⟩:=jC hc1;have hV0:=jW hst;obtain ⟨P,rfl⟩:∃ P:Nat,pl=P:=⟨pl.toNat,by have:=hV0.size;omega⟩;have hV:=hV0;obtain ⟨hpp,hpl'⟩:=qN hcr;have hpl:pe.length=P:=by omega
 obtain ⟨T,rfl⟩:∃ T:Nat,T0=T:=⟨T0.toNat,by omega⟩;have hT:T≤60:=by omega
 have hO9:=Pw (T:=T) (out:=out) hV hpp
 have hC:P*(T+1)≤10*61:=Nat.mul_le_mul (by have:=hV.size;omega) (by omega)
 refine wp_skip ?_;refine k2 _ _ ?_;replace H:=H.keep [1,2,3,4] rfl;refine seq_list fun K6 k6=>?_
 refine ls 4 H<|sd ((aB bW cQ rfl S (i:=0) G G))<|sr 3 G<|sE ?_;intro a H
 refine aA H G G Tryz.func141 G G (yG P T ps PA pc xs XA xc out pe BA bc _ (hps.now S) hpn (hxs.now S) hxn (hpe.now S) hpl hV hou hpp hT) ?_;clear H a
 rintro _ _ a ⟨b31,EA,A',c',rfl,S2⟩ H;replace S:=S.call S2;clear S2;have S1:=(S.sel [0,1,2] rfl rfl);refine aA H rfl rfl Tryz.func142 rfl rfl (Cu (layN P T pe xs (hds out xs ps)) (layT P T pe xs (hds out xs ps)).room (layT P T pe xs (hds out xs ps)).mv b31 (P:Int) (T:Int) _ _ EA A' c' (P*(T+1)) ((P*(T+1))+1) _ _ S1.startR hO9.wf hO9.ok (by show _<P*(T+1)+2;omega) (by show _<P*(T+1)+2;omega) (by omega) (by show P*(T+1)+2≤_;omega) (by have:=hO9.beg;have:=hV.size;omega)) ?_;clear H a;rintro _ _ a ⟨v,r,rfl,hF,h0v,⟨L,hLv,hLx⟩,S2⟩ H;replace S:=(S.sel [0,1,2,3] rfl rfl).callR (M:=[_,_,_]) S2;clear S1 S2;refine ls 2 H<|sr 2 G<|sE ?_;intro a H
 refine k6 _ _ ?_;refine wp_ret ?_;refine ret2 (fn:=Tryz.f146) rfl H G G ?_;have hE:EndP P T pe xs (hds out xs ps) v r L:=⟨hF,h0v,hLv,hLx⟩;rw [Int.toNat_natCast,Int.toNat_natCast,Px hO9 hE];exact .inr ⟨hc1,rfl,(S.sel [] G G)⟩
end
section
noncomputable def allB (P T:Nat) (ps:List Psg) (xs:List Int) (out:Int) (pe:List Int):Bool:=decide (mfv P T pe xs (hds out xs ps)=sumI pe pe.length)
noncomputable def safeN (P T:Nat) (ps:List Psg) (xs:List Int) (day:List Hq):Nat:=fstB (fun k=>!allB P T ps xs (day.getD k aFm).out (day.getD k aFm).pe) day.length
noncomputable def safeV (pl:Int) (ps:List Psg) (xs:List Int) (day:List Hq) (T0:Int):Int×Bool×Int:=
 if dayE pl ps xs day≠0 then (0,false,dayE pl ps xs day) else if ¬ (0≤T0∧T0≤60) then (0,false,1)
 else if safeN pl.toNat T0.toNat ps xs day<day.length then ((safeN pl.toNat T0.toNat ps xs day:Int),false,0) else (0,true,0)
section
variable {P T:Nat} {ps:List Psg} {xs:List Int} {day:List Hq} {h:Nat}
theorem Da {pl T0:Int} (he:dayE pl ps xs day≠0):safeV pl ps xs day T0=(0,false,dayE pl ps xs day):=by unfold safeV;rw [if_pos he]
theorem Rh {pl T0:Int} (he:dayE pl ps xs day=0) (hT:¬ (0≤T0∧T0≤60)):safeV pl ps xs day T0=(0,false,1):=by unfold safeV;rw [if_neg (by omega),if_pos hT]
theorem Vy (he:dayE P ps xs day=0) (hT:T≤60) (hh:h<day.length) (h1:∀ q,q<h→allB P T ps xs (day.getD q aFm).out (day.getD q aFm).pe=true) (h2:allB P T ps xs (day.getD h aFm).out (day.getD h aFm).pe=false):safeV P ps xs day T=((h:Int),false,0):=by
 have e2:safeN P T ps xs day=h:=pB (fun q hq=>by rw [h1 q hq];rfl) (by rw [h2];rfl) hh
 unfold safeV
 rw [if_neg (by omega),if_neg (by omega),Int.toNat_natCast,Int.toNat_natCast,e2,if_pos hh]
theorem Ri (he:dayE P ps xs day=0) (hT:T≤60) (h1:∀ q,q<day.length→allB P T ps xs (day.getD q aFm).out (day.getD q aFm).pe=true):safeV P ps xs day T=(0,true,0):=by
 have e2:safeN P T ps xs day=day.length:=jX (fun q hq=>by rw [h1 q hq];rfl)
 unfold safeV
 rw [if_neg (by omega),if_neg (by omega),Int.toNat_natCast,Int.toNat_natCast,e2,if_neg (by omega)]
theorem Lj {f:Nat→Bool} (h1:∀ q,q<h→f q=true) (h2:f h=true):∀ q,q<h+1→f q=true:=fun q hq=>by
 by_cases e:q=h
 ·subst e;exact h2
 ·exact h1 q (by omega)
end
section
variable {P:Nat} {ps:List Psg} {xs:List Int} {out:Int} {f:Nat→Bool}
end
end
section
theorem Ll (pl:Int) (ps:List Psg) (PA:Option Addr) (pc:Nat) (xs:List Int) (XA:Option Addr) (xc:Nat) (day:List Hq) (HA:Option Addr) (hcp:Nat) (DA:Nat→Option Addr) (dc:Nat→Nat) (T0:Int) (w:World) (hps:InS w noF 7 PA ps.length (pcell ps)) (hpn:ps.length≤9223372036854775807) (hxs:InS w noF 1 XA xs.length (icl xs)) (hxn:xs.length≤9223372036854775807) (hday:InS w noF 3 HA day.length (hcl day DA dc)) (hdn:day.length≤9223372036854775807) (hdp:∀ k,k<day.length→InS w noF 1 (DA k) (day.getD k aFm).pe.length (icl (day.getD k aFm).pe)) (hdl:∀ k,k<day.length→(day.getD k aFm).pe.length≤9223372036854775807) :
    Calls Tryz.prog 69 [.agg [.int .i64 pl,.slice PA ps.length pc,.slice XA xs.length xc].toArray,.slice HA day.length hcp,.int .i64 T0].toArray w (Ret (fun u w'=>u = .tuple #[.int .i64 (safeV pl ps xs day T0).1,.bool (safeV pl ps xs day T0).2.1,.int .i64 (safeV pl ps xs day T0).2.2]∧St w noF [] w')):=by
 refine enter Tryz.func69 rfl Tryz.ntmps69 rfl (fun a H=>?_)
 have S:=St.start w
 refine seq_list fun K1 k1=>?_
 refine aO H rfl S G G ?_;intro b3 _ a hb3 hbw3 S H
 refine ls 3 H<|sr 3 G<|sE ?_;clear H a;intro a H
 refine k1 _ _ ?_;refine wp_seq_k fun K2 k2=>?_
 refine seq_list fun K3 k3=>?_
 refine ls 1 H<|sd ((aB bW cQ rfl S (i:=0) G G))<|sE ?_;clear H a;intro a H
 refine aA H G G Tryz.func102 G G (mK pl ps PA pc xs XA xc _ (hps.now S) hpn (hxs.now S) hxn) ?_;clear H a
 rintro _ _ a ⟨rfl,S2⟩ H;replace S:=S.call S2;clear S2;refine ls 1 H<|sr 1 G<|sE ?_;clear H a;intro a H
 refine k3 _ _ ?_;refine sS H fun K4 k4=>sr 2 G<|sE ?_;clear H a;intro a H
 refine k4 _ ?_;refine condN H rfl (fun hc1=>?_) (fun hc1=>?_)
 ·skip
  replace H:=H.keep [8] rfl;refine sS H fun K5 k5=>sr 4 G<|sE ?_;clear H a;intro a H
  refine k5 _ ?_;refine wp_ret ?_;refine ret3 (fn:=Tryz.f69) rfl H G G G ?_;have e9:dayE pl ps xs day=stE pl ps xs:=by unfold dayE;rw [if_pos hc1]
  rw [Da (by rw [e9];exact hc1),e9];exact ⟨rfl,(S.sel [] G G)⟩
 have hst:stE pl ps xs=0:=by omega
 have hV0:=jW hst
 obtain ⟨P,rfl⟩:∃ P:Nat,pl=P:=⟨pl.toNat,by have:=hV0.size;omega⟩;have hV:=hV0;have hP10:=hV.size;refine wp_skip ?_;refine k2 _ _ ?_;refine wp_seq_k fun K6 k6=>?_
 refine seq_list fun K7 k7=>?_
 refine ls 2 H<|sd ((aB bW cQ rfl S (i:=0) G G))<|sr 1 G<|sE ?_;clear H a;intro a H
 refine aA H G G Tryz.func103 G G (wC P ps PA pc xs XA xc day HA hcp DA dc _ (hps.now S) hpn (hxs.now S) hxn (hday.now S) hdn (fun k hk=>(hdp k hk).now S) hdl) ?_;clear H a
 rintro _ _ a ⟨rfl,S2⟩ H;replace S:=S.call S2;clear S2;refine ls 1 H<|sr 1 G<|sE ?_;clear H a;intro a H
 refine k7 _ _ ?_;refine cond_ H rfl (fun hc2=>?_) (fun hc2=>?_)
 ·skip
  try simp only [oz] at hc2
  replace H:=H.keep [] rfl;refine sS H fun K8 k8=>sr 3 G<|sE ?_;clear H a;intro a H
  refine k8 _ ?_;refine wp_ret ?_;refine ret3 (fn:=Tryz.f69) rfl H G G G ?_;have e9:dayE P ps xs day=81:=by unfold dayE;rw [if_neg (by omega),if_neg (by rw [hc2];simp)]
  rw [Da (by rw [e9];decide),e9];exact ⟨rfl,(S.sel [] G G)⟩
 try simp only [oz] at hc2
 have hdE:=sC hst hc2
 have hdk:=vX hc2
 refine wp_skip ?_;refine k6 _ _ ?_;refine wp_seq_k fun K9 k9=>?_
 refine sS H fun K10 k10=>sr 1 G<|sc rfl Tryz.func104 G G (bY _ _ _ _)<|sr 1 G<|sE ?_;clear H a;intro a H
 refine k10 _ ?_;refine cond_ H rfl (fun hc3=>?_) (fun hc3=>?_)
 ·skip
  try simp only [oz] at hc3
  refine sS H fun K11 k11=>sr 3 G<|sE ?_;clear H a;intro a H
  refine k11 _ ?_;refine wp_ret ?_;refine ret3 (fn:=Tryz.f69) rfl H G G G ?_;rw [Rh hdE (by omega)];exact ⟨rfl,(S.sel [] G G)⟩
 try simp only [oz] at hc3
 obtain ⟨T,rfl⟩:∃ T:Nat,T0=T:=⟨T0.toNat,by omega⟩;have hT:T≤60:=by omega
 refine wp_skip ?_;refine k9 _ _ ?_;refine wp_seq_k fun K12 k12=>?_
 replace H:=H.keep [1,2,3] rfl;refine sS H fun K13 k13=>sr 1 G<|sL iZ rfl<|sr 1 G<|sE ?_;clear H a;intro a H
 refine k13 _ ?_;refine wp_block ?_;refine loop_st (X:=Nat) (R0:=_) [2,3,23,24] H rfl (fun k=>[(25,.int .i64 (k:Int))]) (fun k=>[]) (fun g k=>k≤day.length∧g+k=day.length∧∀ q,q<k→allB P T ps xs (day.getD q aFm).out (day.getD q aFm).pe=true) (day.length) 0 ?_ (S.sel [0] G G) (H.keep [25,2,3,23,24] rfl) ?_
 · exact ⟨by omega,by omega,fun q hq=>absurd hq (Nat.not_lt_zero q)⟩
 clear H S a;intro g1 x1 a w1 hp S H K14 k14;obtain ⟨k,rfl⟩:∃ y,y=x1:=⟨_,rfl⟩;refine sS H fun K15 k15=>sr 1 G<|sE ?_;clear H a;intro a H
 refine k15 _ ?_;refine wp_seq_k fun K16 k16=>?_
 refine condL H rfl (fun hc4=>?_) (fun hc4=>?_)
 ·skip
  refine wp_skip ?_;refine k16 _ _ ?_;refine wp_seq_k fun K17 k17=>?_
  refine wp_block ?_;refine seq_list fun K18 k18=>?_
  refine ls 3 H<|sr 1 G<|si iZ iY G G (hday.adr (by omega)) (by omega)<|sd ((aU zE iY rfl S hday (by omega) (by omega)))<|sE ?_;clear H a;intro a H
  refine aJ H rfl S vH ?_;intro b10 _ a hb10 hbw10 S H
  refine ls 1 H<|sr 1 G<|sE ?_;clear H a;intro a H
  refine aE H S (i:=0) G G G G iY G G ?_
  clear H a S;intro _ a S H;refine k18 _ _ ?_;have hdo:=hdk.2 k (by omega);obtain ⟨hpp,hpl⟩:=qN hdo.2;replace H:=H.keep [2,3,9,10,23,24,25] rfl;refine seq_list fun K19 k19=>?_
  refine ls 6 H<|sd ((aB bW cQ rfl S (i:=1) G G))<|sf nE rfl<|sl S 0 aD G G G<|sf uW rfl<|sl S 0 bE G G G<|sr 1 G<|sE ?_;clear H a;intro a H
  refine aA H G G Tryz.func105 G G (Rg P T ps PA pc xs XA xc (day.getD k aFm).out (day.getD k aFm).pe (DA k) (dc k) _ (hps.now S) hpn (hxs.now S) hxn ((hdp k (by omega)).now S) (by omega) hV hdo.1 hpp hT) ?_;clear H a
  rintro _ _ a ⟨rfl,S2⟩ H;replace S:=S.call S2;clear S2;refine ls 1 H<|sr 1 G<|sE ?_;clear H a;intro a H
  refine k19 _ _ ?_;refine cond_ H rfl (fun hc5=>?_) (fun hc5=>?_)
  ·skip
   try simp only [oz] at hc5
   replace H:=H.keep [9] rfl;refine sS H fun K20 k20=>sr 4 G<|sE ?_;clear H a;intro a H
   refine k20 _ ?_;refine wp_ret ?_;refine ret3 (fn:=Tryz.f69) rfl H G G G ?_;rw [Vy hdE hT (by omega) hp.2.2 (decide_eq_false hc5)];exact ⟨rfl,(S.sel [] G G)⟩
  try simp only [oz] at hc5
  refine wp_skip ?_;refine k17 _ _ ?_;refine sO H<|sd (aI G G (by unfold i64ok;omega))<|sr 1 G<|sE ?_;clear H a;intro a H
  exact k14 (g1-1) (k+1) a _ (by omega) (⟨by omega,by omega,Lj (f:=fun q=>allB P T ps xs (day.getD q aFm).out (day.getD q aFm).pe) hp.2.2 (decide_eq_true hc5)⟩) (S.sel [1] G G) (H.keep [25,2,3,23,24] rfl)
 refine wp_exit ?_;refine k12 _ _ ?_;refine sS H fun K22 k22=>sr 3 G<|sE ?_;clear H a;intro a H
 refine k22 _ ?_;refine wp_ret ?_;refine ret3 (fn:=Tryz.f69) rfl H rfl rfl rfl ?_;obtain rfl:k=day.length:=by omega
 rw [Ri hdE hT hp.2.2];exact ⟨rfl,(S.sel [] G G)⟩
end
section
def MList (ps:List Psg) (k:Nat) (ml:List Int):Prop:=ml.length≤k∧∀ m,0≤m→(hasI ml m=true↔¬ cntM ps m k=0)
theorem MList.nil {ps:List Psg}:MList ps 0 []:=⟨Nat.le_refl 0,fun m _=>by
 constructor
 ·intro h;cases h
 ·intro h;exact absurd rfl h⟩
theorem yH {ps:List Psg} {m:Int} {k:Nat}:cntM ps m (k+1)=cntM ps m k+(if cH ps k=m then 1 else 0):=rfl
theorem Lm {l:List Int} {x m:Int}:hasI (l++[x]) m=(hasI l m||decide (m=x)):=by unfold hasI;rw [List.any_append];simp
theorem MList.add {ps:List Psg} {k:Nat} {ml:List Int} (h:MList ps k ml):MList ps (k+1) (ml++[cH ps k]):=⟨by rw [List.length_append];have:=h.1;simp;omega,fun m hm=>by
 have h1:=h.2 m hm
 have h2:=Hs (ps:=ps) (m:=m) (k:=k)
 rw [Lm,yH,Bool.or_eq_true,decide_eq_true_eq,h1];by_cases e:cH ps k=m
 ·rw [if_pos e];exact ⟨fun _=>by omega,fun _ => .inr e.symm⟩
 ·rw [if_neg e,Int.add_zero];exact ⟨fun g=>g.resolve_right (fun g=>e g.symm),.inl⟩⟩
theorem MList.skip {ps:List Psg} {k:Nat} {ml:List Int} (h:MList ps k ml) (hk:cH ps k<0):MList ps (k+1) ml:=⟨by have:=h.1;omega,fun m hm=>by
 rw [yH,if_neg (by omega),Int.add_zero];exact h.2 m hm⟩
theorem MList.fresh {ps:List Psg} {k:Nat} {ml:List Int} (h:MList ps k ml) (h0:0≤(ps.getD k aFf).mach) (hh:hasI ml (ps.getD k aFf).mach=false):cntM ps (cH ps k) k=0:=by
 have h9:=h.2 _ h0
 rw [hh] at h9;have h8:cH ps k=(ps.getD k aFf).mach:=rfl;rw [h8];simp only [Bool.false_eq_true,false_iff] at h9;omega
theorem qR {pl:Int} {ps:List Psg} {k:Nat} (h:psgOk pl (ps.getD k aFf)=true) (hz:cntM ps (cH ps k) k=0):pasOk pl ps k=true:=by unfold pasOk;rw [h,decide_eq_true (.inr hz)];rfl
theorem qS {pl:Int} {ps:List Psg} {k:Nat} (h:psgOk pl (ps.getD k aFf)=true) (hz:(ps.getD k aFf).mach<0):pasOk pl ps k=true:=by unfold pasOk;rw [h,decide_eq_true (.inl hz)];rfl
theorem Vz {pl:Int} {ps:List Psg} {k:Nat} {ml:List Int} (hM:MList ps k ml) (hc:((ps.getD k aFf).mach<0∨11<(ps.getD k aFf).mach)∨hasI ml (ps.getD k aFf).mach=true) (hk:(ps.getD k aFf).kind=3∨(ps.getD k aFf).kind=4):pasOk pl ps k=false:=by
  unfold pasOk
  rw [Bool.and_eq_false_iff];by_cases h0:0≤(ps.getD k aFf).mach∧(ps.getD k aFf).mach≤11
  · refine .inr (decide_eq_false ?_)
    have h9:=hM.2 _ h0.1
    have h8:cH ps k=(ps.getD k aFf).mach:=rfl
    rw [h8];rcases hc with h7|h7
    · omega
    · rw [h7] at h9
      simp only [true_iff] at h9
      omega
  · exact .inl (fU (by omega))
theorem Wa {pl:Int} {xs:List Int} {k:Nat} (h:(0≤xs.getD k 0∧xs.getD k 0≤pl-1)∧(k=0∨xs.getD (k-1) 0<xs.getD k 0)):exOk pl xs k=true:=by unfold exOk;rw [decide_eq_true_eq];omega
theorem Wb {pl:Int} {xs:List Int} {k:Nat} (h:¬ ((0≤xs.getD k 0∧xs.getD k 0≤pl-1)∧(k=0∨xs.getD (k-1) 0<xs.getD k 0))):exOk pl xs k=false:=by unfold exOk;rw [decide_eq_false_iff_not];omega
theorem Gk {l:List Int} {x:Int} {v:Value} (hv:v = .int .i64 x):∀ k j,k<l.length+1→j<1→capp l.length (icl l) (fun k' j=>([[v]].getD k' []).getD j undef) k j=icl (l++[x]) k j:=by
  intro k j hk hj;have:j=0:=by omega
  subst this;subst hv;unfold capp icl;by_cases h:k<l.length
  · rw [if_pos h,List.getD_eq_getElem?_getD,List.getD_eq_getElem?_getD,List.getElem?_append_left h]
  · have e:k=l.length:=by omega
    subst e;rw [if_neg h,Nat.sub_self,List.getD_eq_getElem?_getD,List.getElem?_append_right (Nat.le_refl _),Nat.sub_self];rfl
theorem cJ (n lo hi:Int) (w:World) :
    Calls Tryz.prog 32 [.int .i64 n,.int .i64 lo,.int .i64 hi].toArray w (Ret (fun v w'=>v = .bool (decide (lo≤n)&&decide (n≤hi))∧w'=w)):=by
 refine enter Tryz.func32 rfl Tryz.ntmps32 rfl (fun a H=>?_)
 have S:=St.start w
 refine sS H fun K1 k1=>sr 1 G<|sE ?_;intro a H
 refine k1 _ ?_;replace H:=H.keep [0,1,2] rfl;refine sS H fun K2 k2=>sr 4 G<|sg 3 3 10 13 true G G (fun hg4=>sy hg4<|sr 1 G<|sy hg4<|sr 1 G<|sy hg4<|sr 1 G<|sz 3 G G G)<|sa G G G<|sr 1 G<|sE ?_;intro a H
 refine k2 _ ?_;refine wp_ret ?_;refine ret1 (fn:=Tryz.f32) rfl H rfl ?_;exact ⟨rfl,rfl⟩
theorem Ak (n:Int) (w:World) :
    Calls Tryz.prog 65 [.int .i64 n].toArray w (Ret (fun v w'=>v = .bool (decide (0≤n)&&decide (n≤4095))∧w'=w)):=by
 refine enter Tryz.func65 rfl Tryz.ntmps65 rfl (fun a H=>?_)
 have S:=St.start w
 refine sS H fun K1 k1=>sr 1 G<|sE ?_;intro a H
 refine k1 _ ?_;refine sS H fun K2 k2=>sr 1 G<|sc rfl Tryz.func32 G G (cJ _ _ _ _)<|sr 1 G<|sE ?_;intro a H
 refine k2 _ ?_;refine wp_ret ?_;refine ret1 (fn:=Tryz.f65) rfl H rfl ?_;exact ⟨rfl,rfl⟩
theorem Wc (l:List Int) (A:Option Addr) (cp:Nat) (x:Int) (w:World) (hl:InS w noF 1 A l.length (icl l)) (hn:l.length≤9223372036854775807) :
    Calls Tryz.prog 33 [.slice A l.length cp,.int .i64 x].toArray w (Ret (fun u w'=>u = .bool (hasI l x)∧St w noF [] w')):=by
 refine enter Tryz.func33 rfl Tryz.ntmps33 rfl (fun a H=>?_)
 have S:=St.start w
 refine sS H fun K1 k1=>sr 1 G<|sE ?_;intro a H
 refine k1 _ ?_;refine wp_seq_k fun K2 k2=>?_
 refine sS H fun K3 k3=>sr 1 G<|sE ?_;intro a H
 refine k3 _ ?_;refine wp_block ?_;refine loop_st (X:=Nat) (R0:=_) [0,1] H rfl (fun k=>[(5,.int .i64 (k:Int))]) (fun k=>[]) (fun g k=>k≤l.length∧g+k=l.length∧(l.take k).any (fun y=>decide (x=y))=false) (l.length) 0 ?_ (S.sel [] G G) (H.keep [5,0,1] rfl) ?_
 · exact ⟨by omega,by omega,rfl⟩
 clear H S a;intro g1 x1 a w1 hp S H K4 k4;obtain ⟨k,rfl⟩:∃ y,y=x1:=⟨_,rfl⟩;refine wp_seq_k fun K5 k5=>?_
 refine sS H fun K6 k6=>sr 2 G<|sL aP rfl<|sr 1 G<|sE ?_;intro a H
 refine k6 _ ?_;refine condL H rfl (fun hc1=>?_) (fun hc1=>?_)
 ·skip
  refine wp_skip ?_;refine k5 _ _ ?_;refine wp_seq_k fun K7 k7=>?_
  refine wp_block ?_;replace H:=H.keep [0,1,5] rfl;refine sS H fun K8 k8=>sr 2 G<|si aP aX G G (hl.adr (by omega)) (by omega)<|slm aD rfl (hl.rd S (by omega) (by omega))<|sr 2 G<|sE ?_;intro a H
  refine k8 _ ?_;refine condE H rfl (fun hc2=>?_) (fun hc2=>?_)
  ·skip
   refine sS H fun K9 k9=>sr 1 G<|sE ?_;intro a H
   refine k9 _ ?_;refine wp_ret ?_;refine ret1 (fn:=Tryz.f33) rfl H rfl ?_;exact ⟨by rw [Qt (k:=k) (by omega) (by omega)],(S.sel [] G G)⟩
  refine wp_skip ?_;refine k7 _ _ ?_;replace H:=H.keep [0,1,5] rfl;refine sO H<|sr 1 G<|sd (aI G G (by unfold i64ok;omega))<|sr 1 G<|sE ?_;intro a H
  exact k4 (g1-1) (k+1) a _ (by omega) (⟨by omega,by omega,Cw (by omega) hp.2.2 (by omega)⟩) (S.sel [] G G) (H.keep [5,0,1] rfl)
 refine wp_exit ?_;refine k2 _ _ ?_;refine sS H fun K11 k11=>sr 1 G<|sE ?_;intro a H
 refine k11 _ ?_;refine wp_ret ?_;refine ret1 (fn:=Tryz.f33) rfl H rfl ?_;exact ⟨by unfold hasI;rw [←List.take_of_length_le (l:=l) (i:=k) (by omega),hp.2.2],(S.sel [] G G)⟩
theorem nO (pl:Int) (ps:List Psg) (PA:Option Addr) (pc:Nat) (xs:List Int) (XA:Option Addr) (xc:Nat) (w:World) (hps:InS w noF 7 PA ps.length (pcell ps)) (hpn:ps.length≤9223372036854775807) (hxs:InS w noF 1 XA xs.length (icl xs)) (hxn:xs.length≤9223372036854775807) :
    Calls Tryz.prog 8 [.agg [.int .i64 pl,.slice PA ps.length pc,.slice XA xs.length xc].toArray].toArray w (Ret (fun v w'=>v = .int .i64 (stE pl ps xs)∧St w noF [] w')):=by
 refine enter Tryz.func8 rfl Tryz.ntmps8 rfl (fun a H=>?_)
 have S:=St.start w
 refine seq_list fun K1 k1=>?_
 refine aO H rfl S G G ?_;intro b1 _ a hb1 hbw1 S H
 refine ls 1 H<|sr 1 G<|sE ?_;intro a H
 refine k1 _ _ ?_;refine wp_seq_k fun K2 k2=>?_
 replace H:=H.keep [1] rfl
 refine sS H fun K3 k3=>sf dY rfl<|sl S 0 aD G G G<|sc rfl Tryz.func32 G G (cJ _ _ _ _)<|sr 2 G<|sg 4 4 11 15 false G G (fun hg5=>by
     have hq5:=hg5;try simp only [oz] at hq5
     exact sy hg5<|sf fS rfl<|sy hg5<|sl S 0 iU G G G<|sy hg5<|sL iR rfl<|sy hg5<|sr 1 G<|sz 4 G G G)<|so G G G<|sE ?_;intro a H
 refine k3 _ ?_;refine cond_ H rfl (fun hc1=>?_) (fun hc1=>?_)
 ·skip
  try simp only [oz] at hc1
  replace H:=H.keep [] rfl;refine sS H fun K4 k4=>sr 1 G<|sE ?_;intro a H
  refine k4 _ ?_;refine wp_ret ?_;refine ret1 (fn:=Tryz.f8) rfl H rfl ?_;exact ⟨congrArg _ (Ht (by omega)).symm,(S.sel [] G G)⟩
 try simp only [oz] at hc1
 refine wp_skip ?_;refine k2 _ _ ?_;refine sS H fun K5 k5=>sr 1 G<|sE ?_;intro a H
 refine k5 _ ?_;refine wp_seq_k fun K6 k6=>?_
 refine sS H fun K7 k7=>sr 1 G<|sE ?_;intro a H
 refine k7 _ ?_;refine wp_block ?_;replace S:=S.newNil 3 1 (icl []);refine loop_st (X:=Nat×List Int×Option Addr×Nat) (R0:=_) [1] H rfl (fun ⟨k,ml,A9,c9⟩=>[(3,.slice A9 ml.length c9),(4,.int .i64 (k:Int))]) (fun ⟨k,ml,A9,c9⟩=>[ownM 3 1 A9 ml.length c9 (icl ml)]) (fun g ⟨k,ml,A9,c9⟩=>k≤ps.length∧g+k=ps.length∧allN (pasOk pl ps) k=true∧MList ps k ml) (ps.length) (0,[],none,0) ?_ (S.sel [0,1] G G) (H.keep [3,4,1] rfl) ?_
 · exact ⟨by omega,by omega,rfl,MList.nil⟩
 clear H S a;intro g1 x1 a w1 hp S H K8 k8;obtain ⟨k,ml,A9,c9⟩:=x1;dsimp only at hp S H;obtain ⟨hkl,hgk,hA,hM⟩:=hp;refine wp_seq_k fun K9 k9=>?_
 refine sS H fun K10 k10=>sr 1 G<|sf fS rfl<|sl S 1 iU G G G<|sL iR rfl<|sr 1 G<|sE ?_;intro a H
 refine k10 _ ?_;refine condL H rfl (fun hc2=>?_) (fun hc2=>?_)
 ·skip
  refine wp_skip ?_;refine k9 _ _ ?_;refine wp_seq_k fun K11 k11=>?_
  refine wp_block ?_;replace H:=H.keep [1,3,4] rfl;refine seq_list fun K12 k12=>?_
  refine ls 5 H<|sf fS rfl<|sl S 1 iU G G G<|sr 1 G<|si iR dR G G (hps.adr (by omega)) (by omega)<|sd ((aU jJ dR rfl S hps (by omega) (by omega)))<|sE ?_;intro a H
  refine aJ H rfl S oX ?_;intro b5 _ a hb5 hbw5 S H
  refine aE H S (i:=0) G G G G dR G G ?_
  clear H a S;intro _ a S H;refine k12 _ _ ?_;refine wp_seq_k fun K13 k13=>?_
  replace H:=H.keep [1,3,4,5] rfl
  refine sS H fun K14 k14=>sf gA rfl<|sl S 0 aD G G G<|sf dY rfl<|sl S 2 aD G G G<|sd (aR G G (by unfold i64ok;omega))<|sc rfl Tryz.func32 G G (cJ _ _ _ _)<|sr 2 G<|sg 7 7 36 43 false G G (fun hg8=>by
      have hq8:=hg8;try simp only [oz] at hq8
      exact sy hg8<|sf gB rfl<|sy hg8<|sl S 0 aD G G G<|sy hg8<|sf dY rfl<|sy hg8<|sl S 2 aD G G G<|sy hg8<|sd (aR G G (by unfold i64ok;omega))<|sy hg8<|sc rfl Tryz.func32 G G (cJ _ _ _ _)<|sy hg8<|sr 1 G<|sz 7 G G G)<|so G G G<|sr 1 G<|sg 5 16 45 50 false G G (fun hg17=>by
      have hq17:=hg17;try simp only [oz] at hq17
      exact sy hg17<|sf gA rfl<|sy hg17<|sl S 0 aD G G G<|sy hg17<|sf gB rfl<|sy hg17<|sl S 0 aD G G G<|sy hg17<|sr 1 G<|sz 5 G G G)<|so G G G<|sr 1 G<|sg 4 23 52 56 false G G (fun hg24=>by
      have hq24:=hg24;try simp only [oz] at hq24
      exact sy hg24<|sf nC rfl<|sy hg24<|sl S 0 aD G G G<|sy hg24<|sc rfl Tryz.func32 G G (cJ _ _ _ _)<|sy hg24<|sr 1 G<|sz 4 G G G)<|so G G G<|sr 1 G<|sg 4 29 58 62 false G G (fun hg30=>by
      have hq30:=hg30;try simp only [oz] at hq30
      exact sy hg30<|sf qE rfl<|sy hg30<|sl S 0 aD G G G<|sy hg30<|sc rfl Tryz.func32 G G (cJ _ _ _ _)<|sy hg30<|sr 1 G<|sz 4 G G G)<|so G G G<|sr 1 G<|sg 4 35 64 68 false G G (fun hg36=>by
      have hq36:=hg36;try simp only [oz] at hq36
      exact sy hg36<|sf fA rfl<|sy hg36<|sl S 0 aD G G G<|sy hg36<|sc rfl Tryz.func32 G G (cJ _ _ _ _)<|sy hg36<|sr 1 G<|sz 4 G G G)<|so G G G<|sE ?_;intro a H
  refine k14 _ ?_;refine cond_ H rfl (fun hc3=>?_) (fun hc3=>?_)
  ·skip
   try simp only [oz] at hc3
   replace H:=H.keep [] rfl;refine sS H fun K15 k15=>sr 1 G<|sE ?_;intro a H
   refine k15 _ ?_;refine wp_ret ?_;refine ret1 (fn:=Tryz.f8) rfl H rfl ?_;exact ⟨congrArg _ (mJ (k:=k) (by omega) (by unfold pasOk;rw [Bool.and_eq_false_iff];exact .inl (fU (by omega)))).symm,(S.sel [] G G)⟩
  try simp only [oz] at hc3
  refine wp_skip ?_;refine k13 _ _ ?_;refine wp_seq_k fun K16 k16=>?_
  refine sS H fun K17 k17=>sf fA rfl<|sl S 0 aD G G G<|sr 2 G<|sg 3 3 73 76 false G G (fun hg4=>by
      have hq4:=hg4;try simp only [oz] at hq4
      exact sy hg4<|sf fA rfl<|sy hg4<|sl S 0 aD G G G<|sy hg4<|sr 1 G<|sz 3 G G G)<|so G G G<|sE ?_;intro a H
  refine k17 _ ?_;refine cond_ H rfl (fun hc4=>?_) (fun hc4=>?_)
  ·skip
   try simp only [oz] at hc4
   refine wp_seq_k fun K18 k18=>?_
   replace H:=H.keep [1,3,4,5] rfl;refine seq_list fun K19 k19=>?_
   refine ls 2 H<|sf dQ rfl<|sl S 0 aD G G G<|sE ?_;intro a H
   refine aA H G G Tryz.func32 G G (cJ _ _ _ _) ?_;clear H a
   rintro _ _ a ⟨rfl,rfl⟩ H;refine ls 2 H<|sr 2 G<|sE ?_;intro a H
   apply bR (i:=4) (g:=82) (t:=86) (b:=false) 4 H S G G (by kernel_rfl) (by kernel_rfl) G G
   case h1=>
    intro hg5;have hq5:=hg5;try simp only [oz] at hq5
    refine ls 3 H<|sy hg5<|sr 1 G<|sy hg5<|sf dQ rfl<|sy hg5<|sl S 0 aD G G G<|sE ?_;intro a H
    refine cF H G G (by assumption) ?_
    refine aA H G G Tryz.func33 G G (Wc ml A9 c9 _ _ (aEi S (i:=1) rfl) (by have:=hM.1;omega)) ?_
    rintro _ _ a ⟨rfl,S2⟩ H;replace S:=S.call S2;clear S2;exact wpList_nil ⟨H.strip 4 rfl rfl,(S.sel [0,1,2] rfl rfl)⟩
   clear H a S;intro a _ H S;refine ls 1 H<|so G G G<|sE ?_;intro a H
   refine k19 _ _ ?_;refine cond_ H rfl (fun hc5=>?_) (fun hc5=>?_)
   ·skip
    try simp only [oz] at hc5
    replace H:=H.keep [] rfl;refine sS H fun K20 k20=>sr 1 G<|sE ?_;intro a H
    refine k20 _ ?_;refine wp_ret ?_;refine ret1 (fn:=Tryz.f8) rfl H rfl ?_;exact ⟨congrArg _ (mJ (k:=k) (by omega) (Vz hM hc5 hc4)).symm,(S.sel [] G G)⟩
   try simp only [oz] at hc5
   have hz:=hM.fresh hc5.1.1 hc5.2
   refine wp_skip ?_;refine k18 _ _ ?_;refine one_list ?_;refine ls 3 H<|sr 1 G<|sf dQ rfl<|sl S 0 aD G G G<|sE ?_;intro a H
   refine aY H rfl S aP aX fD G G G G G G G G G ?_;intro A1 _ a hA1 S H
   refine bM H rfl S aP aX fD mQ G G (i:=2) G G G (aEi S (i:=0) rfl) (qO (w8one rfl)) (by have:=hM.1;omega) (by have:=hM.1;omega) ?_;intro A2 c2 _ a S H
   replace S:=S.recell (i:=2) rfl (cell':=icl (ml++[cH ps k])) (fun q j hq hj=>Gk rfl q j hq hj);rw [show ml.length+1=(ml++[cH ps k]).length by simp] at H S;refine ls 1 H<|sr 1 G<|sE ?_;intro a H
   refine k16 _ _ ?_;replace H:=H.keep [1,3,4,5] rfl;refine sS H fun K22 k22=>sf fA rfl<|sl S 1 aD G G G<|sr 1 G<|sE ?_;intro a H
   refine k22 _ ?_;refine condE H rfl (fun hc6=>?_) (fun hc6=>?_)
   ·skip
    refine sS H fun K23 k23=>sf jT rfl<|sl S 1 aD G G G<|sc rfl Tryz.func32 G G (cJ _ _ _ _)<|sr 1 G<|sE ?_;intro a H
    refine k23 _ ?_;refine cond_ H rfl (fun hc7=>?_) (fun hc7=>?_)
    ·skip
     try simp only [oz] at hc7
     refine sS H fun K24 k24=>sr 1 G<|sE ?_;intro a H
     refine k24 _ ?_;refine wp_ret ?_;refine ret1 (fn:=Tryz.f8) rfl H rfl ?_;exact ⟨congrArg _ (mJ (k:=k) (by omega) (by unfold pasOk;rw [Bool.and_eq_false_iff];exact .inl (fU (by omega)))).symm,(S.sel [] G G)⟩
    try simp only [oz] at hc7
    refine wp_skip ?_;refine k11 _ _ ?_;replace H:=H.keep [1,3,4] rfl;refine sO H<|sr 1 G<|sd (aI G G (by unfold i64ok;omega))<|sr 1 G<|sE ?_;intro a H
    exact k8 (g1-1) (k+1,_,_,_) a _ (by omega) (by first|exact ⟨by omega,by omega,cM hA (qR (dL.2 (by omega)) hz),hM.add⟩|exact ⟨by omega,by omega,cM hA (qS (dL.2 (by omega)) (by omega)),hM.skip (by unfold cH;omega)⟩) (S.sel [2,3] G G) (H.keep [3,4,1] rfl)
   refine sS H fun K26 k26=>sf jT rfl<|sl S 1 aD G G G<|sr 1 G<|sE ?_;intro a H
   refine k26 _ ?_;refine condN H rfl (fun hc8=>?_) (fun hc8=>?_)
   ·skip
    refine sS H fun K27 k27=>sr 1 G<|sE ?_;intro a H
    refine k27 _ ?_;refine wp_ret ?_;refine ret1 (fn:=Tryz.f8) rfl H rfl ?_;exact ⟨congrArg _ (mJ (k:=k) (by omega) (by unfold pasOk;rw [Bool.and_eq_false_iff];exact .inl (fU (by omega)))).symm,(S.sel [] G G)⟩
   refine wp_skip ?_;refine k11 _ _ ?_;replace H:=H.keep [1,3,4] rfl;refine sO H<|sr 1 G<|sd (aI G G (by unfold i64ok;omega))<|sr 1 G<|sE ?_;intro a H
   exact k8 (g1-1) (k+1,_,_,_) a _ (by omega) (by first|exact ⟨by omega,by omega,cM hA (qR (dL.2 (by omega)) hz),hM.add⟩|exact ⟨by omega,by omega,cM hA (qS (dL.2 (by omega)) (by omega)),hM.skip (by unfold cH;omega)⟩) (S.sel [2,3] G G) (H.keep [3,4,1] rfl)
  try simp only [oz] at hc4
  refine sS H fun K29 k29=>sf dQ rfl<|sl S 0 aD G G G<|sr 1 G<|sE ?_;intro a H
  refine k29 _ ?_;refine condN H rfl (fun hc9=>?_) (fun hc9=>?_)
  ·skip
   refine sS H fun K30 k30=>sr 1 G<|sE ?_;intro a H
   refine k30 _ ?_;refine wp_ret ?_;refine ret1 (fn:=Tryz.f8) rfl H rfl ?_;exact ⟨congrArg _ (mJ (k:=k) (by omega) (by unfold pasOk;rw [Bool.and_eq_false_iff];exact .inl (fU (by omega)))).symm,(S.sel [] G G)⟩
  refine wp_skip ?_;refine k16 _ _ ?_;replace H:=H.keep [1,3,4,5] rfl;refine sS H fun K31 k31=>sf fA rfl<|sl S 0 aD G G G<|sr 1 G<|sE ?_;intro a H
  refine k31 _ ?_;refine condE H rfl (fun hc10=>?_) (fun hc10=>?_)
  ·skip
   refine sS H fun K32 k32=>sf jT rfl<|sl S 0 aD G G G<|sc rfl Tryz.func32 G G (cJ _ _ _ _)<|sr 1 G<|sE ?_;intro a H
   refine k32 _ ?_;refine cond_ H rfl (fun hc11=>?_) (fun hc11=>?_)
   ·skip
    try simp only [oz] at hc11
    refine sS H fun K33 k33=>sr 1 G<|sE ?_;intro a H
    refine k33 _ ?_;refine wp_ret ?_;refine ret1 (fn:=Tryz.f8) rfl H rfl ?_;exact ⟨congrArg _ (mJ (k:=k) (by omega) (by unfold pasOk;rw [Bool.and_eq_false_iff];exact .inl (fU (by omega)))).symm,(S.sel [] G G)⟩
   try simp only [oz] at hc11
   refine wp_skip ?_;refine k11 _ _ ?_;replace H:=H.keep [1,3,4] rfl;refine sO H<|sr 1 G<|sd (aI G G (by unfold i64ok;omega))<|sr 1 G<|sE ?_;intro a H
   exact k8 (g1-1) (k+1,_,_,_) a _ (by omega) (by first|exact ⟨by omega,by omega,cM hA (qR (dL.2 (by omega)) hz),hM.add⟩|exact ⟨by omega,by omega,cM hA (qS (dL.2 (by omega)) (by omega)),hM.skip (by unfold cH;omega)⟩) (S.sel [1,2] G G) (H.keep [3,4,1] rfl)
  refine sS H fun K35 k35=>sf jT rfl<|sl S 0 aD G G G<|sr 1 G<|sE ?_;intro a H
  refine k35 _ ?_;refine condN H rfl (fun hc12=>?_) (fun hc12=>?_)
  ·skip
   refine sS H fun K36 k36=>sr 1 G<|sE ?_;intro a H
   refine k36 _ ?_;refine wp_ret ?_;refine ret1 (fn:=Tryz.f8) rfl H rfl ?_;exact ⟨congrArg _ (mJ (k:=k) (by omega) (by unfold pasOk;rw [Bool.and_eq_false_iff];exact .inl (fU (by omega)))).symm,(S.sel [] G G)⟩
  refine wp_skip ?_;refine k11 _ _ ?_;replace H:=H.keep [1,3,4] rfl;refine sO H<|sr 1 G<|sd (aI G G (by unfold i64ok;omega))<|sr 1 G<|sE ?_;intro a H
  exact k8 (g1-1) (k+1,_,_,_) a _ (by omega) (by first|exact ⟨by omega,by omega,cM hA (qR (dL.2 (by omega)) hz),hM.add⟩|exact ⟨by omega,by omega,cM hA (qS (dL.2 (by omega)) (by omega)),hM.skip (by unfold cH;omega)⟩) (S.sel [1,2] G G) (H.keep [3,4,1] rfl)
 refine wp_exit ?_;refine k6 _ _ ?_;refine wp_seq_k fun K38 k38=>?_
 refine sS H fun K39 k39=>sr 1 G<|sE ?_;intro a H
 refine k39 _ ?_;refine wp_block ?_;refine loop_st (X:=Nat) (R0:=_) [1] H rfl (fun k2=>[(6,.int .i64 (k2:Int))]) (fun k2=>[]) (fun g k2=>k2≤xs.length∧g+k2=xs.length∧allN (exOk pl xs) k2=true) (xs.length) 0 ?_ (S.sel [0,1] G G) (H.keep [6,1] rfl) ?_
 · exact ⟨by omega,by omega,rfl⟩
 clear H S a;intro g2 x2 a w2 hp S H K40 k40;obtain ⟨k2,rfl⟩:∃ y,y=x2:=⟨_,rfl⟩;refine wp_seq_k fun K41 k41=>?_
 refine sS H fun K42 k42=>sr 1 G<|sf jK rfl<|sl S 1 bE G G G<|sL aP rfl<|sr 1 G<|sE ?_;intro a H
 refine k42 _ ?_;refine condL H rfl (fun hc13=>?_) (fun hc13=>?_)
 ·skip
  refine wp_skip ?_;refine k41 _ _ ?_;refine wp_seq_k fun K43 k43=>?_
  refine wp_block ?_;replace H:=H.keep [1,6] rfl;replace S:=S.drew
  refine sD H fun K44 k44=>sf jK rfl<|sl S 1 bE G G G<|sr 1 G<|si aP aX G G (hxs.adr (by omega)) (by omega)<|slm aD rfl (hxs.rd S (by omega) (by omega))<|sf dY rfl<|sl S 1 aD G G G<|sd (aR G G (by unfold i64ok;omega))<|sc rfl Tryz.func32 G G (cJ _ _ _ _)<|sr 2 G<|sg 16 10 123 139 false G G (fun hg11=>by
      have hq11:=hg11;try simp only [oz] at hq11
      exact sy hg11<|sr 1 G<|sy hg11<|sr 1 G<|sy hg11<|sr 1 G<|sg 12 13 126 138 true G G (fun hg14=>by
           have hq14:=hg14;try simp only [oz] at hq14
           exact sy hg14<|sf jK rfl<|sy hg14<|sl S 1 bE G G G<|sy hg14<|sr 1 G<|sy hg14<|si aP aX G G (hxs.adr (by omega)) (by omega)<|sy hg14<|slm aD rfl (hxs.rd S (by omega) (by omega))<|sy hg14<|sf jK rfl<|sy hg14<|sl S 1 bE G G G<|sy hg14<|sr 1 G<|sy hg14<|sd (aR G G (by unfold i64ok;omega))<|sy hg14<|sI aP aX G G (hxs.adr (by omega)) (by omega) (by omega)<|sy hg14<|slm aD rfl (hxs.rd S (by omega) (by omega))<|sy hg14<|sr 1 G<|sz 12 G G G)<|sy hg11<|sa G G G<|sz 5 G G G)<|so G G G<|sE ?_;intro a H
  refine k44 _ ?_;refine cond_ H rfl (fun hc14=>?_) (fun hc14=>?_)
  ·skip
   try simp only [oz] at hc14
   rw [show ((k2:Int)-1).toNat=k2-1 by omega] at hc14;replace H:=H.keep [] rfl;refine sS H fun K45 k45=>sr 1 G<|sE ?_;intro a H
   refine k45 _ ?_;refine wp_ret ?_;refine ret1 (fn:=Tryz.f8) rfl H rfl ?_;exact ⟨congrArg _ (Zi (k:=k2) (by omega) (Wb (by omega))).symm,(S.sel [] G G)⟩
  try simp only [oz] at hc14
  rw [show ((k2:Int)-1).toNat=k2-1 by omega] at hc14;refine wp_skip ?_;refine k43 _ _ ?_;refine sO H<|sr 1 G<|sd (aI G G (by unfold i64ok;omega))<|sr 1 G<|sE ?_;intro a H
  exact k40 (g2-1) (k2+1) a _ (by omega) (⟨by omega,by omega,cM hp.2.2 (Wa (by omega))⟩) (S.sel [0,1] G G) (H.keep [6,1] rfl)
 refine wp_exit ?_;refine k38 _ _ ?_;refine sS H fun K47 k47=>sr 1 G<|sE ?_;intro a H
 refine k47 _ ?_;refine wp_ret ?_;refine ret1 (fn:=Tryz.f8) rfl H rfl ?_;have hk9:k=ps.length:=by omega
 have hk8:k2=xs.length:=by omega
 exact ⟨congrArg _ (Zj (by omega) (hk9 ▸ hA) (hk8 ▸ hp.2.2)).symm,(S.sel [] G G)⟩
end
section
structure EndN (N:Net) (r0:RM) (b x:Nat) (v:Int) (r:RM) (L:Nat→Int):Prop where
 fl:Fl N r0 r b x v
 nn:0≤v
 lev:LevOk N r b L
 full:L x<0
section
variable {N:Net} {r r0 r1 r2:RM} {b x u:Nat} {v v' m B:Int} {L L':Nat→Int}
end
structure Eg where
 f:Nat
 t:Nat
 pas:Int
 tick:Int
def Eg.zero:Eg:=⟨0,0,0,0⟩
def Jn.zero:Jn:=⟨0,0,0,Mv.none⟩
def ixs (E:List Eg) (i:Nat):List Nat:=(List.range E.length).filter fun e=>decide ((E.getD e Eg.zero).f=i)
def tw (e:Nat):Nat:=if e%2=0 then e+1 else e-1
structure Lk (N:Net) (E:List Eg):Prop where
 len:∀ i,i<N.k→(ixs E i).length=N.n i
 lt:∀ i,i<N.k→∀ q,q<N.n i→(ixs E i).getD q 0<E.length
 ef:∀ i,i<N.k→∀ q,q<N.n i→(E.getD ((ixs E i).getD q 0) Eg.zero).f=i
 et:∀ i,i<N.k→∀ q,q<N.n i→(E.getD ((ixs E i).getD q 0) Eg.zero).t=N.to i q
 tw:∀ i,i<N.k→∀ q,q<N.n i→(ixs E (N.to i q)).getD (N.back i q) 0=tw ((ixs E i).getD q 0)
 inj:∀ i,i<N.k→∀ q q',q<N.n i→q'<N.n i→(ixs E i).getD q 0=(ixs E i).getD q' 0→q=q'
 evn:E.length%2=0
def rmE (E:List Eg) (r:Nat→Int):RM:=fun i q=>r ((ixs E i).getD q 0)
def pushE (r:Nat→Int) (e:Nat) (m:Int):Nat→Int:=upd (upd r e (r e-m)) (tw e) (r (tw e)+m)
section
variable {N:Net} {E:List Eg} {r:Nat→Int} {u j:Nat} {m B:Int}
structure Rch (N:Net) (E:List Eg) (r:Nat→Int) (b:Nat) (L:Nat→Int) (by_:Nat→Nat):Prop where
 from_:∀ v,v<N.k→0≤L v→v=b∨∃ u,u<N.k∧∃ j,j<N.n u∧0≤L u∧0<rmE E r u j∧N.to u j=v∧L v=L u+1∧by_ v=(ixs E u).getD j 0
end
def goneI (out:Int) (p:Psg) (place:Int):Int:=
 if othr p place<0∨p.kind=4 then -1 else if p.kind=3∧bitI out p.mach=1 then p.still else if p.kind=3∧place=p.b then -1 else p.ticks
def endI (p:Psg) (k:Nat):Int:=if k=0 then p.a else p.b
def cr (S:Nat→Bool) (f t:Nat) (c:Int):Int:=if S f=true∧S t=false then c else 0
def hC (U:Nat→Nat→Bool) (T:Nat) (f t:Nat) (d:Int) (c:Int) (tick:Nat):Int:=if (tick:Int)+d≤T∧U f tick=true∧U t (tick+d.toNat)=false then c else 0
def pC (U:Nat→Nat→Bool) (T:Nat) (xs:List Int) (out:Int) (p:Psg) (tick k:Nat):Int:=if 0≤goneI out p (endI p k)∧hasI xs (endI p k)=false then hC U T (endI p k).toNat (endI p (1-k)).toNat (goneI out p (endI p k)) p.wide tick else 0
section
variable {P T:Nat} {pe xs:List Int} {out:Int} {ps:List Psg} {S:Nat→Bool}
end
section
variable {P T:Nat} {pe xs:List Int} {out:Int} {ps:List Psg} {S:Nat→Bool}
end
section
variable {P T:Nat} {pe xs:List Int} {out:Int} {ps:List Psg} {S:Nat→Bool} {v v':Int} {r r':RM} {L L':Nat→Int}
end
section
variable {N:Net} {E:List Eg} {r r2:Nat→Int} {b x:Nat} {L:Nat→Int} {by_:Nat→Nat} {m B:Int}
end
section
variable {P T:Nat} {pe xs:List Int} {out:Int} {ps:List Psg}
end
section
variable {P T:Nat} {ps:List Psg} {xs:List Int} {out:Int} {pe bl:List Int} {k:Nat}
end
section
variable {P T:Nat} {ps:List Psg} {xs:List Int} {out:Int} {pe pe' bl:List Int}
end
section
variable (ps:List Psg) (xs:List Int) (out:Int) (pe:List Int) (l:List Mv)
def mvIn (m:Mv):Prop:=(0≤m.pas∧m.pas<ps.length)∧(0≤m.at_∧m.at_≤60)∧(1≤m.many∧m.many≤1000)
instance (m:Mv):Decidable (mvIn ps m):=by unfold mvIn;exact inferInstance
end
section
variable {P T:Nat} {ps:List Psg} {xs:List Int} {out:Int} {pe bl:List Int} {l:List Mv} {m:Mv}
end
end
section
theorem qT (pl:Int) (ps:List Psg) (PA:Option Addr) (pc:Nat) (xs:List Int) (XA:Option Addr) (xc:Nat) (pe:List Int) (BA:Option Addr) (bc:Nat) (w:World) (hpe:InS w noF 1 BA pe.length (icl pe)) (hpen:pe.length≤9223372036854775807) :
    Calls Tryz.prog 66 [.agg [.int .i64 pl,.slice PA ps.length pc,.slice XA xs.length xc].toArray,.slice BA pe.length bc].toArray w (Ret (fun v w'=>v = .bool (eN pl pe)∧St w noF [] w')):=by
 refine enter Tryz.func66 rfl Tryz.ntmps66 rfl (fun a H=>?_)
 have S:=St.start w
 refine seq_list fun K1 k1=>?_
 refine aO H rfl S G G ?_;intro b2 _ a hb2 hbw2 S H
 refine ls 1 H<|sr 1 G<|sE ?_;intro a H
 refine k1 _ _ ?_;refine wp_seq_k fun K2 k2=>?_
 refine sS H fun K3 k3=>sr 1 G<|sE ?_;intro a H
 refine k3 _ ?_;refine wp_block ?_;refine loop_st (X:=Nat) (R0:=_) [1,2] H rfl (fun k=>[(5,.int .i64 (k:Int))]) (fun k=>[]) (fun g k=>k≤pe.length∧g+k=pe.length∧allN (fun k=>decide (0≤pe.getD k 0∧pe.getD k 0≤1000)) k=true) (pe.length) 0 ?_ (S.sel [0] G G) (H.keep [5,1,2] rfl) ?_
 · exact ⟨by omega,by omega,rfl⟩
 clear H S a;intro g1 x1 a w1 hp S H K4 k4;obtain ⟨k,rfl⟩:∃ y,y=x1:=⟨_,rfl⟩;refine wp_seq_k fun K5 k5=>?_
 refine sS H fun K6 k6=>sr 2 G<|sL aP rfl<|sr 1 G<|sE ?_;intro a H
 refine k6 _ ?_;refine condL H rfl (fun hc1=>?_) (fun hc1=>?_)
 ·skip
  refine wp_skip ?_;refine k5 _ _ ?_;refine wp_seq_k fun K7 k7=>?_
  refine wp_block ?_;replace H:=H.keep [1,2,5] rfl;refine sS H fun K8 k8=>sr 2 G<|si aP aX G G (hpe.adr (by omega)) (by omega)<|slm aD rfl (hpe.rd S (by omega) (by omega))<|sc rfl Tryz.func32 G G (cJ _ _ _ _)<|sr 1 G<|sE ?_;intro a H
  refine k8 _ ?_;refine cond_ H rfl (fun hc2=>?_) (fun hc2=>?_)
  ·skip
   try simp only [oz] at hc2
   refine sS H fun K9 k9=>sr 1 G<|sE ?_;intro a H
   refine k9 _ ?_;refine wp_ret ?_;refine ret1 (fn:=Tryz.f66) rfl H rfl ?_;refine ⟨congrArg Value.bool ?_,(S.sel [] G G)⟩;unfold eN;rw [gL (k:=k) (by omega) (by rw [decide_eq_false_iff_not];omega)];rfl
  try simp only [oz] at hc2
  refine wp_skip ?_;refine k7 _ _ ?_;replace H:=H.keep [1,2,5] rfl;refine sO H<|sr 1 G<|sd (aI G G (by unfold i64ok;omega))<|sr 1 G<|sE ?_;intro a H
  exact k4 (g1-1) (k+1) a _ (by omega) (⟨by omega,by omega,cM hp.2.2 (by rw [decide_eq_true_eq];omega)⟩) (S.sel [0] G G) (H.keep [5,1,2] rfl)
 refine wp_exit ?_;refine k2 _ _ ?_;refine sS H fun K11 k11=>sr 1 G<|sL aP rfl<|sf dY rfl<|sl S 0 aD G G G<|sr 2 G<|sE ?_;intro a H
 refine k11 _ ?_;refine wp_ret ?_;refine ret1 (fn:=Tryz.f66) rfl H rfl ?_;refine ⟨congrArg Value.bool ?_,(S.sel [] G G)⟩;unfold eN;rw [show pe.length=k by omega,hp.2.2,Bool.true_and]
theorem Al (pl:Int) (ps:List Psg) (PA:Option Addr) (pc:Nat) (xs:List Int) (XA:Option Addr) (xc:Nat) (day:List Hq) (HA:Option Addr) (hcp:Nat) (DA:Nat→Option Addr) (dc:Nat→Nat) (w:World) (hps:InS w noF 7 PA ps.length (pcell ps)) (hpn:ps.length≤9223372036854775807) (hxs:InS w noF 1 XA xs.length (icl xs)) (hxn:xs.length≤9223372036854775807) (hday:InS w noF 3 HA day.length (hcl day DA dc)) (hdn:day.length≤9223372036854775807) (hdp:∀ k,k<day.length→InS w noF 1 (DA k) (day.getD k aFm).pe.length (icl (day.getD k aFm).pe)) (hdl:∀ k,k<day.length→(day.getD k aFm).pe.length≤9223372036854775807) :
    Calls Tryz.prog 68 [.agg [.int .i64 pl,.slice PA ps.length pc,.slice XA xs.length xc].toArray,.slice HA day.length hcp].toArray w (Ret (fun v w'=>v = .int .i64 (dayE pl ps xs day)∧St w noF [] w')):=by
 refine enter Tryz.func68 rfl Tryz.ntmps68 rfl (fun a H=>?_)
 have S:=St.start w
 refine seq_list fun K1 k1=>?_
 refine aO H rfl S G G ?_;clear H a S;intro b2 _ a hb2 hbw2 S H
 refine ls 1 H<|sr 1 G<|sE ?_;clear H a;intro a H
 refine k1 _ _ ?_;refine seq_list fun K2 k2=>?_
 refine ls 1 H<|sd ((aB bW cQ rfl S (i:=0) G G))<|sE ?_;clear H a;intro a H
 refine aA H G G Tryz.func8 G G (nO pl ps PA pc xs XA xc _ (hps.now S) hpn (hxs.now S) hxn) ?_;clear H a
 rintro _ _ a ⟨rfl,S2⟩ H;replace S:=S.call S2;clear S2;refine ls 1 H<|sr 1 G<|sE ?_;clear H a;intro a H
 refine k2 _ _ ?_;refine wp_seq_k fun K3 k3=>?_
 refine sS H fun K4 k4=>sr 2 G<|sE ?_;clear H a;intro a H
 refine k4 _ ?_;refine condN H rfl (fun hc1=>?_) (fun hc1=>?_)
 ·skip
  refine sS H fun K5 k5=>sr 2 G<|sE ?_;clear H a;intro a H
  refine k5 _ ?_;refine wp_ret ?_;refine ret1 (fn:=Tryz.f68) rfl H rfl ?_;refine ⟨congrArg (Value.int .i64) ?_,(S.sel [] G G)⟩;unfold dayE;rw [if_pos hc1]
 have hst:stE pl ps xs=0:=by omega
 refine wp_skip ?_;refine k3 _ _ ?_;refine wp_seq_k fun K6 k6=>?_
 replace H:=H.keep [1,2] rfl;refine sS H fun K7 k7=>sr 1 G<|sL iZ rfl<|sr 1 G<|sE ?_;clear H a;intro a H
 refine k7 _ ?_;refine condL H rfl (fun hc2=>?_) (fun hc2=>?_)
 ·skip
  refine sS H fun K8 k8=>sr 1 G<|sE ?_;clear H a;intro a H
  refine k8 _ ?_;refine wp_ret ?_;refine ret1 (fn:=Tryz.f68) rfl H rfl ?_;refine ⟨congrArg (Value.int .i64) ?_,(S.sel [] G G)⟩;unfold dayE;rw [if_neg (by omega),if_neg];unfold dayOk;rw [decide_eq_false (p:=day.length≤48) (by omega),Bool.and_false];simp
 refine wp_skip ?_;refine k6 _ _ ?_;refine wp_seq_k fun K9 k9=>?_
 refine sS H fun K10 k10=>sr 1 G<|sE ?_;clear H a;intro a H
 refine k10 _ ?_;refine wp_block ?_;refine loop_st (X:=Nat) (R0:=_) [1,2] H rfl (fun k=>[(6,.int .i64 (k:Int))]) (fun k=>[]) (fun g k=>k≤day.length∧g+k=day.length∧allN (fun k=>hqOk pl (day.getD k aFm)) k=true) (day.length) 0 ?_ (S.sel [0] G G) (H.keep [6,1,2] rfl) ?_
 · exact ⟨by omega,by omega,rfl⟩
 clear H S a;intro g1 x1 a w1 hp S H K11 k11;obtain ⟨k,rfl⟩:∃ y,y=x1:=⟨_,rfl⟩;refine wp_seq_k fun K12 k12=>?_
 refine sS H fun K13 k13=>sr 2 G<|sL iZ rfl<|sr 1 G<|sE ?_;clear H a;intro a H
 refine k13 _ ?_;refine condL H rfl (fun hc3=>?_) (fun hc3=>?_)
 ·skip
  refine wp_skip ?_;refine k12 _ _ ?_;refine wp_seq_k fun K14 k14=>?_
  refine wp_block ?_;by_cases hB:0≤(day.getD k aFm).out∧(day.getD k aFm).out≤4095
  ·skip
   replace H:=H.keep [1,2,6] rfl;replace S:=S.drew;refine seq_wq [(0,true),(1,true),(2,true),(3,true),(4,true),(5,false),(6,true),(7,true),(8,true),(9,true),(10,true),(11,true),(12,true),(13,true),(14,false),(15,true),(16,true)] (by kernel_rfl) (by kernel_rfl) (S.sel [0] G G) fun K15 k15=>?_
   refine qF H<|qr 2 G<|qd G (fun _ S=>bG iZ iY G G (hday.adr (by omega)) (by omega))<|qd G (fun _ S=>(bP nE rfl))<|qd G (fun _ S=>aF aD rfl (hday.rd S (by omega) (by omega)))<|qK ?_;clear H a;intro a H
   refine aT rfl ?_
   refine aA H G G Tryz.func65 G G (Ak _ _) ?_;clear H a
   rintro _ _ a ⟨rfl,rfl⟩ H;rw [decide_eq_true hB.1,decide_eq_true hB.2,Bool.and_self] at H;refine wpList_nil (And.intro (S.sel [0] rfl rfl) ?_);refine qF H<|qr 2 G<|qK ?_;clear H a;intro a H
   refine aG H G G G G (fun _ S=>(aB bW cQ rfl S (i:=0) G G)) ?_;clear H a;intro a H
   refine aG H G G G G (fun _ S=>aL rfl) ?_;clear H a;intro a H
   refine aG H G G G G (fun _ S=>aL rfl) ?_;clear H a;intro a H
   refine aG H G G G G (fun _ S=>bG iZ iY G G (hday.adr (by omega)) (by omega)) ?_;clear H a;intro a H
   refine aG H G G G G (fun _ S=>(bP uW rfl)) ?_;clear H a;intro a H
   refine aG H G G G G (fun _ S=>aF bE rfl (hday.rd S (by omega) (by omega))) ?_;clear H a;intro a H
   refine aT rfl ?_
   refine bA H G G ?_
   refine aA H G G Tryz.func66 G G (qT pl ps PA pc xs XA xc (day.getD k aFm).pe (DA k) (dc k) _ ((hdp k (by omega)).now S) (hdl k (by omega))) ?_;clear H a
   rintro _ _ a ⟨rfl,S2⟩ H;replace S:=S.call S2;clear S2;refine wpList_nil (And.intro (S.sel [0] rfl rfl) ?_);refine aG H rfl rfl rfl rfl (fun _ S=>cO rfl) ?_;clear H a;intro a H;refine qF H<|qd G (fun _ S=>(aZ rfl rfl rfl))<|qK ?_;clear H a;intro a H
   refine bL ?_
   refine k15 _ _ ?_;refine cond_ H rfl (fun hc4=>?_) (fun hc4=>?_)
   ·skip
    try simp only [oz] at hc4
    replace H:=H.keep [] rfl;refine sS H fun K16 k16=>sr 1 G<|sE ?_;clear H a;intro a H
    refine k16 _ ?_;refine wp_ret ?_;refine ret1 (fn:=Tryz.f68) rfl H rfl ?_;refine ⟨congrArg (Value.int .i64) ?_,(S.sel [] G G)⟩;unfold dayE;rw [if_neg (by omega),vY (k:=k) (by omega) (by unfold hqOk;rw [hc4.resolve_left (by simp),Bool.and_false])];rfl
   try simp only [oz] at hc4
   refine wp_skip ?_;refine k14 _ _ ?_;refine sO H<|sr 1 G<|sd (aI G G (by unfold i64ok;omega))<|sr 1 G<|sE ?_;clear H a;intro a H
   exact k11 (g1-1) (k+1) a _ (by omega) (⟨by omega,by omega,cM hp.2.2 (by unfold hqOk;rw [decide_eq_true hB,hc4.2];rfl)⟩) (S.sel [0] G G) (H.keep [6,1,2] rfl)
  replace H:=H.keep [1,2,6] rfl;replace S:=S.drew;refine seq_wq [(0,true),(1,true),(2,true),(3,true),(4,true),(5,false),(6,true),(7,true),(8,true),(9,true),(10,true),(11,true),(12,true),(13,true),(14,true),(15,true),(16,true)] (by kernel_rfl) (by kernel_rfl) (S.sel [0] G G) fun K18 k18=>?_
  refine qF H<|qr 2 G<|qd G (fun _ S=>bG iZ iY G G (hday.adr (by omega)) (by omega))<|qd G (fun _ S=>(bP nE rfl))<|qd G (fun _ S=>aF aD rfl (hday.rd S (by omega) (by omega)))<|qK ?_;clear H a;intro a H
  refine aT rfl ?_
  refine aA H G G Tryz.func65 G G (Ak _ _) ?_;clear H a
  rintro _ _ a ⟨rfl,rfl⟩ H;rw [Bool.and_eq_false_iff.2 (by simp only [decide_eq_false_iff_not];omega)] at H;refine wpList_nil (And.intro (S.sel [0] rfl rfl) ?_);refine qF H<|qr 2 G<|qK ?_;clear H a;intro a H
  refine aK H G G G G G ?_;clear H a;intro a H
  refine aK H G G G G G ?_;clear H a;intro a H
  refine aK H G G G G G ?_;clear H a;intro a H
  refine aK H G G G G G ?_;clear H a;intro a H
  refine aK H G G G G G ?_;clear H a;intro a H
  refine aK H G G G G G ?_;clear H a;intro a H
  refine aK H G G G G G ?_;clear H a;intro a H
  refine aK H G G G G G ?_;clear H a;intro a H
  refine qF H<|qd G (fun _ S=>(aV G G G))<|qK ?_;clear H a;intro a H
  refine bL ?_
  refine k18 _ _ ?_;refine cond_ H rfl (fun hc5=>?_) (fun hc5=>?_)
  ·skip
   skip
   replace H:=H.keep [] rfl;refine sS H fun K19 k19=>sr 1 G<|sE ?_;clear H a;intro a H
   refine k19 _ ?_;refine wp_ret ?_;refine ret1 (fn:=Tryz.f68) rfl H rfl ?_;refine ⟨congrArg (Value.int .i64) ?_,(S.sel [] G G)⟩;unfold dayE;rw [if_neg (by omega),vY (k:=k) (by omega) (by unfold hqOk;rw [decide_eq_false hB];rfl)];rfl
  skip
  cases hc5
 refine wp_exit ?_;refine k9 _ _ ?_;refine sS H fun K20 k20=>sr 1 G<|sE ?_;clear H a;intro a H
 refine k20 _ ?_;refine wp_ret ?_;refine ret1 (fn:=Tryz.f68) rfl H rfl ?_;obtain rfl:k=day.length:=by omega
 exact ⟨congrArg (Value.int .i64) (sC hst (by rw [Cy hp.2.2];exact decide_eq_true (by omega))).symm,(S.sel [] G G)⟩
theorem lD (pl:Int) (ps:List Psg) (PA:Option Addr) (pc:Nat) (xs:List Int) (XA:Option Addr) (xc:Nat) (day:List Hq) (HA:Option Addr) (hcp:Nat) (DA:Nat→Option Addr) (dc:Nat→Nat) (l:List Prm) (LA:Option Addr) (lc:Nat) (w:World) (hps:InS w noF 7 PA ps.length (pcell ps)) (hpn:ps.length≤9223372036854775807) (hxs:InS w noF 1 XA xs.length (icl xs)) (hxn:xs.length≤9223372036854775807) (hday:InS w noF 3 HA day.length (hcl day DA dc)) (hdn:day.length≤9223372036854775807) (hdp:∀ k,k<day.length→InS w noF 1 (DA k) (day.getD k aFm).pe.length (icl (day.getD k aFm).pe)) (hdl:∀ k,k<day.length→(day.getD k aFm).pe.length≤9223372036854775807) (hl:InS w noF 5 LA l.length (dX l)) (hln:l.length≤9223372036854775807) :
    Calls Tryz.prog 27 [.agg [.int .i64 pl,.slice PA ps.length pc,.slice XA xs.length xc].toArray,.slice HA day.length hcp,.slice LA l.length lc].toArray w (Ret (fun v w'=>v = .int .i64 (keptE pl ps xs day l)∧St w noF [] w')):=by
 refine enter Tryz.func27 rfl Tryz.ntmps27 rfl (fun a H=>?_)
 have S:=St.start w
 refine seq_list fun K1 k1=>?_
 refine aO H rfl S G G ?_;intro b3 _ a hb3 hbw3 S H
 refine ls 1 H<|sr 1 G<|sE ?_;clear H a;intro a H
 refine k1 _ _ ?_;refine seq_list fun K2 k2=>?_
 refine ls 2 H<|sd ((aB bW cQ rfl S (i:=0) G G))<|sr 1 G<|sE ?_;clear H a;intro a H
 refine aA H G G Tryz.func68 G G (Al pl ps PA pc xs XA xc day HA hcp DA dc _ (hps.now S) hpn (hxs.now S) hxn (hday.now S) hdn (fun k hk=>(hdp k hk).now S) hdl) ?_;clear H a
 rintro _ _ a ⟨rfl,S2⟩ H;replace S:=S.call S2;clear S2;refine ls 1 H<|sr 1 G<|sE ?_;clear H a;intro a H
 refine k2 _ _ ?_;refine wp_seq_k fun K3 k3=>?_
 refine sS H fun K4 k4=>sr 2 G<|sE ?_;clear H a;intro a H
 refine k4 _ ?_;refine condN H rfl (fun hc1=>?_) (fun hc1=>?_)
 ·skip
  replace H:=H.keep [7] rfl;refine sS H fun K5 k5=>sr 2 G<|sE ?_;clear H a;intro a H
  refine k5 _ ?_;refine wp_ret ?_;refine ret1 (fn:=Tryz.f27) rfl H rfl ?_;refine ⟨congrArg (Value.int .i64) ?_,(S.sel [] G G)⟩;unfold keptE;rw [if_pos hc1]
 have hdE:dayE pl ps xs day=0:=by omega
 have hV:=jW (oE hdE).1
 have hP10:=hV.size
 refine wp_skip ?_;refine k3 _ _ ?_;refine wp_seq_k fun K6 k6=>?_
 refine sS H fun K7 k7=>sr 1 G<|sL gO rfl<|sr 1 G<|sE ?_;clear H a;intro a H
 refine k7 _ ?_;refine condL H rfl (fun hc2=>?_) (fun hc2=>?_)
 ·skip
  refine sS H fun K8 k8=>sr 1 G<|sE ?_;clear H a;intro a H
  refine k8 _ ?_;refine wp_ret ?_;refine ret1 (fn:=Tryz.f27) rfl H rfl ?_;exact ⟨congrArg (Value.int .i64) (oF hdE (Cz (by omega))).symm,(S.sel [] G G)⟩
 refine wp_skip ?_;refine k6 _ _ ?_;refine wp_seq_k fun K9 k9=>?_
 refine sS H fun K10 k10=>sr 1 G<|sE ?_;clear H a;intro a H
 refine k10 _ ?_;refine wp_block ?_;refine loop_st (X:=Nat) (R0:=_) [2,3] H rfl (fun k=>[(8,.int .i64 (k:Int))]) (fun k=>[]) (fun g k=>k≤l.length∧g+k=l.length∧allN (fun k=>prmOk pl (l.getD k aFj)) k=true) (l.length) 0 ?_ (S.sel [0] G G) (H.keep [8,2,3] rfl) ?_
 · exact ⟨by omega,by omega,rfl⟩
 clear H S a;intro g1 x1 a w1 hp S H K11 k11;obtain ⟨k,rfl⟩:∃ y,y=x1:=⟨_,rfl⟩;refine wp_seq_k fun K12 k12=>?_
 refine sS H fun K13 k13=>sr 2 G<|sL gO rfl<|sr 1 G<|sE ?_;clear H a;intro a H
 refine k13 _ ?_;refine condL H rfl (fun hc3=>?_) (fun hc3=>?_)
 ·skip
  refine wp_skip ?_;refine k12 _ _ ?_;refine wp_seq_k fun K14 k14=>?_
  refine wp_block ?_;replace H:=H.keep [2,3,8] rfl;refine seq_list fun K15 k15=>?_
  refine ls 4 H<|sr 2 G<|si gO fW G G (hl.adr (by omega)) (by omega)<|sd ((aU rO fW rfl S hl (by omega) (by omega)))<|sE ?_;clear H a;intro a H
  refine aJ H rfl S sY ?_;intro b9 _ a hb9 hbw9 S H
  refine aE H S (i:=0) G G G G fW G G ?_
  clear H a S;intro _ a S H;refine k15 _ _ ?_;replace H:=H.keep [2,3,8,9] rfl
  refine sS H fun K16 k16=>sf qC rfl<|sl S 0 aD G G G<|sf dY rfl<|sl S 1 aD G G G<|sd (aR G G (by unfold i64ok;omega))<|sc rfl Tryz.func32 G G (cJ _ _ _ _)<|sr 2 G<|sg 7 7 36 43 false G G (fun hg8=>by
      have hq8:=hg8;try simp only [oz] at hq8
      exact sy hg8<|sf qD rfl<|sy hg8<|sl S 0 aD G G G<|sy hg8<|sf dY rfl<|sy hg8<|sl S 1 aD G G G<|sy hg8<|sd (aR G G (by unfold i64ok;omega))<|sy hg8<|sc rfl Tryz.func32 G G (cJ _ _ _ _)<|sy hg8<|sr 1 G<|sz 7 G G G)<|so G G G<|sr 1 G<|sg 6 16 45 51 false G G (fun hg17=>by
      have hq17:=hg17;try simp only [oz] at hq17
      exact sy hg17<|sf mH rfl<|sy hg17<|sl S 0 aD G G G<|sy hg17<|sf lA rfl<|sy hg17<|sl S 0 aD G G G<|sy hg17<|sc rfl Tryz.func32 G G (cJ _ _ _ _)<|sy hg17<|sr 1 G<|sz 6 G G G)<|so G G G<|sr 1 G<|sg 3 24 53 56 false G G (fun hg25=>by
      have hq25:=hg25;try simp only [oz] at hq25
      exact sy hg25<|sf lA rfl<|sy hg25<|sl S 0 aD G G G<|sy hg25<|sr 1 G<|sz 3 G G G)<|so G G G<|sE ?_;clear H a;intro a H
  refine k16 _ ?_;refine cond_ H rfl (fun hc4=>?_) (fun hc4=>?_)
  ·skip
   try simp only [oz] at hc4
   replace H:=H.keep [] rfl;refine sS H fun K17 k17=>sr 1 G<|sE ?_;clear H a;intro a H
   refine k17 _ ?_;refine wp_ret ?_;refine ret1 (fn:=Tryz.f27) rfl H rfl ?_;exact ⟨congrArg (Value.int .i64) (oF hdE (Ig (k:=k) (by omega) (Rc (by omega)))).symm,(S.sel [] G G)⟩
  try simp only [oz] at hc4
  refine wp_skip ?_;refine k14 _ _ ?_;refine sO H<|sr 1 G<|sd (aI G G (by unfold i64ok;omega))<|sr 1 G<|sE ?_;clear H a;intro a H
  exact k11 (g1-1) (k+1) a _ (by omega) (⟨by omega,by omega,cM hp.2.2 (kI.2 (by omega))⟩) (S.sel [1] G G) (H.keep [8,2,3] rfl)
 refine wp_exit ?_;refine k9 _ _ ?_;refine sS H fun K19 k19=>sr 1 G<|sE ?_;clear H a;intro a H
 refine k19 _ ?_;refine wp_ret ?_;refine ret1 (fn:=Tryz.f27) rfl H rfl ?_;obtain rfl:k=l.length:=by omega
 exact ⟨congrArg (Value.int .i64) (wB hdE (Ih hp.2.2 (by omega))).symm,(S.sel [] G G)⟩
end
section
theorem kS (pl:Int) (ps:List Psg) (PA:Option Addr) (pc:Nat) (xs:List Int) (XA:Option Addr) (xc:Nat) (out:Int) (pe:List Int) (BA:Option Addr) (bc:Nat) (T:Int) (w:World) (hps:InS w noF 7 PA ps.length (pcell ps)) (hpn:ps.length≤9223372036854775807) (hxs:InS w noF 1 XA xs.length (icl xs)) (hxn:xs.length≤9223372036854775807) (hpe:InS w noF 1 BA pe.length (icl pe)) (hpen:pe.length≤9223372036854775807) :
    Calls Tryz.prog 25 [.agg [.int .i64 pl,.slice PA ps.length pc,.slice XA xs.length xc].toArray,.int .i64 out,.slice BA pe.length bc,.int .i64 T].toArray w (Ret (fun v w'=>v = .int .i64 (dO pl ps xs out pe T)∧St w noF [] w')):=by
 refine enter Tryz.func25 rfl Tryz.ntmps25 rfl (fun a H=>?_)
 have S:=St.start w
 refine seq_list fun K1 k1=>?_
 refine aO H rfl S G G ?_;intro b4 _ a hb4 hbw4 S H
 refine ls 1 H<|sr 1 G<|sE ?_;intro a H
 refine k1 _ _ ?_;refine seq_list fun K2 k2=>?_
 refine ls 1 H<|sd ((aB bW cQ rfl S (i:=0) G G))<|sE ?_;intro a H
 refine aA H G G Tryz.func8 G G (nO pl ps PA pc xs XA xc _ (hps.now S) hpn (hxs.now S) hxn) ?_;clear H a
 rintro _ _ a ⟨rfl,S2⟩ H;replace S:=S.call S2;clear S2;refine ls 1 H<|sr 1 G<|sE ?_;intro a H
 refine k2 _ _ ?_;refine wp_seq_k fun K3 k3=>?_
 refine sS H fun K4 k4=>sr 2 G<|sE ?_;intro a H
 refine k4 _ ?_;refine condN H rfl (fun hc1=>?_) (fun hc1=>?_)
 ·skip
  refine sS H fun K5 k5=>sr 2 G<|sE ?_;intro a H
  refine k5 _ ?_;refine wp_ret ?_;refine ret1 (fn:=Tryz.f25) rfl H rfl ?_;refine ⟨?_,(S.sel [] G G)⟩;unfold dO;rw [if_pos hc1]
 refine wp_skip ?_;refine k3 _ _ ?_;refine wp_seq_k fun K6 k6=>?_
 replace H:=H.keep [1,2,3,4] rfl;refine seq_list fun K7 k7=>?_
 refine ls 1 H<|sr 1 G<|sE ?_;intro a H
 refine aA H G G Tryz.func65 G G (Ak _ _) ?_;clear H a
 rintro _ _ a ⟨rfl,rfl⟩ H;refine ls 2 H<|sr 2 G<|sE ?_;intro a H
 apply bR (i:=3) (g:=18) (t:=22) (b:=false) 4 H S G G (by kernel_rfl) (by kernel_rfl) G G
 case h1=>
  intro hg4;have hq4:=hg4;try simp only [oz] at hq4
  refine ls 2 H<|sy hg4<|sd ((aB bW cQ rfl S (i:=0) G G))<|sy hg4<|sr 1 G<|sE ?_;intro a H
  refine cF H G G (by assumption) ?_
  refine aA H G G Tryz.func66 G G (qT pl ps PA pc xs XA xc pe BA bc _ (hpe.now S) hpen) ?_
  rintro _ _ a ⟨rfl,S2⟩ H;replace S:=S.call S2;clear S2;refine ls 1 H<|sy hg4<|sr 1 G<|sE ?_;intro a H
  exact wpList_nil ⟨H.strip 4 G G,(S.sel [0] G G)⟩
 clear H a S;intro a _ H S
 refine ls 6 H<|so G G G<|sr 1 G<|sg 3 9 24 27 false G G (fun hg10=>by
     have hq10:=hg10;try simp only [oz] at hq10
     exact sy hg10<|sr 1 G<|sy hg10<|sc rfl Tryz.func32 G G (cJ _ _ _ _)<|sy hg10<|sr 1 G<|sz 3 G G G)<|so G G G<|sE ?_;intro a H
 refine k7 _ _ ?_;refine cond_ H rfl (fun hc2=>?_) (fun hc2=>?_)
 ·skip
  try simp only [oz] at hc2
  replace H:=H.keep [] rfl;refine sS H fun K8 k8=>sr 1 G<|sE ?_;intro a H
  refine k8 _ ?_;refine wp_ret ?_;refine ret1 (fn:=Tryz.f25) rfl H rfl ?_;refine ⟨?_,(S.sel [] rfl rfl)⟩;unfold dO;rw [if_neg (by omega),if_neg (by simp only [Bool.and_eq_true,decide_eq_true_eq];rcases hc2 with (h|h)|h <;> first|(intro h9;omega)|(rw [h];simp))]
 try simp only [oz] at hc2
 refine wp_skip ?_;refine k6 _ _ ?_;refine sS H fun K9 k9=>sr 1 G<|sE ?_;intro a H
 refine k9 _ ?_;refine wp_ret ?_;refine ret1 (fn:=Tryz.f25) rfl H rfl ?_;refine ⟨?_,(S.sel [] G G)⟩;unfold dO;rw [if_neg (by omega),if_pos (by simp only [Bool.and_eq_true,decide_eq_true_eq];exact ⟨⟨by omega,hc2.1.2⟩,by omega⟩)]
end
section
theorem aBi {pe:List Int} (hpp:∀ k,k<pe.length→0≤pe.getD k 0∧pe.getD k 0≤1000) (hl:pe.length≤12) {k:Nat} (hk:k≤pe.length):0≤sumI pe k∧sumI pe k≤12000:=by
 have:=Aj hpp k hk
 omega
theorem Db (pl:Int) (ps:List Psg) (PA:Option Addr) (pc:Nat) (xs:List Int) (XA:Option Addr) (xc:Nat) (pe:List Int) (BA:Option Addr) (bc:Nat) (T0:Int) (w:World) (hps:InS w noF 7 PA ps.length (pcell ps)) (hpn:ps.length≤9223372036854775807) (hxs:InS w noF 1 XA xs.length (icl xs)) (hxn:xs.length≤9223372036854775807) (hpe:InS w noF 1 BA pe.length (icl pe)) (hpen:pe.length≤9223372036854775807) :
    Calls Tryz.prog 24 [.agg [.int .i64 pl,.slice PA ps.length pc,.slice XA xs.length xc].toArray,.slice BA pe.length bc,.int .i64 T0].toArray w (Ret (fun u w'=>∃ b,u = .bool b∧(b=false→ps.length≤26∧pe.length≤12)∧St w noF [] w')):=by
 refine enter Tryz.func24 rfl Tryz.ntmps24 rfl (fun a H=>?_)
 have S:=St.start w
 refine seq_list fun K1 k1=>?_
 refine aO H rfl S G G ?_;intro b3 _ a hb3 hbw3 S H
 refine ls 1 H<|sr 1 G<|sE ?_;intro a H
 refine k1 _ _ ?_;refine wp_seq_k fun K2 k2=>?_
 replace H:=H.keep [1,2,3] rfl;refine sS H fun K3 k3=>sf fS rfl<|sl S 0 iU G G G<|sL iR rfl<|sr 2 G<|sg 3 4 13 16 false G G (fun hg5=>sy hg5<|sr 1 G<|sy hg5<|sL aP rfl<|sy hg5<|sr 1 G<|sz 3 G G G)<|so G G G<|sE ?_;intro a H
 refine k3 _ ?_;refine cond_ H rfl (fun hc1=>?_) (fun hc1=>?_)
 ·skip
  try simp only [oz] at hc1
  replace H:=H.keep [] rfl;refine sS H fun K4 k4=>sr 1 G<|sE ?_;intro a H
  refine k4 _ ?_;refine wp_ret ?_;refine ret1 (fn:=Tryz.f24) rfl H rfl ?_;exact ⟨_,rfl,(fun h=>by cases h),(S.sel [] G G)⟩
 try simp only [oz] at hc1
 refine wp_skip ?_;refine k2 _ _ ?_;refine wp_seq_k fun K5 k5=>?_
 refine seq_list fun K6 k6=>?_
 refine ls 3 H<|sd ((aB bW cQ rfl S (i:=0) G G))<|sr 2 G<|sE ?_;intro a H
 refine aA H G G Tryz.func25 G G (kS pl ps PA pc xs XA xc 0 pe BA bc T0 _ (hps.now S) hpn (hxs.now S) hxn (hpe.now S) hpen) ?_;clear H a
 rintro _ _ a ⟨rfl,S2⟩ H;replace S:=S.call S2;clear S2;refine ls 1 H<|sr 1 G<|sE ?_;intro a H
 refine k6 _ _ ?_;refine condN H rfl (fun hc2=>?_) (fun hc2=>?_)
 ·skip
  refine sS H fun K7 k7=>sr 1 G<|sE ?_;intro a H
  refine k7 _ ?_;refine wp_ret ?_;refine ret1 (fn:=Tryz.f24) rfl H rfl ?_;exact ⟨_,rfl,fun _=>⟨by omega,by omega⟩,(S.sel [] G G)⟩
 obtain ⟨hst,hou,hcr,hti⟩:=jC (show dO pl ps xs 0 pe T0=0 by omega);obtain ⟨hpp,hpl'⟩:=qN hcr;refine wp_skip ?_;refine k5 _ _ ?_;refine sS H fun K8 k8=>sr 1 G<|sE ?_;intro a H
 refine k8 _ ?_;refine wp_seq_k fun K9 k9=>?_
 refine sS H fun K10 k10=>sr 1 G<|sE ?_;intro a H
 refine k10 _ ?_;refine wp_block ?_;refine loop_st (X:=Nat) (R0:=_) [1,2,3] H rfl (fun k=>[(7,.int .i64 (sumI pe k)),(8,.int .i64 (k:Int))]) (fun k=>[]) (fun g k=>k≤pe.length∧g+k=pe.length) (pe.length) 0 ?_ (S.sel [0] G G) (H.keep [7,8,1,2,3] rfl) ?_
 · exact ⟨by omega,by omega⟩
 clear H S a;intro g1 x1 a w1 hp S H K11 k11;obtain ⟨k,rfl⟩:∃ y,y=x1:=⟨_,rfl⟩;refine wp_seq_k fun K12 k12=>?_
 refine sS H fun K13 k13=>sr 2 G<|sL aP rfl<|sr 1 G<|sE ?_;intro a H
 refine k13 _ ?_;refine condL H rfl (fun hc3=>?_) (fun hc3=>?_)
 ·skip
  refine wp_skip ?_;refine k12 _ _ ?_;refine wp_seq_k fun K14 k14=>?_
  refine wp_block ?_;have hsb:=aBi hpp (by omega) (k:=k) (by omega);have hsk:=hpp k (by omega);replace H:=H.keep [1,2,3,7,8] rfl;refine sO H<|sr 3 G<|si aP aX G G (hpe.adr (by omega)) (by omega)<|slm aD rfl (hpe.rd S (by omega) (by omega))<|sd (aI G G (by unfold i64ok;omega))<|sr 1 G<|sE ?_;intro a H
  refine k14 _ _ ?_;replace H:=H.keep [1,2,3,7,8] rfl;refine sO H<|sr 1 G<|sd (aI G G (by unfold i64ok;omega))<|sr 1 G<|sE ?_;intro a H
  exact k11 (g1-1) (k+1) a _ (by omega) (⟨by omega,by omega⟩) (S.sel [0] G G) (H.keep [7,8,1,2,3] rfl)
 refine wp_exit ?_;refine k9 _ _ ?_;replace H:=H.keep [2,3,7] rfl;refine sS H fun K17 k17=>sf fS rfl<|sl S 0 iU G G G<|sL iR rfl<|sr 2 G<|sg 2 4 39 41 false G G (fun hg5=>sy hg5<|sr 1 G<|sy hg5<|sr 1 G<|sz 2 G G G)<|so G G G<|sr 1 G<|sg 2 8 43 45 false G G (fun hg9=>sy hg9<|sr 1 G<|sy hg9<|sr 1 G<|sz 2 G G G)<|so G G G<|sr 1 G<|sE ?_;intro a H
 refine k17 _ ?_;refine wp_ret ?_;refine ret1 (fn:=Tryz.f24) rfl H rfl ?_;exact ⟨_,rfl,fun _=>⟨by omega,by omega⟩,(S.sel [] G G)⟩
end
section
theorem lowA_next {l:List Int} {lo:Int} {k:Nat}:lowA l lo (k+1)=l.getD k 0+1:=by unfold lowA;rw [if_neg (by omega)];rfl
theorem pwh {hz:Int} (h:0≤hz∧hz≤12):0≤(1:Int)*2^hz.toNat∧(1:Int)*2^hz.toNat≤4096:=by
 rw [Int.one_mul];have h8:2^hz.toNat≤4096:=Nat.le_trans (Nat.pow_le_pow_right (by omega) (show hz.toNat≤12 by omega)) (by decide);have e:(2:Int)^hz.toNat=((2^hz.toNat:Nat):Int):=(Int.natCast_pow 2 hz.toNat).symm;rw [e];exact ⟨Int.natCast_nonneg _,Int.ofNat_le.2 h8⟩
def bcl (l:List Bool):Nat→Nat→Value:=fun k _ => .bool (l.getD k false)
theorem Ln {l:List Bool} {k:Nat} (hk:k<l.length) (h:(l.take k).all (fun b=>b)=true) (h2:l.getD k false=true):(l.take (k+1)).all (fun b=>b)=true:=by
 rw [List.getD_eq_getElem?_getD,List.getElem?_eq_getElem hk] at h2;rw [List.take_succ_eq_append_getElem hk,List.all_append,h];simpa using h2
theorem Wd {l:List Bool} {k:Nat} (hk:k<l.length) (h:l.getD k false=false):l.all (fun b=>b)=false:=by
 rw [List.getD_eq_getElem?_getD,List.getElem?_eq_getElem hk] at h;cases hb:l.all (fun b=>b) with
 | false=>rfl
 | true=>have:=List.all_eq_true.1 hb _ (List.getElem_mem hk);simp at h;rw [h] at this;cases this
theorem Lo (n many:Int) (w:World) (hm:0≤many∧many≤12) :
    Calls Tryz.prog 151 [.int .i64 n,.int .i64 many].toArray w (Ret (fun u w'=>u = .bool (setB n many)∧St w noF [] w')):=by
 have hpw:=pwh hm
 refine enter Tryz.func151 rfl Tryz.ntmps151 rfl (fun a H=>?_)
 have S:=St.start w
 refine sS H fun K1 k1=>sr 1 G<|sE ?_;intro a H
 refine k1 _ ?_;replace H:=H.keep [0,1] rfl;refine sS H fun K2 k2=>sr 3 G<|sg 4 2 7 11 true G G (fun hg3=>sy hg3<|sr 1 G<|sy hg3<|sr 1 G<|sy hg3<|sd (dU G G (by omega) (by omega) (by unfold i64ok;omega))<|sy hg3<|sr 1 G<|sz 4 G G G)<|sa G G G<|sr 1 G<|sE ?_;intro a H
 refine k2 _ ?_;refine wp_ret ?_;refine ret1 (fn:=Tryz.f151) rfl H rfl ?_;exact ⟨rfl,(S.sel [] G G)⟩
theorem Gl (n:Int) (w:World) :
    Calls Tryz.prog 153 [.int .i64 n].toArray w (Ret (fun u w'=>u = .bool (!decide (n=1))∧St w noF [] w')):=by
 refine enter Tryz.func153 rfl Tryz.ntmps153 rfl (fun a H=>?_)
 have S:=St.start w
 refine sS H fun K1 k1=>sr 1 G<|sE ?_;intro a H
 refine k1 _ ?_;refine sS H fun K2 k2=>sr 3 G<|sE ?_;intro a H
 refine k2 _ ?_;refine wp_ret ?_;refine ret1 (fn:=Tryz.f153) rfl H rfl ?_;exact ⟨rfl,(S.sel [] G G)⟩
theorem lI (l:List Int) (A:Option Addr) (cp:Nat) (lo hi:Int) (w:World) (hl:InS w noF 1 A l.length (icl l)) (hn:l.length≤9223372036854775807) (hlo:0≤lo∧lo≤1000) (hhi:0≤hi∧hi≤1000) :
    Calls Tryz.prog 152 [.slice A l.length cp,.int .i64 lo,.int .i64 hi].toArray w (Ret (fun u w'=>u = .bool (ascB l lo hi)∧St w noF [] w')):=by
 refine enter Tryz.func152 rfl Tryz.ntmps152 rfl (fun a H=>?_)
 have S:=St.start w
 refine sS H fun K1 k1=>sr 1 G<|sE ?_;clear H a;intro a H
 refine k1 _ ?_;refine wp_seq_k fun K2 k2=>?_
 refine sS H fun K3 k3=>sr 1 G<|sL aP rfl<|sr 1 G<|sE ?_;clear H a;intro a H
 refine k3 _ ?_;refine wp_block ?_;refine loop_st (X:=Nat×Int) (R0:=_) [2,9,10] H rfl (fun ⟨k,lw⟩=>[(1,.int .i64 lw),(11,.int .i64 (k:Int))]) (fun ⟨k,lw⟩=>[]) (fun g ⟨k,lw⟩=>k≤l.length∧g+k=l.length∧(0≤lw∧lw≤1000)∧lw=lowA l lo k∧∀ q,q<k→ascP l lo hi q=true) (l.length) (0,lo) ?_ (S.sel [] G G) (H.keep [1,11,2,9,10] rfl) ?_
 · exact ⟨by omega,by omega,by omega,rfl,fun q hq=>absurd hq (Nat.not_lt_zero q)⟩
 clear H S a;intro g1 x1 a w1 hp S H K4 k4;obtain ⟨k,lw⟩:=x1;dsimp only at hp S H;refine sS H fun K5 k5=>sr 1 G<|sE ?_;clear H a;intro a H
 refine k5 _ ?_;refine wp_seq_k fun K6 k6=>?_
 refine condL H rfl (fun hc1=>?_) (fun hc1=>?_)
 ·skip
  refine wp_skip ?_;refine k6 _ _ ?_;refine wp_seq_k fun K7 k7=>?_
  refine wp_block ?_;refine sS H fun K8 k8=>si aP aX G G (hl.adr (by omega)) (by omega)<|slm aD rfl (hl.rd S (by omega) (by omega))<|sr 1 G<|sE ?_;clear H a;intro a H
  refine k8 _ ?_;refine wp_seq_k fun K9 k9=>?_
  replace H:=H.keep [1,2,8,9,10,11] rfl;refine sS H fun K10 k10=>sr 4 G<|sg 3 3 18 21 false G G (fun hg4=>sy hg4<|sr 1 G<|sy hg4<|sr 1 G<|sy hg4<|sr 1 G<|sz 3 G G G)<|so G G G<|sE ?_;clear H a;intro a H
  refine k10 _ ?_;refine cond_ H rfl (fun hc2=>?_) (fun hc2=>?_)
  ·skip
   try simp only [oz] at hc2
   have hcx:=hc2
   refine sS H fun K11 k11=>sr 1 G<|sE ?_;clear H a;intro a H
   refine k11 _ ?_;refine wp_ret ?_;refine ret1 (fn:=Tryz.f152) rfl H rfl ?_;rw [Us (k:=k) (by omega) (by unfold ascP;rw [←hp.2.2.2.1];exact decide_eq_false (by simp at hcx;omega))];exact ⟨rfl,(S.sel [] G G)⟩
  try simp only [oz] at hc2
  have hcx:=hc2
  refine wp_skip ?_;refine k9 _ _ ?_;simp at hcx;replace H:=H.keep [2,8,9,10,11] rfl;refine sO H<|sr 1 G<|sd (aI G G (by unfold i64ok;omega))<|sr 1 G<|sE ?_;clear H a;intro a H
  refine k7 _ _ ?_;refine sO H<|sd (aI G G (by unfold i64ok;omega))<|sr 1 G<|sE ?_;clear H a;intro a H
  exact k4 (g1-1) (k+1,_) a _ (by omega) (⟨by omega,by omega,by omega,lowA_next.symm,fun q hq=>if h9:q<k then hp.2.2.2.2 q h9 else by
        obtain rfl:q=k:=by omega
        unfold ascP;rw [←hp.2.2.2.1];exact decide_eq_true (by omega)⟩) (S.sel [] G G) (H.keep [1,11,2,9,10] rfl)
 refine wp_exit ?_;refine k2 _ _ ?_;refine sS H fun K14 k14=>sr 1 G<|sE ?_;intro a H
 refine k14 _ ?_;refine wp_ret ?_;refine ret1 (fn:=Tryz.f152) rfl H rfl ?_;rw [Ur (fun q hq=>hp.2.2.2.2 q (by omega))];exact ⟨rfl,(S.sel [] G G)⟩
theorem Gm (l:List Bool) (A:Option Addr) (cp:Nat) (w:World) (hl:InS w noF 1 A l.length (bcl l)) (hn:l.length≤9223372036854775807) :
    Calls Tryz.prog 180 [.slice A l.length cp,.bool false].toArray w (Ret (fun u w'=>∃ n:Int,u = .int .i64 n∧decide (0≤n)=!(l.all fun b=>b)∧St w noF [] w')):=by
 refine enter Tryz.func180 rfl Tryz.ntmps180 rfl (fun a H=>?_)
 have S:=St.start w
 refine sS H fun K1 k1=>sr 1 G<|sE ?_;intro a H
 refine k1 _ ?_;refine wp_seq_k fun K2 k2=>?_
 refine sS H fun K3 k3=>sr 1 G<|sL Fk rfl<|sr 1 G<|sE ?_;intro a H
 refine k3 _ ?_;refine wp_block ?_;refine loop_st (X:=Nat) (R0:=_) [0,1,7] H rfl (fun k=>[(8,.int .i64 (k:Int))]) (fun k=>[]) (fun g k=>k≤l.length∧g+k=l.length∧(l.take k).all (fun b=>b)=true) (l.length) 0 ?_ (S.sel [] G G) (H.keep [8,0,1,7] rfl) ?_
 · exact ⟨by omega,by omega,rfl⟩
 clear H S a;intro g1 x1 a w1 hp S H K4 k4;obtain ⟨k,rfl⟩:∃ y,y=x1:=⟨_,rfl⟩;refine sS H fun K5 k5=>sr 1 G<|sE ?_;intro a H
 refine k5 _ ?_;refine wp_seq_k fun K6 k6=>?_
 refine condL H rfl (fun hc1=>?_) (fun hc1=>?_)
 ·skip
  refine wp_skip ?_;refine k6 _ _ ?_;refine wp_seq_k fun K7 k7=>?_
  refine wp_block ?_;refine sS H fun K8 k8=>sr 2 G<|sE ?_;intro a H
  refine k8 _ ?_;refine sS H fun K9 k9=>sr 3 G<|si Fk Oc G G (hl.adr (by omega)) (by omega)<|slm iP rfl (hl.rd S (by omega) (by omega))<|sd (Jw Tryz.underlying4 G G)<|sE ?_;intro a H
  refine k9 _ ?_;refine cond_ H rfl (fun hc2=>?_) (fun hc2=>?_)
  ·skip
   try simp only [oz] at hc2
   replace H:=H.keep [5] rfl;refine sS H fun K10 k10=>sr 2 G<|sE ?_;intro a H
   refine k10 _ ?_;refine wp_ret ?_;refine ret1 (fn:=Tryz.f180) rfl H rfl ?_;exact ⟨_,rfl,by rw [Wd (k:=k) (by omega) (by simpa using hc2)];exact decide_eq_true (by omega),(S.sel [] G G)⟩
  try simp only [oz] at hc2
  refine wp_skip ?_;refine k7 _ _ ?_;refine sO H<|sd (aI G G (by unfold i64ok;omega))<|sr 1 G<|sE ?_;intro a H
  exact k4 (g1-1) (k+1) a _ (by omega) (⟨by omega,by omega,Ln (by omega) hp.2.2 (by simpa using hc2)⟩) (S.sel [] G G) (H.keep [8,0,1,7] rfl)
 refine wp_exit ?_;refine k2 _ _ ?_;refine sS H fun K12 k12=>sr 1 G<|sE ?_;intro a H
 refine k12 _ ?_;refine wp_ret ?_;refine ret1 (fn:=Tryz.f180) rfl H rfl ?_;exact ⟨_,rfl,by rw [←List.take_of_length_le (l:=l) (i:=k) (by omega),hp.2.2];rfl,(S.sel [] G G)⟩
theorem xM (l:List Bool) (A:Option Addr) (cp:Nat) (w:World) (hl:InS w noF 1 A l.length (bcl l)) (hn:l.length≤9223372036854775807) :
    Calls Tryz.prog 149 [.slice A l.length cp,.bool false].toArray w (Ret (fun u w'=>u = .bool (!(l.all fun b=>b))∧St w noF [] w')):=by
 refine enter Tryz.func149 rfl Tryz.ntmps149 rfl (fun a H=>?_)
 have S:=St.start w
 refine sS H fun K1 k1=>sr 1 G<|sE ?_;intro a H
 refine k1 _ ?_;refine seq_list fun K2 k2=>?_
 refine ls 2 H<|sr 2 G<|sE ?_;intro a H
 refine aA H G G Tryz.func180 G G (Gm l A cp _ (hl.now S) hn) ?_;clear H a
 rintro _ _ a ⟨n,rfl,hn2,S2⟩ H;replace S:=S.call S2;clear S2;refine ls 2 H<|sr 2 G<|sE ?_;intro a H
 refine k2 _ _ ?_;refine wp_ret ?_;refine ret1 (fn:=Tryz.f149) rfl H rfl ?_;exact ⟨congrArg Value.bool hn2,(S.sel [] G G)⟩
end
section
theorem aBj {b0 b1 b2:Bool} {v0 v1 v2:Value} (h0:v0 = .bool b0) (h1:v1 = .bool b1) (h2:v2 = .bool b2):∀ k j,k<3→j<1→([[v0],[v1],[v2]].getD k []).getD j undef=bcl [b0,b1,b2] k j:=by
 subst h0;subst h1;subst h2;intro k j hk hj;obtain rfl:j=0:=by omega
 rcases (show k=0∨k=1∨k=2 by omega) with rfl|rfl|rfl <;> rfl
theorem Gn (hz:Int) (sw:List Int) (SA:Option Addr) (sc:Nat) (ws:List Wr) (QA:Option Addr) (qc cb:Nat) (n:Int) (w:World) (F:Nat→Prop) (S:St w F [boxM cb 121 [.int .i64 hz,.slice SA sw.length sc,.slice QA ws.length qc]] w) (hhz:0≤hz∧hz≤12) :
    Calls Tryz.prog 150 [.int .i64 n,.pointer (some ⟨cb,0,none⟩)].toArray w (Ret (fun u w'=>u = .bool (!setB n hz)∧St w F [boxM cb 121 [.int .i64 hz,.slice SA sw.length sc,.slice QA ws.length qc]] w')):=by
 refine enter Tryz.func150 rfl Tryz.ntmps150 rfl (fun a H=>?_)
 skip
 refine sS H fun K1 k1=>sr 1 G<|sE ?_;intro a H
 refine k1 _ ?_;refine seq_list fun K2 k2=>?_
 refine ls 3 H<|sr 1 G<|sf qG rfl<|sl S 0 aD G G G<|sE ?_;intro a H
 refine aA H G G Tryz.func151 G G (Lo n hz _ hhz) ?_;clear H a
 rintro _ _ a ⟨rfl,S2⟩ H;replace S:=S.call S2;clear S2;refine ls 2 H<|sr 2 G<|sE ?_;intro a H
 refine k2 _ _ ?_;refine wp_ret ?_;refine ret1 (fn:=Tryz.f150) rfl H rfl ?_;exact ⟨rfl,(S.sel [0] G G)⟩
theorem We (hz:Int) (sw:List Int) (SA:Option Addr) (sc:Nat) (ws:List Wr) (QA:Option Addr) (qc cb:Nat) (w:World) (F:Nat→Prop) (S:St w F [boxM cb 121 [.int .i64 hz,.slice SA sw.length sc,.slice QA ws.length qc]] w) (hsw:InS w F 1 SA sw.length (icl sw)) (hn:sw.length≤9223372036854775807) (hhz:0≤hz∧hz≤12):Calls Tryz.prog 43 #[.slice SA sw.length sc,.func (.func 150) #[] #[.pointer (some ⟨cb,0,none⟩)]] w (Ret fun u w'=>u = .bool (sw.any fun n=>!setB n hz)∧St w F [boxM cb 121 [.int .i64 hz,.slice SA sw.length sc,.slice QA ws.length qc]] w'):=by
 have hh:=dT sw SA sc 150 _ [] [.pointer (some ⟨cb,0,none⟩)] (fun n=>!setB n hz) _ w F S hsw hn Tryz.func150 G G (fun k w' hk S'=>Gn hz sw SA sc ws QA qc cb (sw.getD k 0) w' _ S'.startR hhz)
 exact hh
theorem Wg (l:List Int) (A:Option Addr) (cp:Nat) (w:World) (hl:InS w noF 1 A l.length (icl l)) (hn:l.length≤9223372036854775807):Calls Tryz.prog 43 #[.slice A l.length cp,.func (.func 153) #[] #[]] w (Ret fun u w'=>u = .bool (l.any fun n=>!decide (n=1))∧St w noF [] w'):=by
 have S0:=(St.start w).newNil 3 1 (icl [])
 have hh:=dT l A cp 153 _ [] [] (fun n=>!decide (n=1)) _ w noF S0 hl hn Tryz.func153 G G (fun k w' hk S'=>qJ (Gl (l.getD k 0) w') fun v w'' h=>⟨h.1,S'.startR.call h.2⟩)
 exact qJ hh fun v w'' h=>⟨h.1,h.2.sel [] rfl rfl⟩
end
section
theorem aBk {hz:Int} {sw:List Int} {ws:List Wr}:([(decide (1≤hz)&&decide (hz≤8)),(decide (1≤(sw.length:Int))&&decide ((sw.length:Int)≤12)),(decide (1≤(ws.length:Int))&&decide ((ws.length:Int)≤24))].all fun b=>b)=cirSz hz sw ws:=by unfold cirSz;simp only [List.all_cons,List.all_nil,Bool.and_true]
section
variable {hz:Int} {sw:List Int} {ws:List Wr} {i:Nat}
theorem Rj (h:cirSz hz sw ws=false):circE hz sw ws=30:=nH (by unfold cirOk;rw [h];rfl)
theorem Rk (h:(sw.any fun n=>!setB n hz)=true):circE hz sw ws=30:=nH (by unfold cirOk;rw [h];simp)
theorem qU (hi:i<ws.length) (h:wrOk sw.length ws.length ws i=false):circE hz sw ws=30:=nH (by
 unfold cirOk
 cases hb:(List.range ws.length).all (wrOk sw.length ws.length ws) with
 | false=>simp
 | true=>rw [List.all_eq_true.1 hb i (List.mem_range.2 hi)] at h;cases h)
theorem Rl (h:¬ heldN ws 0 ws.length=0):circE hz sw ws=30:=nH (by unfold cirOk;rw [decide_eq_false h];simp)
theorem Rm (h:((List.range (ws.length-1)).any fun q=>!decide (heldN ws (q+1) ws.length=1))=true):circE hz sw ws=30:=nH (by unfold cirOk;rw [h];simp)
theorem Rn (h1:cirSz hz sw ws=true) (h2:(sw.any fun n=>!setB n hz)=false) (h3:∀ i,i<ws.length→wrOk sw.length ws.length ws i=true) (h4:heldN ws 0 ws.length=0) (h5:((List.range (ws.length-1)).any fun q=>!decide (heldN ws (q+1) ws.length=1))=false):circE hz sw ws=0:=Kl (by
 unfold cirOk
 rw [h1,h2,decide_eq_true h4,h5,List.all_eq_true.2 (fun i hi=>h3 i (List.mem_range.1 hi))];rfl)
theorem Zl (h:cirSz hz sw ws=true):(1≤hz∧hz≤8)∧(1≤sw.length∧sw.length≤12)∧(1≤ws.length∧ws.length≤24):=by
 unfold cirSz at h
 simp only [Bool.and_eq_true,decide_eq_true_eq] at h
 omega
theorem Am {l:List Int} {k:Nat}:∀ q,0≤cntO l k q∧cntO l k q≤q:=fun q=>by
  induction q with
  | zero=>exact ⟨Int.le_refl _,Int.le_refl _⟩
  | succ q ih=>
    have e:cntO l k (q+1)=cntO l k q+(if l.getD q 0=(k:Int) then 1 else 0):=rfl
    rw [e];split <;> omega
theorem pG {k i:Nat}:heldN ws k (i+1)=heldN ws k i+heldW (ws.getD i Wr.zero) k:=rfl
theorem Ii (k:Nat):∀ i,(∀ q,q<i→wrOk sw.length ws.length ws q=true)→0≤heldN ws k i∧heldN ws k i≤8*i:=fun i=>by
  induction i with
  | zero=>intro _;exact ⟨Int.le_refl _,Int.le_refl _⟩
  | succ i ih=>
    intro h;have h1:=ih fun q hq=>h q (by omega)
    have h2:=h i (by omega)
    rw [pG];unfold heldW;split
    · omega
    · next hk=>
      unfold wrOk at h2
      rw [if_neg hk] at h2;split at h2
      · simp only [Bool.and_eq_true,decide_eq_true_eq] at h2
        have:=Am (l:=(ws.getD i Wr.zero).of) (k:=k) (ws.getD i Wr.zero).of.length
        omega
      · cases h2
end
section
variable {sw l:List Int} {ws:List Wr} {i k j q:Nat}
theorem Gp (hk:(ws.getD i Wr.zero).kind=1) (h1:(ws.getD i Wr.zero).of.length=1) (h:ascB (ws.getD i Wr.zero).of 0 sw.length=true):wrOk sw.length ws.length ws i=true:=by
 unfold wrOk;rw [if_pos hk,h,decide_eq_true h1];rfl
theorem Gq (hk:(ws.getD i Wr.zero).kind=1) (h:¬ ((ws.getD i Wr.zero).of.length:Int)=1∨ascB (ws.getD i Wr.zero).of 0 sw.length=false):wrOk sw.length ws.length ws i=false:=by
 unfold wrOk;rw [if_pos hk]
 rcases h with h|h
 ·rw [decide_eq_false (by omega)];rfl
 ·rw [h];simp
theorem oG (h1:¬ (ws.getD i Wr.zero).kind=1) (hk:(ws.getD i Wr.zero).kind=2∨(ws.getD i Wr.zero).kind=3) (h2:1≤(ws.getD i Wr.zero).of.length∧(ws.getD i Wr.zero).of.length≤8) (h:ascB (ws.getD i Wr.zero).of ((i:Int)+1) ws.length=true):wrOk sw.length ws.length ws i=true:=by
 unfold wrOk;rw [if_neg h1,if_pos hk,h,decide_eq_true h2];rfl
theorem tC (h1:¬ (ws.getD i Wr.zero).kind=1) (hk:(ws.getD i Wr.zero).kind=2∨(ws.getD i Wr.zero).kind=3) (h:(((ws.getD i Wr.zero).of.length:Int)<1∨8<((ws.getD i Wr.zero).of.length:Int))∨ascB (ws.getD i Wr.zero).of ((i:Int)+1) ws.length=false):wrOk sw.length ws.length ws i=false:=by
 unfold wrOk;rw [if_neg h1,if_pos hk]
 rcases h with h|h
 ·rw [decide_eq_false (by omega)];rfl
 ·rw [h];simp
theorem Wh (h1:¬ (ws.getD i Wr.zero).kind=1) (h2:¬ (ws.getD i Wr.zero).kind=2) (h3:¬ (ws.getD i Wr.zero).kind=3):wrOk sw.length ws.length ws i=false:=by
 unfold wrOk;rw [if_neg h1,if_neg (fun h=>h.elim h2 h3)]
theorem wD (h1:(ws.getD i Wr.zero).kind=1):heldN ws k i=heldN ws k (i+1):=by rw [pG];unfold heldW;rw [if_pos h1,Int.add_zero]
theorem sG (h1:¬ (ws.getD i Wr.zero).kind=1) (hq:q=(ws.getD i Wr.zero).of.length):heldN ws k i+cntO (ws.getD i Wr.zero).of k q=heldN ws k (i+1):=by rw [pG];unfold heldW;rw [if_neg h1,hq]
theorem Dc (hx:0≤l.getD q 0) (hj:j<1):cput (fun k _ => .int .i64 (heldN ws k i+cntO l k q)) (l.getD q 0).toNat 0 (.int .i64 (heldN ws (l.getD q 0).toNat i+cntO l (l.getD q 0).toNat q+1)) k j = .int .i64 (heldN ws k i+cntO l k (q+1)):=by
 have e:cntO l k (q+1)=cntO l k q+(if l.getD q 0=(k:Int) then 1 else 0):=rfl
 unfold cput
 rw [e];by_cases h:k=(l.getD q 0).toNat
 ·rw [if_pos ⟨h,by omega⟩,if_pos (by omega),←h,Int.add_assoc]
 ·rw [if_neg (fun h9=>h h9.1),if_neg (by omega),Int.add_zero]
end
theorem oH {ws:List Wr}:((List.range (ws.length-1)).map fun q=>heldN ws (q+1) ws.length).length=ws.length-1:=by rw [List.length_map,List.length_range]
theorem yI {ws:List Wr}:(((List.range (ws.length-1)).map fun q=>heldN ws (q+1) ws.length).any fun n=>!decide (n=1))=(List.range (ws.length-1)).any fun q=>!decide (heldN ws (q+1) ws.length=1):=by rw [List.any_map];rfl
theorem Ro {ws:List Wr} {q:Nat} (h:q<ws.length-1):((List.range (ws.length-1)).map fun q=>heldN ws (q+1) ws.length).getD q 0=heldN ws (q+1) ws.length:=by
 rw [List.getD_eq_getElem?_getD,List.getElem?_eq_getElem (by rw [oH];exact h),Option.getD_some,List.getElem_map,List.getElem_range]
theorem Rp {ws:List Wr} {w:World} {A:Option Addr} (h:InS w noF 1 A ws.length (fun k _ => .int .i64 (heldN ws k ws.length))) (hw:1≤ws.length):InS w noF 1 (cutA A ws.length 1 1) ((List.range (ws.length-1)).map fun q=>heldN ws (q+1) ws.length).length (icl ((List.range (ws.length-1)).map fun q=>heldN ws (q+1) ws.length)):=by
 rw [oH];refine (h.cut (lo:=1) (hi:=ws.length) hw (Nat.le_refl _) (Nat.le_refl _)).congr fun k j hk hj=>?_
 unfold icl
 rw [Ro hk,Nat.add_comm 1 k]
theorem Lp (hz:Int) (sw:List Int) (SA:Option Addr) (sc:Nat) (ws:List Wr) (QA:Option Addr) (qc:Nat) (OA:Nat→Option Addr) (oc:Nat→Nat) (w:World) (hsw:InS w noF 1 SA sw.length (icl sw)) (hws:InS w noF 2 QA ws.length (gJ ws OA oc)) (hof:∀ k,k<ws.length→InS w noF 1 (OA k) (ws.getD k Wr.zero).of.length (icl (ws.getD k Wr.zero).of)) (hsn:sw.length≤9223372036854775807) (hwn:ws.length≤9223372036854775807) (hofn:∀ k,k<ws.length→(ws.getD k Wr.zero).of.length≤9223372036854775807) :
    Calls Tryz.prog 120 [.agg [.int .i64 hz,.slice SA sw.length sc,.slice QA ws.length qc].toArray].toArray w (Ret (fun u w'=>u = .int .i64 (circE hz sw ws)∧St w noF [] w')):=by
 refine enter Tryz.func120 rfl Tryz.ntmps120 rfl (fun a H=>?_)
 have S:=St.start w
 refine seq_list fun K1 k1=>?_
 refine aO H rfl S G G ?_;intro b1 _ a hb1 hbw1 S H
 refine ls 1 H<|sr 1 G<|sE ?_;clear H a;intro a H
 refine k1 _ _ ?_;replace H:=H.keep [1] rfl;refine seq_list fun K2 k2=>?_
 refine ls 28 H<|sf qG rfl<|sl S 0 aD G G G<|sr 2 G<|sg 3 3 12 15 true G G (fun hg4=>sy hg4<|sf qG rfl<|sy hg4<|sl S 0 aD G G G<|sy hg4<|sr 1 G<|sz 3 G G G)<|sa G G G<|sf jU rfl<|sl S 0 bE G G G<|sL aP rfl<|sr 2 G<|sg 4 12 21 25 true G G (fun hg13=>sy hg13<|sf jU rfl<|sy hg13<|sl S 0 bE G G G<|sy hg13<|sL aP rfl<|sy hg13<|sr 1 G<|sz 4 G G G)<|sa G G G<|sf kN rfl<|sl S 0 mC G G G<|sL mG rfl<|sr 2 G<|sg 4 22 31 35 true G G (fun hg23=>sy hg23<|sf kN rfl<|sy hg23<|sl S 0 mC G G G<|sy hg23<|sL mG rfl<|sy hg23<|sr 1 G<|sz 4 G G G)<|sa G G G<|sE ?_;clear H a;intro a H
 refine aY H rfl S Fk Oc aEe G G G G G G G G G ?_;intro A1 _ a hA1 S H
 replace S:=S.recell (i:=0) rfl (cell':=bcl [(decide (1≤hz)&&decide (hz≤8)),(decide (1≤(sw.length:Int))&&decide ((sw.length:Int)≤12)),(decide (1≤(ws.length:Int))&&decide ((ws.length:Int)≤24))]) (aBj G G G);refine ls 1 H<|sr 1 G<|sE ?_;clear H a;intro a H
 refine k2 _ _ ?_;refine wp_seq_k fun K3 k3=>?_
 replace H:=H.keep [1,3] rfl;refine seq_list fun K4 k4=>?_
 refine ls 1 H<|sr 1 G<|sE ?_;clear H a;intro a H
 refine aA H G G Tryz.func149 G G (xM [(decide (1≤hz)&&decide (hz≤8)),(decide (1≤(sw.length:Int))&&decide ((sw.length:Int)≤12)),(decide (1≤(ws.length:Int))&&decide ((ws.length:Int)≤24))] _ _ _ (aEi S (i:=0) rfl) (by simp)) ?_;clear H a
 rintro _ _ a ⟨rfl,S2⟩ H;replace S:=S.call S2;clear S2;rw [aBk] at H;refine ls 1 H<|sr 1 G<|sE ?_;clear H a;intro a H
 apply bR (i:=2) (g:=40) (t:=44) (b:=false) 4 H S G G (by kernel_rfl) (by kernel_rfl) G G
 case h1=>
  intro hg3;refine ls 3 H<|sy hg3<|sf jU rfl<|sy hg3<|sl S 1 bE G G G<|sy hg3<|sr 1 G<|sE ?_;intro a H
  refine cF H G G (by assumption) ?_
  have S1:=(S.sel [1] G G)
  refine aA H G G Tryz.func43 G G (We hz sw SA sc ws QA qc b1 _ _ S1.startR (hsw.nowR S1) hsn (by have:=Zl (hz:=hz) (sw:=sw) (ws:=ws) (by simpa using hg3);omega)) ?_
  rintro _ _ a ⟨rfl,S2⟩ H;replace S:=(S.sel [1,0] rfl rfl).callR (M:=[_]) S2;clear S1 S2;exact wpList_nil ⟨H.strip 4 rfl rfl,(S.sel [1,0] rfl rfl)⟩
 clear H a S;intro a _ H S;refine ls 1 H<|so G G G<|sE ?_;clear H a;intro a H
 refine k4 _ _ ?_;refine cond_ H rfl (fun hc1=>?_) (fun hc1=>?_)
 ·skip
  try simp only [oz] at hc1
  refine sS H fun K5 k5=>sr 1 G<|sE ?_;clear H a;intro a H
  refine k5 _ ?_;refine wp_ret ?_;refine ret1 (fn:=Tryz.f120) rfl H rfl ?_;rw [show circE hz sw ws=30 from hc1.elim Rj Rk];exact ⟨rfl,(S.sel [] G G)⟩
 try simp only [oz] at hc1
 refine wp_skip ?_;refine k3 _ _ ?_;obtain ⟨hS1,hS2,hS3⟩:=Zl hc1.1;replace H:=H.keep [1] rfl;refine seq_list fun K6 k6=>?_
 refine ls 3 H<|sf kN rfl<|sl S 1 mC G G G<|sL mG rfl<|sE ?_;clear H a;intro a H
 refine fP (n:=ws.length) H rfl S aP aX fD mQ rfl (by decide) G G (by omega) (by omega) ?_;intro A2 _ a hA2 S H
 generalize A2=AH at S H
 replace S:=S.recell (i:=0) rfl (cell':=fun k _ => .int .i64 (heldN ws k 0)) (fun k j _ hj=>by
   obtain rfl:j=0:=by omega
   rfl)
 refine ls 1 H<|sr 1 G<|sE ?_;clear H a;intro a H
 refine k6 _ _ ?_;refine wp_seq_k fun K7 k7=>?_
 refine sS H fun K8 k8=>sf kN rfl<|sl S 2 mC G G G<|sL mG rfl<|sr 1 G<|sE ?_;clear H a;intro a H
 refine k8 _ ?_;refine wp_block ?_;refine loop_st (X:=Nat) (R0:=_) [1,4,51,52] H rfl (fun i=>[(53,.int .i64 (i:Int))]) (fun i=>[ownM 3 1 AH ws.length ws.length (fun k _ => .int .i64 (heldN ws k i))]) (fun g i=>i≤ws.length∧g+i=ws.length∧∀ q,q<i→wrOk sw.length ws.length ws q=true) (ws.length) 0 ?_ (S.sel [0,1,2] G G) (H.keep [53,1,4,51,52] rfl) ?_
 · exact ⟨by omega,by omega,fun q hq=>absurd hq (Nat.not_lt_zero q)⟩
 clear H S a;intro g1 x1 a w1 hp S H K9 k9;obtain ⟨i,rfl⟩:∃ y,y=x1:=⟨_,rfl⟩;obtain ⟨hi1,hi2,hwk⟩:=hp;refine sS H fun K10 k10=>sr 1 G<|sE ?_;clear H a;intro a H
 refine k10 _ ?_;refine wp_seq_k fun K11 k11=>?_
 refine condL H rfl (fun hc2=>?_) (fun hc2=>?_)
 ·skip
  refine wp_skip ?_;refine k11 _ _ ?_;refine wp_seq_k fun K12 k12=>?_
  refine wp_block ?_;refine seq_list fun K13 k13=>?_
  refine ls 3 H<|sr 1 G<|si mG oW G G (hws.adr (by omega)) (by omega)<|sd ((aU Hj oW rfl S hws (by omega) (by omega)))<|sE ?_;clear H a;intro a H
  refine aJ H rfl S zT ?_;intro b6 _ a hb6 hbw6 S H
  refine ls 1 H<|sr 1 G<|sE ?_;clear H a;intro a H
  refine aE H S (i:=0) G G G G oW G G ?_
  clear H a S;intro _ a S H;refine k13 _ _ ?_;refine sS H fun K14 k14=>sf Cf rfl<|sl S 0 aD G G G<|sE ?_;clear H a;intro a H
  refine k14 _ ?_;refine wp_block ?_;replace H:=H.keep [1,4,5,6,51,52,53,59] rfl;refine sS H fun K15 k15=>sr 2 G<|sE ?_;clear H a;intro a H
  refine k15 _ ?_;refine condE H rfl (fun hc3=>?_) (fun hc3=>?_)
  ·skip
   replace H:=H.keep [1,4,6,51,52,53] rfl;refine seq_list fun K16 k16=>?_
   refine ls 5 H<|sf eT rfl<|sl S 0 bE G G G<|sL aP rfl<|sr 2 G<|sE ?_;clear H a;intro a H
   apply bR (i:=4) (g:=66) (t:=73) (b:=false) 7 H S G G (by kernel_rfl) (by kernel_rfl) G G
   case h1=>
    intro hg5;refine ls 5 H<|sy hg5<|sf eT rfl<|sy hg5<|sl S 0 bE G G G<|sy hg5<|sf jU rfl<|sy hg5<|sl S 3 bE G G G<|sy hg5<|sL aP rfl<|sE ?_;intro a H
    refine cF H G G (by assumption) ?_
    refine aA H G G Tryz.func152 G G (lI (ws.getD i Wr.zero).of (OA i) (oc i) _ _ _ ((hof i (by omega)).now S) (hofn i (by omega)) (by omega) (by omega)) ?_
    rintro _ _ a ⟨rfl,S2⟩ H;replace S:=S.call S2;clear S2;refine ls 1 H<|sy hg5<|sr 1 G<|sE ?_;intro a H
    exact wpList_nil ⟨H.strip 7 G G,(S.sel [0,1,2,3] G G)⟩
   clear H a S;intro a _ H S;refine ls 1 H<|so G G G<|sE ?_;clear H a;intro a H
   refine k16 _ _ ?_;refine cond_ H rfl (fun hc4=>?_) (fun hc4=>?_)
   ·skip
    try simp only [oz] at hc4
    replace H:=H.keep [] rfl;refine sS H fun K17 k17=>sr 1 G<|sE ?_;clear H a;intro a H
    refine k17 _ ?_;refine wp_ret ?_;refine ret1 (fn:=Tryz.f120) rfl H rfl ?_;rw [qU (by omega) (Gq hc3 hc4)];exact ⟨rfl,(S.sel [] G G)⟩
   try simp only [oz] at hc4
   refine wp_skip ?_;refine k12 _ _ ?_;replace S:=S.recell (i:=1) rfl (cell':=fun k _ => .int .i64 (heldN ws k (i+1))) (fun k j _ _=>congrArg (Value.int .i64) (by first|exact wD hc3|exact sG hc3 (by omega)));refine sO H<|sd (aI G G (by unfold i64ok;omega))<|sr 1 G<|sE ?_;clear H a;intro a H
   exact k9 (g1-1) (i+1) a _ (by omega) (⟨by omega,by omega,fun q hq=>if h9:q<i then hwk q h9 else by
         obtain rfl:q=i:=by omega
         first|exact Gp hc3 (by omega) hc4.2|exact oG hc3 (.inl hc5) (by omega) hc7.2|exact oG hc3 (.inr hc9) (by omega) hc10.2⟩) (S.sel [1,2,3] G G) (H.keep [53,1,4,51,52] rfl)
  refine wp_seq_k fun K19 k19=>?_
  refine sS H fun K20 k20=>sr 2 G<|sE ?_;clear H a;intro a H
  refine k20 _ ?_;refine condE H rfl (fun hc5=>?_) (fun hc5=>?_)
  ·skip
   refine wp_skip ?_;refine k19 _ _ ?_;refine cond_ H rfl (fun hc6=>?_) (fun hc6=>?_)
   ·skip
    try simp only [oz] at hc6
    refine wp_seq_k fun K21 k21=>?_
    replace H:=H.keep [1,4,5,6,51,52,53] rfl;refine seq_list fun K22 k22=>?_
    refine ls 11 H<|sf eT rfl<|sl S 0 bE G G G<|sL aP rfl<|sr 2 G<|sg 4 4 82 86 false G G (fun hg5=>sy hg5<|sf eT rfl<|sy hg5<|sl S 0 bE G G G<|sy hg5<|sL aP rfl<|sy hg5<|sr 1 G<|sz 4 G G G)<|so G G G<|sr 1 G<|sE ?_;clear H a;intro a H
    apply bR (i:=10) (g:=88) (t:=97) (b:=false) 9 H S G G (by kernel_rfl) (by kernel_rfl) G G
    case h1=>
     intro hg11;refine ls 7 H<|sy hg11<|sf eT rfl<|sy hg11<|sl S 0 bE G G G<|sy hg11<|sr 1 G<|sy hg11<|sd (aI G G (by unfold i64ok;omega))<|sy hg11<|sf kN rfl<|sy hg11<|sl S 3 mC G G G<|sy hg11<|sL mG rfl<|sE ?_;intro a H
     refine cF H G G (by assumption) ?_
     refine aA H G G Tryz.func152 G G (lI (ws.getD i Wr.zero).of (OA i) (oc i) _ _ _ ((hof i (by omega)).now S) (hofn i (by omega)) (by omega) (by omega)) ?_
     rintro _ _ a ⟨rfl,S2⟩ H;replace S:=S.call S2;clear S2;refine ls 1 H<|sy hg11<|sr 1 G<|sE ?_;intro a H
     exact wpList_nil ⟨H.strip 9 G G,(S.sel [0,1,2,3] G G)⟩
    clear H a S;intro a _ H S;refine ls 1 H<|so G G G<|sE ?_;clear H a;intro a H
    refine k22 _ _ ?_;refine cond_ H rfl (fun hc7=>?_) (fun hc7=>?_)
    ·skip
     try simp only [oz] at hc7
     replace H:=H.keep [] rfl;refine sS H fun K23 k23=>sr 1 G<|sE ?_;clear H a;intro a H
     refine k23 _ ?_;refine wp_ret ?_;refine ret1 (fn:=Tryz.f120) rfl H rfl ?_;rw [qU (by omega) (tC hc3 (.inl hc5) hc7)];exact ⟨rfl,(S.sel [] G G)⟩
    try simp only [oz] at hc7
    refine wp_skip ?_;refine k21 _ _ ?_;refine sS H fun K24 k24=>sf eT rfl<|sl S 0 bE G G G<|sL aP rfl<|sr 1 G<|sE ?_;clear H a;intro a H
    refine k24 _ ?_;refine wp_block ?_;replace S:=S.recell (i:=1) rfl (cell':=fun k _ => .int .i64 (heldN ws k i+cntO (ws.getD i Wr.zero).of k 0)) (fun k j _ hj=>congrArg (Value.int .i64) (Int.add_zero _).symm);refine loop_st (X:=Nat) (R0:=_) [1,4,51,52,53,100,101] H rfl (fun q=>[(102,.int .i64 (q:Int))]) (fun q=>[ownM 3 1 AH ws.length ws.length (fun k _ => .int .i64 (heldN ws k i+cntO (ws.getD i Wr.zero).of k q))]) (fun g q=>q≤(ws.getD i Wr.zero).of.length∧g+q=(ws.getD i Wr.zero).of.length) ((ws.getD i Wr.zero).of.length) 0 ?_ (S.sel [1,0,2,3] G G) (H.keep [102,1,4,51,52,53,100,101] rfl) ?_
    · exact ⟨by omega,by omega⟩
    clear H S a;intro g2 x2 a w2 hp S H K25 k25;obtain ⟨q,rfl⟩:∃ y,y=x2:=⟨_,rfl⟩;refine sS H fun K26 k26=>sr 1 G<|sE ?_;clear H a;intro a H
    refine k26 _ ?_;refine wp_seq_k fun K27 k27=>?_
    refine condL H rfl (fun hc8=>?_) (fun hc8=>?_)
    ·skip
     refine wp_skip ?_;refine k27 _ _ ?_;refine wp_seq_k fun K28 k28=>?_
     refine wp_block ?_;refine sS H fun K29 k29=>si aP aX G G ((hof i (by omega)).adr (by omega)) (by omega)<|slm aD rfl ((hof i (by omega)).rd S (by omega) (by omega))<|sr 1 G<|sE ?_;clear H a;intro a H
     refine k29 _ ?_;have hhb:=Ii (sw:=sw) (ws:=ws) ((ws.getD i Wr.zero).of.getD q 0).toNat i hwk;have hcb:=Am (l:=(ws.getD i Wr.zero).of) (k:=((ws.getD i Wr.zero).of.getD q 0).toNat) q;have hxb:(i:Int)+1≤(ws.getD i Wr.zero).of.getD q 0∧(ws.getD i Wr.zero).of.getD q 0<(ws.length:Int):=by first|exact rV hc7.2 (k:=q) (by omega)|exact rV hc10.2 (k:=q) (by omega)
     replace H:=H.keep [1,4,8,51,52,53,100,101,102] rfl;refine one_list ?_;refine ls 6 H<|sr 2 G<|sI aP aX G G (aEj S (i:=0) rfl (by omega)) (by omega) (by omega)<|slm aD rfl (aEk S (i:=0) rfl (by omega) (by omega))<|sd (aI G G (by unfold i64ok;omega))<|sI aP aX G G (aEj S (i:=0) rfl (by omega)) (by omega) (by omega)<|sE ?_;clear H a;intro a H
     refine bC H S (i:=0) G G G (by omega) (by omega) aX rfl ?_
     clear H a S;intro _ a S H;replace S:=S.recell (i:=0) rfl (cell':=fun k _ => .int .i64 (heldN ws k i+cntO (ws.getD i Wr.zero).of k (q+1))) (fun k j _ hj=>Dc (by omega) hj);refine k28 _ _ ?_;refine sO H<|sd (aI G G (by unfold i64ok;omega))<|sr 1 G<|sE ?_;clear H a;intro a H
     exact k25 (g2-1) (q+1) a _ (by omega) (⟨by omega,by omega⟩) (S.sel [0,1,2,3] G G) (H.keep [102,1,4,51,52,53,100,101] rfl)
    refine wp_exit ?_;refine k12 _ _ ?_;replace S:=S.recell (i:=0) rfl (cell':=fun k _ => .int .i64 (heldN ws k (i+1))) (fun k j _ _=>congrArg (Value.int .i64) (by first|exact wD hc3|exact sG hc3 (by omega)));replace H:=H.keep [1,4,51,52,53] rfl;refine sO H<|sd (aI G G (by unfold i64ok;omega))<|sr 1 G<|sE ?_;clear H a;intro a H
    exact k9 (g1-1) (i+1) a _ (by omega) (⟨by omega,by omega,fun q hq=>if h9:q<i then hwk q h9 else by
          obtain rfl:q=i:=by omega
          first|exact Gp hc3 (by omega) hc4.2|exact oG hc3 (.inl hc5) (by omega) hc7.2|exact oG hc3 (.inr hc9) (by omega) hc10.2⟩) (S.sel [0,2,3] G G) (H.keep [53,1,4,51,52] rfl)
   try simp only [oz] at hc6
   refine sS H fun K33 k33=>sr 1 G<|sE ?_;clear H a;intro a H
   refine k33 _ ?_;refine wp_ret ?_;refine ret1 (fn:=Tryz.f120) rfl H rfl ?_;exact absurd hc5 hc6
  refine sO H<|sr 2 G<|sE ?_;clear H a;intro a H
  refine k19 _ _ ?_;refine condE H rfl (fun hc9=>?_) (fun hc9=>?_)
  ·skip
   refine wp_seq_k fun K35 k35=>?_
   replace H:=H.keep [1,4,5,6,51,52,53] rfl;refine seq_list fun K36 k36=>?_
   refine ls 11 H<|sf eT rfl<|sl S 0 bE G G G<|sL aP rfl<|sr 2 G<|sg 4 4 82 86 false G G (fun hg5=>sy hg5<|sf eT rfl<|sy hg5<|sl S 0 bE G G G<|sy hg5<|sL aP rfl<|sy hg5<|sr 1 G<|sz 4 G G G)<|so G G G<|sr 1 G<|sE ?_;clear H a;intro a H
   apply bR (i:=10) (g:=88) (t:=97) (b:=false) 9 H S G G (by kernel_rfl) (by kernel_rfl) G G
   case h1=>
    intro hg11;refine ls 7 H<|sy hg11<|sf eT rfl<|sy hg11<|sl S 0 bE G G G<|sy hg11<|sr 1 G<|sy hg11<|sd (aI G G (by unfold i64ok;omega))<|sy hg11<|sf kN rfl<|sy hg11<|sl S 3 mC G G G<|sy hg11<|sL mG rfl<|sE ?_;intro a H
    refine cF H G G (by assumption) ?_
    refine aA H G G Tryz.func152 G G (lI (ws.getD i Wr.zero).of (OA i) (oc i) _ _ _ ((hof i (by omega)).now S) (hofn i (by omega)) (by omega) (by omega)) ?_
    rintro _ _ a ⟨rfl,S2⟩ H;replace S:=S.call S2;clear S2;refine ls 1 H<|sy hg11<|sr 1 G<|sE ?_;intro a H
    exact wpList_nil ⟨H.strip 9 G G,(S.sel [0,1,2,3] G G)⟩
   clear H a S;intro a _ H S;refine ls 1 H<|so G G G<|sE ?_;clear H a;intro a H
   refine k36 _ _ ?_;refine cond_ H rfl (fun hc10=>?_) (fun hc10=>?_)
   ·skip
    try simp only [oz] at hc10
    replace H:=H.keep [] rfl;refine sS H fun K37 k37=>sr 1 G<|sE ?_;clear H a;intro a H
    refine k37 _ ?_;refine wp_ret ?_;refine ret1 (fn:=Tryz.f120) rfl H rfl ?_;rw [qU (by omega) (tC hc3 (.inr hc9) hc10)];exact ⟨rfl,(S.sel [] G G)⟩
   try simp only [oz] at hc10
   refine wp_skip ?_;refine k35 _ _ ?_;refine sS H fun K38 k38=>sf eT rfl<|sl S 0 bE G G G<|sL aP rfl<|sr 1 G<|sE ?_;clear H a;intro a H
   refine k38 _ ?_;refine wp_block ?_;replace S:=S.recell (i:=1) rfl (cell':=fun k _ => .int .i64 (heldN ws k i+cntO (ws.getD i Wr.zero).of k 0)) (fun k j _ hj=>congrArg (Value.int .i64) (Int.add_zero _).symm);refine loop_st (X:=Nat) (R0:=_) [1,4,51,52,53,100,101] H rfl (fun q=>[(102,.int .i64 (q:Int))]) (fun q=>[ownM 3 1 AH ws.length ws.length (fun k _ => .int .i64 (heldN ws k i+cntO (ws.getD i Wr.zero).of k q))]) (fun g q=>q≤(ws.getD i Wr.zero).of.length∧g+q=(ws.getD i Wr.zero).of.length) ((ws.getD i Wr.zero).of.length) 0 ?_ (S.sel [1,0,2,3] G G) (H.keep [102,1,4,51,52,53,100,101] rfl) ?_
   · exact ⟨by omega,by omega⟩
   clear H S a;intro g3 x3 a w3 hp S H K39 k39;obtain ⟨q,rfl⟩:∃ y,y=x3:=⟨_,rfl⟩;refine sS H fun K40 k40=>sr 1 G<|sE ?_;clear H a;intro a H
   refine k40 _ ?_;refine wp_seq_k fun K41 k41=>?_
   refine condL H rfl (fun hc11=>?_) (fun hc11=>?_)
   ·skip
    refine wp_skip ?_;refine k41 _ _ ?_;refine wp_seq_k fun K42 k42=>?_
    refine wp_block ?_;refine sS H fun K43 k43=>si aP aX G G ((hof i (by omega)).adr (by omega)) (by omega)<|slm aD rfl ((hof i (by omega)).rd S (by omega) (by omega))<|sr 1 G<|sE ?_;clear H a;intro a H
    refine k43 _ ?_;have hhb:=Ii (sw:=sw) (ws:=ws) ((ws.getD i Wr.zero).of.getD q 0).toNat i hwk;have hcb:=Am (l:=(ws.getD i Wr.zero).of) (k:=((ws.getD i Wr.zero).of.getD q 0).toNat) q;have hxb:(i:Int)+1≤(ws.getD i Wr.zero).of.getD q 0∧(ws.getD i Wr.zero).of.getD q 0<(ws.length:Int):=by first|exact rV hc7.2 (k:=q) (by omega)|exact rV hc10.2 (k:=q) (by omega)
    replace H:=H.keep [1,4,8,51,52,53,100,101,102] rfl;refine one_list ?_;refine ls 6 H<|sr 2 G<|sI aP aX G G (aEj S (i:=0) rfl (by omega)) (by omega) (by omega)<|slm aD rfl (aEk S (i:=0) rfl (by omega) (by omega))<|sd (aI G G (by unfold i64ok;omega))<|sI aP aX G G (aEj S (i:=0) rfl (by omega)) (by omega) (by omega)<|sE ?_;clear H a;intro a H
    refine bC H S (i:=0) G G G (by omega) (by omega) aX rfl ?_
    clear H a S;intro _ a S H;replace S:=S.recell (i:=0) rfl (cell':=fun k _ => .int .i64 (heldN ws k i+cntO (ws.getD i Wr.zero).of k (q+1))) (fun k j _ hj=>Dc (by omega) hj);refine k42 _ _ ?_;refine sO H<|sd (aI G G (by unfold i64ok;omega))<|sr 1 G<|sE ?_;clear H a;intro a H
    exact k39 (g3-1) (q+1) a _ (by omega) (⟨by omega,by omega⟩) (S.sel [0,1,2,3] G G) (H.keep [102,1,4,51,52,53,100,101] rfl)
   refine wp_exit ?_;refine k12 _ _ ?_;replace S:=S.recell (i:=0) rfl (cell':=fun k _ => .int .i64 (heldN ws k (i+1))) (fun k j _ _=>congrArg (Value.int .i64) (by first|exact wD hc3|exact sG hc3 (by omega)));replace H:=H.keep [1,4,51,52,53] rfl;refine sO H<|sd (aI G G (by unfold i64ok;omega))<|sr 1 G<|sE ?_;clear H a;intro a H
   exact k9 (g1-1) (i+1) a _ (by omega) (⟨by omega,by omega,fun q hq=>if h9:q<i then hwk q h9 else by
         obtain rfl:q=i:=by omega
         first|exact Gp hc3 (by omega) hc4.2|exact oG hc3 (.inl hc5) (by omega) hc7.2|exact oG hc3 (.inr hc9) (by omega) hc10.2⟩) (S.sel [0,2,3] G G) (H.keep [53,1,4,51,52] rfl)
  refine sS H fun K47 k47=>sr 1 G<|sE ?_;clear H a;intro a H
  refine k47 _ ?_;refine wp_ret ?_;refine ret1 (fn:=Tryz.f120) rfl H rfl ?_;rw [qU (by omega) (Wh hc3 hc5 hc9)];exact ⟨rfl,(S.sel [] G G)⟩
 refine wp_exit ?_;refine k7 _ _ ?_;refine wp_seq_k fun K48 k48=>?_
 obtain rfl:i=ws.length:=by omega
 replace H:=H.keep [4] rfl;refine seq_list fun K49 k49=>?_
 refine ls 5 H<|sr 1 G<|sI aP aX G G (aEj S (i:=0) rfl (by omega)) (by omega) (by omega)<|slm aD rfl (aEk S (i:=0) rfl (by omega) (by omega))<|sr 2 G<|sE ?_;intro a H
 apply bR (i:=4) (g:=118) (t:=121) (b:=false) 3 H S G G (by kernel_rfl) (by kernel_rfl) G G
 case h1=>
  intro hg5;refine ls 2 H<|sy hg5<|sr 1 G<|sy hg5<|sd (Does.to (iT aP aX rfl (lo:=1) (hi:=ws.length) (.inr ⟨_,rfl,_,rfl⟩) (.inl ⟨rfl,rfl⟩) (by omega) (by omega)) (show _=Value.slice (cutA AH ws.length 1 1) ((List.range (ws.length-1)).map fun q=>heldN ws (q+1) ws.length).length (ws.length-1) from by rw [oH]))<|sE ?_;intro a H
  refine cF H G G (by assumption) ?_
  refine aA H G G Tryz.func43 G G (Wg ((List.range (ws.length-1)).map fun q=>heldN ws (q+1) ws.length) (cutA AH ws.length 1 1) (ws.length-1) _ (Rp (aEi S (i:=0) rfl) (by omega)) (by rw [oH];omega)) ?_
  rintro _ _ a ⟨rfl,S2⟩ H;replace S:=S.call S2;clear S2;exact wpList_nil ⟨H.strip 3 rfl rfl,(S.sel [0,1,2] rfl rfl)⟩
 clear H a S;intro a _ H S;refine ls 1 H<|so G G G<|sE ?_;intro a H
 refine k49 _ _ ?_;refine cond_ H rfl (fun hc12=>?_) (fun hc12=>?_)
 ·skip
  try simp only [oz] at hc12
  replace H:=H.keep [] rfl;refine sS H fun K50 k50=>sr 1 G<|sE ?_;intro a H
  refine k50 _ ?_;refine wp_ret ?_;refine ret1 (fn:=Tryz.f120) rfl H rfl ?_;rw [show circE hz sw ws=30 from hc12.elim Rl (fun h=>Rm (by rw [←yI];exact h))];exact ⟨rfl,(S.sel [] G G)⟩
 try simp only [oz] at hc12
 refine wp_skip ?_;refine k48 _ _ ?_;refine sS H fun K51 k51=>sr 1 G<|sE ?_;intro a H
 refine k51 _ ?_;refine wp_ret ?_;refine ret1 (fn:=Tryz.f120) rfl H rfl ?_;rw [Rn hc1.1 hc1.2 hwk hc12.1 (by rw [←yI];exact hc12.2)];exact ⟨rfl,(S.sel [] G G)⟩
end
section
theorem Ij {hz:Int} {sw:List Int} {ws:List Wr} (V:CirV hz sw ws):∀ k,k<ws.length→(ws.getD k Wr.zero).of.length≤9223372036854775807:=fun k hk=>by
 by_cases h:(ws.getD k Wr.zero).kind=1
 ·have:=V.one k hk h;omega
 ·have:=V.more k hk h;omega
def hasC (l:List Int) (x:Int):Bool:=l.any fun y=>decide (x=y)
theorem Lq {l:List Int} {x:Int} {k:Nat} (hk:k<l.length) (h:(l.take k).any (fun y=>decide (x=y))=false) (hx:¬ x=l.getD k 0):(l.take (k+1)).any (fun y=>decide (x=y))=false:=by
 rw [List.take_succ_eq_append_getElem hk,List.any_append,h];rw [List.getD_eq_getElem?_getD,List.getElem?_eq_getElem hk] at hx;simpa using hx
theorem Wi {l:List Int} {x:Int} {k:Nat} (hk:k<l.length) (hx:x=l.getD k 0):hasC l x=true:=by
 rw [List.getD_eq_getElem?_getD,List.getElem?_eq_getElem hk] at hx;unfold hasC;rw [List.any_eq_true];exact ⟨l[k],List.getElem_mem hk,by simpa using hx⟩
def lorI (a b:Int):Int:=((a.toNat ||| b.toNat:Nat):Int)
theorem Ik {a b:Int} (ha:0≤a∧a≤2048) (hb:0≤b∧b≤2048):0≤lorI a b∧lorI a b≤4095:=by
 have:=Nat.or_lt_two_pow (x:=a.toNat) (y:=b.toNat) (n:=12) (by omega) (by omega)
 unfold lorI
 omega
section
variable {P:Program} {L:List (Nat×Value)} {w:World} {d:Option Nat} {ty:TypeId} {pos:String} {af:Array Edge} {g:Option (Nat×Bool)}
theorem Rq {x y:Operand} {xt yt:TypeId} {m k:Int} (hx:ev L x=some (.int .i64 m)) (hy:ev L y=some (.int .i64 k)) (hm:0≤m∧m≤2048) (hk:0≤k∧k≤2048) :
  Does P L ⟨d,.binOp .or xt x y yt,ty,pos,af,g⟩ w (.int .i64 (lorI m k)):=fun ρ hρ=>by
 have hb:=Ik hm hk
 obtain ⟨m,rfl⟩:∃ n:Nat,m=n:=⟨m.toNat,by omega⟩;obtain ⟨k,rfl⟩:∃ n:Nat,k=n:=⟨k.toNat,by omega⟩
 have e0:((BitVec.ofInt 64 (m:Int) ||| BitVec.ofInt 64 (k:Int)).toNat)=m ||| k:=by
  rw [BitVec.toNat_or,BitVec.ofInt_natCast,BitVec.ofInt_natCast,BitVec.toNat_ofNat,BitVec.toNat_ofNat,Nat.mod_eq_of_lt (by omega),Nat.mod_eq_of_lt (by omega)]
 have e1:IntKind.i64.wrap ((BitVec.ofInt 64 (m:Int) ||| BitVec.ofInt 64 (k:Int)).toNat:Int)=((m ||| k:Nat):Int):=by
  rw [e0];unfold lorI at hb;rw [Int.toNat_natCast,Int.toNat_natCast] at hb;exact i64ok.eq ⟨by omega,by omega⟩
 have e:Op.intBits .or .i64 (m:Int) (k:Int)=pure (.int .i64 (lorI m k)):=by
  unfold lorI
  rw [Int.toNat_natCast,Int.toNat_natCast];exact congrArg (fun z=>(pure (Value.int .i64 z):Sem Value)) e1
 simp [execOp,hρ _ _ hx,hρ _ _ hy,eqGuard,binOp,e]
end
def pairB (hz:Int) (sw:List Int) (ws:List Wr) (al:List Int) (a b:Int):Bool:=(!hasC al a&&!hasC al b)&&decide (0<(wkN hz sw ws (lorI (1*2^a.toNat) (1*2^b.toNat)) hz.toNat).length)
def pcIn (hz:Int) (sw:List Int) (ws:List Wr) (al:List Int) (a:Nat):Nat→Nat
 | 0=>0
 | q+1=>if pairB hz sw ws al (a:Int) ((a:Int)+1+(q:Int))=true then pcIn hz sw ws al a q+1 else pcIn hz sw ws al a q
def pcOut (hz:Int) (sw:List Int) (ws:List Wr) (al:List Int):Nat→Nat
 | 0=>0
 | a+1=>pcOut hz sw ws al a+pcIn hz sw ws al a (sw.length-(a+1))
theorem Il {hz:Int} {sw:List Int} {ws:List Wr} {al:List Int} {a:Nat}:∀ q,pcIn hz sw ws al a q≤q:=fun q=>by
 induction q with
 | zero=>exact Nat.le_refl _
 | succ q ih=>rw [pcIn];split <;> omega
theorem Rr {hz:Int} {sw:List Int} {ws:List Wr} {al:List Int}:∀ a,pcOut hz sw ws al a≤a*sw.length:=fun a=>by
  induction a with
  | zero=>exact Nat.zero_le _
  | succ a ih=>
    have:=Il (hz:=hz) (sw:=sw) (ws:=ws) (al:=al) (a:=a) (sw.length-(a+1))
    rw [pcOut,Nat.succ_mul];omega
theorem Lr (l:List Int) (A:Option Addr) (cp:Nat) (x:Int) (w:World) (hl:InS w noF 1 A l.length (icl l)) (hn:l.length≤9223372036854775807) :
    Calls Tryz.prog 121 [.slice A l.length cp,.int .i64 x].toArray w (Ret (fun u w'=>∃ n:Int,u = .int .i64 n∧decide (0≤n)=hasC l x∧St w noF [] w')):=by
 refine enter Tryz.func121 rfl Tryz.ntmps121 rfl (fun a H=>?_)
 have S:=St.start w
 refine sS H fun K1 k1=>sr 1 G<|sE ?_;intro a H
 refine k1 _ ?_;refine wp_seq_k fun K2 k2=>?_
 refine sS H fun K3 k3=>sr 1 G<|sL aP rfl<|sr 1 G<|sE ?_;intro a H
 refine k3 _ ?_;refine wp_block ?_;refine loop_st (X:=Nat) (R0:=_) [0,1,7] H rfl (fun k=>[(8,.int .i64 (k:Int))]) (fun k=>[]) (fun g k=>k≤l.length∧g+k=l.length∧(l.take k).any (fun y=>decide (x=y))=false) (l.length) 0 ?_ (S.sel [] G G) (H.keep [8,0,1,7] rfl) ?_
 · exact ⟨by omega,by omega,rfl⟩
 clear H S a;intro g1 x1 a w1 hp S H K4 k4;obtain ⟨k,rfl⟩:∃ y,y=x1:=⟨_,rfl⟩;refine sS H fun K5 k5=>sr 1 G<|sE ?_;intro a H
 refine k5 _ ?_;refine wp_seq_k fun K6 k6=>?_
 refine condL H rfl (fun hc1=>?_) (fun hc1=>?_)
 ·skip
  refine wp_skip ?_;refine k6 _ _ ?_;refine wp_seq_k fun K7 k7=>?_
  refine wp_block ?_;refine sS H fun K8 k8=>sr 2 G<|sE ?_;intro a H
  refine k8 _ ?_;refine sS H fun K9 k9=>sr 3 G<|si aP aX G G (hl.adr (by omega)) (by omega)<|slm aD rfl (hl.rd S (by omega) (by omega))<|sr 1 G<|sE ?_;intro a H
  refine k9 _ ?_;refine condE H rfl (fun hc2=>?_) (fun hc2=>?_)
  ·skip
   replace H:=H.keep [5] rfl;refine sS H fun K10 k10=>sr 2 G<|sE ?_;intro a H
   refine k10 _ ?_;refine wp_ret ?_;refine ret1 (fn:=Tryz.f121) rfl H rfl ?_;exact ⟨_,rfl,by rw [Wi (k:=k) (by omega) hc2];exact decide_eq_true (by omega),(S.sel [] G G)⟩
  refine wp_skip ?_;refine k7 _ _ ?_;refine sO H<|sd (aI G G (by unfold i64ok;omega))<|sr 1 G<|sE ?_;intro a H
  exact k4 (g1-1) (k+1) a _ (by omega) (⟨by omega,by omega,Lq (by omega) hp.2.2 hc2⟩) (S.sel [] G G) (H.keep [8,0,1,7] rfl)
 refine wp_exit ?_;refine k2 _ _ ?_;refine sS H fun K12 k12=>sr 1 G<|sE ?_;intro a H
 refine k12 _ ?_;refine wp_ret ?_;refine ret1 (fn:=Tryz.f121) rfl H rfl ?_;exact ⟨_,rfl,by unfold hasC;rw [←List.take_of_length_le (l:=l) (i:=k) (by omega),hp.2.2];rfl,(S.sel [] G G)⟩
theorem iH (l:List Int) (A:Option Addr) (cp:Nat) (x:Int) (w:World) (hl:InS w noF 1 A l.length (icl l)) (hn:l.length≤9223372036854775807) :
    Calls Tryz.prog 78 [.slice A l.length cp,.int .i64 x].toArray w (Ret (fun u w'=>u = .bool (hasC l x)∧St w noF [] w')):=by
 refine enter Tryz.func78 rfl Tryz.ntmps78 rfl (fun a H=>?_)
 have S:=St.start w
 refine sS H fun K1 k1=>sr 1 G<|sE ?_;intro a H
 refine k1 _ ?_;refine seq_list fun K2 k2=>?_
 refine ls 2 H<|sr 2 G<|sE ?_;intro a H
 refine aA H G G Tryz.func121 G G (Lr l A cp x _ (hl.now S) hn) ?_;clear H a
 rintro _ _ a ⟨n,rfl,hn2,S2⟩ H;replace S:=S.call S2;clear S2;refine ls 2 H<|sr 2 G<|sE ?_;intro a H
 refine k2 _ _ ?_;refine wp_ret ?_;refine ret1 (fn:=Tryz.f78) rfl H rfl ?_;exact ⟨congrArg Value.bool hn2,(S.sel [] G G)⟩
theorem An (hz:Int) (sw:List Int) (SA:Option Addr) (sc:Nat) (ws:List Wr) (QA:Option Addr) (qc:Nat) (OA:Nat→Option Addr) (oc:Nat→Nat) (w:World) (hsw:InS w noF 1 SA sw.length (icl sw)) (hws:InS w noF 2 QA ws.length (gJ ws OA oc)) (hof:∀ k,k<ws.length→InS w noF 1 (OA k) (ws.getD k Wr.zero).of.length (icl (ws.getD k Wr.zero).of)) (hE:circE hz sw ws=0) :
    Calls Tryz.prog 77 [.agg [.int .i64 hz,.slice SA sw.length sc,.slice QA ws.length qc].toArray].toArray w (Ret (fun u w'=>∃ A' c',u = .tuple #[.slice A' (critN hz sw ws sw.length).length c',.int .i64 0]∧St w noF [ownM 3 1 A' (critN hz sw ws sw.length).length c' (icl (critN hz sw ws sw.length))] w')):=by
 have V:=vJ (Hp hE)
 have hns:=V.nsw
 have hnw:=V.nws
 have hzb:=V.hzb
 have hof9:=Ij V
 refine enter Tryz.func77 rfl Tryz.ntmps77 rfl (fun a H=>?_)
 have S:=St.start w
 refine seq_list fun K1 k1=>?_
 refine aO H rfl S G G ?_;intro b1 _ a hb1 hbw1 S H
 refine ls 2 H<|sr 2 G<|sE ?_;clear H a;intro a H
 refine k1 _ _ ?_;refine wp_seq_k fun K2 k2=>?_
 refine seq_list fun K3 k3=>?_
 refine ls 1 H<|sd ((aB dS cI rfl S (i:=0) G G))<|sE ?_;clear H a;intro a H
 refine aA H G G Tryz.func120 G G (Lp hz sw SA sc ws QA qc OA oc _ (hsw.now S) (hws.now S) (fun k hk=>(hof k hk).now S) (by omega) (by omega) hof9) ?_;clear H a
 rintro _ _ a ⟨rfl,S2⟩ H;replace S:=S.call S2;clear S2;refine ls 1 H<|sr 1 G<|sE ?_;clear H a;intro a H
 refine k3 _ _ ?_;refine sS H fun K4 k4=>sr 2 G<|sE ?_;clear H a;intro a H
 refine k4 _ ?_;refine condN H rfl (fun hc1=>?_) (fun hc1=>?_)
 ·skip
  replace H:=H.keep [4] rfl;refine sS H fun K5 k5=>sr 3 G<|sE ?_;clear H a;intro a H
  refine k5 _ ?_;refine wp_ret ?_;refine ret2 (fn:=Tryz.f77) rfl H G G ?_;exact absurd hE hc1
 refine wp_skip ?_;refine k2 _ _ ?_;refine sS H fun K6 k6=>sr 1 G<|sE ?_;clear H a;intro a H
 refine k6 _ ?_;refine wp_seq_k fun K7 k7=>?_
 refine sS H fun K8 k8=>sf jU rfl<|sl S 0 bE G G G<|sL aP rfl<|sr 1 G<|sE ?_;clear H a;intro a H
 refine k8 _ ?_;refine wp_block ?_;replace S:=S.newNil 3 1 (icl []);refine loop_st (X:=Nat×List Int×Option Addr×Nat) (R0:=_) [1,14] H rfl (fun ⟨k,L9,A9,c9⟩=>[(5,.slice A9 L9.length c9),(15,.int .i64 (k:Int))]) (fun ⟨k,L9,A9,c9⟩=>[ownM 3 1 A9 L9.length c9 (icl L9)]) (fun g ⟨k,L9,A9,c9⟩=>k≤sw.length∧g+k=sw.length∧L9=critN hz sw ws k) (sw.length) (0,[],none,0) ?_ (S.sel [0,1] G G) (H.keep [5,15,1,14] rfl) ?_
 · exact ⟨by omega,by omega,rfl⟩
 clear H S a;intro g1 x1 a w1 hp S H K9 k9;obtain ⟨k,L9,A9,c9⟩:=x1;dsimp only at hp S H;refine sS H fun K10 k10=>sr 1 G<|sE ?_;clear H a;intro a H
 refine k10 _ ?_;refine wp_seq_k fun K11 k11=>?_
 refine condL H rfl (fun hc2=>?_) (fun hc2=>?_)
 ·skip
  refine wp_skip ?_;refine k11 _ _ ?_;refine wp_seq_k fun K12 k12=>?_
  refine wp_block ?_;refine sS H fun K13 k13=>sr 2 G<|sE ?_;clear H a;intro a H
  refine k13 _ ?_;have hsh:=pwc (h:=k) (by omega);have hL9:L9.length≤k:=by rw [hp.2.2];exact xW k
  replace S:=S.drew;refine seq_wq [(0,true),(1,true),(2,true),(3,false),(4,true),(5,true)] (by kernel_rfl) (by kernel_rfl) (S.sel [0,1] G G) fun K14 k14=>?_
  refine qF H<|qd G (fun _ S=>(aB dS cI rfl S (i:=1) G G))<|qr 1 G<|qd G (fun _ S=>dU G G (by omega) (by omega) (by unfold i64ok;omega))<|qK ?_;clear H a;intro a H
  refine aT rfl ?_
  refine aA H G G Tryz.func79 G G (Ck hz sw SA sc ws QA qc OA oc (1*2^(k:Int).toNat) _ (hsw.now S) (hws.now S) (fun k hk=>(hof k hk).now S) V (by omega)) ?_;clear H a
  rintro _ _ a ⟨A5,c5,rfl,S2⟩ H;replace S:=S.call S2;clear S2;refine wpList_nil (And.intro (S.sel [1,2] rfl rfl) ?_);refine qF H<|qd G (fun _ S=>cE aP rfl)<|qr 1 G<|qK ?_;clear H a;intro a H
  refine bL ?_
  refine k14 _ _ ?_;refine condL H rfl (fun hc3=>?_) (fun hc3=>?_)
  ·skip
   replace H:=H.keep [1,5,6,14,15] rfl;refine one_list ?_;refine ls 2 H<|sr 2 G<|sE ?_;clear H a;intro a H
   refine aY H rfl S aP aX fD G G G G G G G G G ?_;intro A1 _ a hA1 S H
   refine bM H rfl S aP aX fD mQ G G (i:=2) G G G (aEi S (i:=0) rfl) (jA (one rfl)) (by omega) (by omega) ?_;intro A2 c2 _ a S H
   replace S:=S.recell (i:=2) rfl (cell':=icl (L9++[(k:Int)])) (vK rfl);rw [show L9.length+1=(L9++[(k:Int)]).length by simp] at H S;refine ls 1 H<|sr 1 G<|sE ?_;clear H a;intro a H
   refine k12 _ _ ?_;refine sO H<|sd (aI G G (by unfold i64ok;omega))<|sr 1 G<|sE ?_;clear H a;intro a H
   exact k9 (g1-1) (k+1,_,_,_) a _ (by omega) (⟨by omega,by omega,by rw [critN];first|rw [if_pos (by omega),←hp.2.2]|rw [if_neg (by omega),←hp.2.2]⟩) (S.sel [2,3] G G) (H.keep [5,15,1,14] rfl)
  refine wp_skip ?_;refine k12 _ _ ?_;refine sO H<|sd (aI G G (by unfold i64ok;omega))<|sr 1 G<|sE ?_;clear H a;intro a H
  exact k9 (g1-1) (k+1,_,_,_) a _ (by omega) (⟨by omega,by omega,by rw [critN];first|rw [if_pos (by omega),←hp.2.2]|rw [if_neg (by omega),←hp.2.2]⟩) (S.sel [1,2] G G) (H.keep [5,15,1,14] rfl)
 refine wp_exit ?_;refine k7 _ _ ?_;replace H:=H.keep [5] rfl;refine sS H fun K18 k18=>sr 3 G<|sE ?_;clear H a;intro a H
 refine k18 _ ?_;refine wp_ret ?_;refine ret2 (fn:=Tryz.f77) rfl H rfl rfl ?_;obtain rfl:k=sw.length:=by omega
 rw [←hp.2.2];exact ⟨_,_,rfl,(S.sel [0] G G)⟩
end
section
theorem two {p:Nat→Prop} (h0:p 0) (h1:p 1):∀ j,j<2→p j:=by
 intro j hj;rcases (show j=0∨j=1 by omega) with rfl|rfl
 ·exact h0
 ·exact h1
section
variable {hz:Int} {sw:List Int} {ws:List Wr} {al:List Int} {a q n n2:Nat} {b:Int}
theorem Ao (h:pairB hz sw ws al (a:Int) b=true) (hb:b=(a:Int)+1+(q:Int)) (hn:n2=n+pcIn hz sw ws al a q):n2+1=n+pcIn hz sw ws al a (q+1):=by
 subst hb;rw [pcIn,if_pos h];omega
theorem has3:∀ x y:Bool,x=true∨(x=false∧y=true)∨(x=false∧y=false):=by decide
theorem Ap (hA:hasC al (a:Int)=true):¬ pairB hz sw ws al (a:Int) b=true:=by unfold pairB;rw [hA];simp
theorem Aq (hA:hasC al b=true):¬ pairB hz sw ws al (a:Int) b=true:=by unfold pairB;rw [hA];simp
theorem jZ (hA:hasC al (a:Int)=false) (hB:hasC al b=false):pairB hz sw ws al (a:Int) b=decide (0<(wkN hz sw ws (lorI (1*2^(a:Int).toNat) (1*2^b.toNat)) hz.toNat).length):=by unfold pairB;rw [hA,hB];rfl
theorem kA (h:¬ pairB hz sw ws al (a:Int) b=true) (hb:b=(a:Int)+1+(q:Int)) (hn:n2=n+pcIn hz sw ws al a q):n2=n+pcIn hz sw ws al a (q+1):=by
 subst hb;rw [pcIn,if_neg h];exact hn
end
theorem eD (hz:Int) (sw:List Int) (SA:Option Addr) (sc:Nat) (ws:List Wr) (QA:Option Addr) (qc:Nat) (OA:Nat→Option Addr) (oc:Nat→Nat) (w:World) (hsw:InS w noF 1 SA sw.length (icl sw)) (hws:InS w noF 2 QA ws.length (gJ ws OA oc)) (hof:∀ k,k<ws.length→InS w noF 1 (OA k) (ws.getD k Wr.zero).of.length (icl (ws.getD k Wr.zero).of)) (hE:circE hz sw ws=0) :
    Calls Tryz.prog 37 [.agg [.int .i64 hz,.slice SA sw.length sc,.slice QA ws.length qc].toArray].toArray w (Ret (fun u w'=>∃ A' c',u = .tuple #[.slice A' (pcOut hz sw ws (critN hz sw ws sw.length) sw.length) c',.int .i64 0]∧St w noF [] w')):=by
 have V:=vJ (Hp hE)
 have hns:=V.nsw
 have hnw:=V.nws
 have hzb:=V.hzb
 have hof9:=Ij V
 have hcl9:=xW (hz:=hz) (sw:=sw) (ws:=ws) sw.length
 refine enter Tryz.func37 rfl Tryz.ntmps37 rfl (fun a H=>?_)
 have S:=St.start w
 refine seq_list fun K1 k1=>?_
 refine aO H rfl S G G ?_;clear H a S;intro b1 _ a hb1 hbw1 S H
 refine ls 2 H<|sr 2 G<|sE ?_;clear H a;intro a H
 refine k1 _ _ ?_;replace H:=H.keep [1] rfl;refine seq_list fun K2 k2=>?_
 refine ls 1 H<|sd ((aB dS cI rfl S (i:=0) G G))<|sE ?_;clear H a;intro a H
 refine aA H G G Tryz.func77 G G (An hz sw SA sc ws QA qc OA oc _ (hsw.now S) (hws.now S) (fun k hk=>(hof k hk).now S) hE) ?_;clear H a
 rintro _ _ a ⟨A8,c8,rfl,S2⟩ H;replace S:=S.call S2;clear S2;refine ls 5 H<|sr 5 G<|sE ?_;clear H a;intro a H
 refine k2 _ _ ?_;refine wp_seq_k fun K3 k3=>?_
 refine sS H fun K4 k4=>sr 2 G<|sE ?_;clear H a;intro a H
 refine k4 _ ?_;refine condN H rfl (fun hc1=>?_) (fun hc1=>?_)
 ·skip
  replace H:=H.keep [5] rfl;refine sS H fun K5 k5=>sr 3 G<|sE ?_;clear H a;intro a H
  refine k5 _ ?_;refine wp_ret ?_;refine ret2 (fn:=Tryz.f37) rfl H G G ?_;exact absurd rfl hc1
 refine wp_skip ?_;refine k3 _ _ ?_;refine sS H fun K6 k6=>sr 1 G<|sE ?_;clear H a;intro a H
 refine k6 _ ?_;refine wp_seq_k fun K7 k7=>?_
 refine sS H fun K8 k8=>sf jU rfl<|sl S 1 bE G G G<|sL aP rfl<|sr 1 G<|sE ?_;clear H a;intro a H
 refine k8 _ ?_;refine wp_block ?_;replace S:=S.newNil 89 2 (fun _ _=>undef);refine loop_st (X:=Nat×Nat×Option Addr×Nat×(Nat→Nat→Value)) (R0:=_) [1,4,19] H rfl (fun ⟨u,n,A9,c9,cl9⟩=>[(6,.slice A9 n c9),(20,.int .i64 (u:Int))]) (fun ⟨u,n,A9,c9,cl9⟩=>[ownM 89 2 A9 n c9 cl9]) (fun g ⟨u,n,A9,c9,cl9⟩=>u≤sw.length∧g+u=sw.length∧n=pcOut hz sw ws (critN hz sw ws sw.length) u) (sw.length) (0,0,none,0,fun _ _=>undef) ?_ (S.sel [0,1,2] G G) (H.keep [6,20,1,4,19] rfl) ?_
 · exact ⟨by omega,by omega,rfl⟩
 clear H S a;intro g1 x1 a w1 hp S H K9 k9;obtain ⟨u,n,A9,c9,cl9⟩:=x1;dsimp only at hp S H;obtain ⟨hu1,hu2,hn1⟩:=hp;refine sS H fun K10 k10=>sr 1 G<|sE ?_;clear H a;intro a H
 refine k10 _ ?_;refine wp_seq_k fun K11 k11=>?_
 refine condL H rfl (fun hc2=>?_) (fun hc2=>?_)
 ·skip
  refine wp_skip ?_;refine k11 _ _ ?_;refine wp_seq_k fun K12 k12=>?_
  refine wp_block ?_;refine sS H fun K13 k13=>sr 2 G<|sE ?_;clear H a;intro a H
  refine k13 _ ?_;refine sS H fun K14 k14=>sr 1 G<|sd (aI G G (by unfold i64ok;omega))<|sr 1 G<|sE ?_;clear H a;intro a H
  refine k14 _ ?_;refine wp_block ?_;refine loop_st (X:=Nat×Int×Nat×Option Addr×Nat×(Nat→Nat→Value)) (R0:=_) [1,4,7,19,20] H rfl (fun ⟨q,b,n2,A7,c7,cl7⟩=>[(6,.slice A7 n2 c7),(8,.int .i64 b)]) (fun ⟨q,b,n2,A7,c7,cl7⟩=>[ownM 89 2 A7 n2 c7 cl7]) (fun g ⟨q,b,n2,A7,c7,cl7⟩=>u+1+q≤sw.length∧g+u+1+q=sw.length∧n2=n+pcIn hz sw ws (critN hz sw ws sw.length) u q∧b=(u:Int)+1+(q:Int)) (sw.length-(u+1)) (0,(u:Int)+1,n,A9,c9,cl9) ?_ (S.sel [0,1,2] G G) (H.keep [6,8,1,4,7,19,20] rfl) ?_
  · exact ⟨by omega,by omega,rfl,by omega⟩
  clear H S a;intro g2 x2 a w2 hp S H K15 k15;obtain ⟨q,b,n2,A7,c7,cl7⟩:=x2;dsimp only at hp S H;obtain ⟨hq1,hq2,hn2,hb2⟩:=hp;obtain ⟨y,rfl⟩:∃ y:Nat,b=y:=⟨u+1+q,by omega⟩;refine wp_seq_k fun K16 k16=>?_
  refine sS H fun K17 k17=>sr 1 G<|sf jU rfl<|sl S 2 bE G G G<|sL aP rfl<|sr 1 G<|sE ?_;clear H a;intro a H
  refine k17 _ ?_;refine condL H rfl (fun hc3=>?_) (fun hc3=>?_)
  ·skip
   refine wp_skip ?_;refine k16 _ _ ?_;refine wp_seq_k fun K18 k18=>?_
   refine wp_block ?_;rcases has3 (hasC (critN hz sw ws sw.length) (u:Int)) (hasC (critN hz sw ws sw.length) (y:Int)) with hA|⟨hA,hB⟩|⟨hA,hB⟩
   ·skip
    have hsh:=pwc (h:=u) (by omega)
    have hsh2:=pwc (h:=y) (by omega)
    have hwl9:=tX (hz:=hz) (sw:=sw) (ws:=ws) (cl:=lorI (1*2^(u:Int).toNat) (1*2^(y:Int).toNat)) hz.toNat
    replace H:=H.keep [1,4,6,7,8,19,20] rfl;replace S:=S.drew;refine seq_wq [(0,true),(1,true),(2,false),(3,true),(4,true),(5,true),(6,true),(7,true),(8,true),(9,true),(10,true),(11,true),(12,true),(13,true),(14,true),(15,true),(16,true),(17,true),(18,true),(19,true),(20,true)] (by kernel_rfl) (by kernel_rfl) (S.sel [0,1,2] G G) fun K19 k19=>?_
    refine qF H<|qr 2 G<|qK ?_;clear H a;intro a H
    refine aT rfl ?_
    refine aA H G G Tryz.func78 G G (iH (critN hz sw ws sw.length) A8 c8 _ _ (aEi S (i:=1) rfl) (by omega)) ?_;clear H a
    rintro _ _ a ⟨rfl,S2⟩ H;replace S:=S.call S2;clear S2;first|rw [hA] at H|rw [hB] at H
    refine wpList_nil (And.intro (S.sel [0,1,2] G G) ?_);refine qF H<|qr 2 G<|qK ?_;clear H a;intro a H
    refine aK H G G G G G ?_;clear H a;intro a H
    refine aK H G G G G G ?_;clear H a;intro a H
    refine aK H G G G G G ?_;clear H a;intro a H
    refine aK H G G G G G ?_;clear H a;intro a H
    refine qF H<|qd G (fun _ S=>(aV G G G))<|qr 1 G<|qK ?_;clear H a;intro a H
    refine aK H G G G G G ?_;clear H a;intro a H
    refine aK H G G G G G ?_;clear H a;intro a H
    refine aK H G G G G G ?_;clear H a;intro a H
    refine aK H G G G G G ?_;clear H a;intro a H
    refine aK H G G G G G ?_;clear H a;intro a H
    refine aK H G G G G G ?_;clear H a;intro a H
    refine aK H G G G G G ?_;clear H a;intro a H
    refine aK H G G G G G ?_;clear H a;intro a H
    refine aK H G G G G G ?_;clear H a;intro a H
    refine qF H<|qd G (fun _ S=>(aV G G G))<|qK ?_;clear H a;intro a H
    refine bL ?_
    refine k19 _ _ ?_;refine cond_ H rfl (fun hc4=>?_) (fun hc4=>?_)
    ·skip
     skip
     cases hc4
    skip
    refine wp_skip ?_;refine k18 _ _ ?_;replace H:=H.keep [1,4,6,7,8,19,20] rfl;refine sO H<|sr 1 G<|sd (aI G G (by unfold i64ok;omega))<|sr 1 G<|sE ?_;clear H a;intro a H
    exact k15 (g2-1) (q+1,_,_,_,_,_) a _ (by omega) (⟨by omega,by omega,by first|exact Ao (by rw [jZ hA hB];exact decide_eq_true (by omega)) hb2 hn2|exact kA (by rw [jZ hA hB,decide_eq_true_eq];omega) hb2 hn2|exact kA (Ap hA) hb2 hn2|exact kA (Aq hB) hb2 hn2|exact kA (by rw [jZ hA hB,decide_eq_true_eq];have h9:=hc6.resolve_left (fun h=>h.elim (fun h=>Bool.noConfusion h) (fun h=>Bool.noConfusion h));omega) hb2 hn2,by omega⟩) (S.sel [0,1,2] G G) (H.keep [6,8,1,4,7,19,20] rfl)
   ·skip
    have hsh:=pwc (h:=u) (by omega)
    have hsh2:=pwc (h:=y) (by omega)
    have hwl9:=tX (hz:=hz) (sw:=sw) (ws:=ws) (cl:=lorI (1*2^(u:Int).toNat) (1*2^(y:Int).toNat)) hz.toNat
    replace H:=H.keep [1,4,6,7,8,19,20] rfl;replace S:=S.drew;refine seq_wq [(0,true),(1,true),(2,false),(3,true),(4,true),(5,true),(6,true),(7,false),(8,true),(9,true),(10,true),(11,true),(12,true),(13,true),(14,true),(15,true),(16,true),(17,true),(18,true),(19,true),(20,true)] (by kernel_rfl) (by kernel_rfl) (S.sel [0,1,2] G G) fun K21 k21=>?_
    refine qF H<|qr 2 G<|qK ?_;clear H a;intro a H
    refine aT rfl ?_
    refine aA H G G Tryz.func78 G G (iH (critN hz sw ws sw.length) A8 c8 _ _ (aEi S (i:=1) rfl) (by omega)) ?_;clear H a
    rintro _ _ a ⟨rfl,S2⟩ H;replace S:=S.call S2;clear S2;first|rw [hA] at H|rw [hB] at H
    refine wpList_nil (And.intro (S.sel [0,1,2] G G) ?_);refine qF H<|qr 2 G<|qK ?_;clear H a;intro a H
    refine aG H G G G G (fun _ S=>aL rfl) ?_;clear H a;intro a H
    refine aG H G G G G (fun _ S=>aL rfl) ?_;clear H a;intro a H
    refine aT rfl ?_
    refine bA H G G ?_
    refine aA H G G Tryz.func78 G G (iH (critN hz sw ws sw.length) A8 c8 _ _ (aEi S (i:=1) rfl) (by omega)) ?_;clear H a
    rintro _ _ a ⟨rfl,S2⟩ H;replace S:=S.call S2;clear S2;first|rw [hA] at H|rw [hB] at H
    refine wpList_nil (And.intro (S.sel [0,1,2] G G) ?_);refine aG H G G G G (fun _ S=>cO rfl) ?_;clear H a;intro a H;refine qF H<|qd G (fun _ S=>(jQ G G G))<|qr 1 G<|qK ?_;clear H a;intro a H
    refine aK H G G G G G ?_;clear H a;intro a H
    refine aK H G G G G G ?_;clear H a;intro a H
    refine aK H G G G G G ?_;clear H a;intro a H
    refine aK H G G G G G ?_;clear H a;intro a H
    refine aK H G G G G G ?_;clear H a;intro a H
    refine aK H G G G G G ?_;clear H a;intro a H
    refine aK H G G G G G ?_;clear H a;intro a H
    refine aK H G G G G G ?_;clear H a;intro a H
    refine aK H G G G G G ?_;clear H a;intro a H
    refine qF H<|qd G (fun _ S=>(aV G G G))<|qK ?_;clear H a;intro a H
    refine bL ?_
    refine k21 _ _ ?_;refine cond_ H rfl (fun hc5=>?_) (fun hc5=>?_)
    ·skip
     skip
     cases hc5
    skip
    refine wp_skip ?_;refine k18 _ _ ?_;replace H:=H.keep [1,4,6,7,8,19,20] rfl;refine sO H<|sr 1 G<|sd (aI G G (by unfold i64ok;omega))<|sr 1 G<|sE ?_;clear H a;intro a H
    exact k15 (g2-1) (q+1,_,_,_,_,_) a _ (by omega) (⟨by omega,by omega,by first|exact Ao (by rw [jZ hA hB];exact decide_eq_true (by omega)) hb2 hn2|exact kA (by rw [jZ hA hB,decide_eq_true_eq];omega) hb2 hn2|exact kA (Ap hA) hb2 hn2|exact kA (Aq hB) hb2 hn2|exact kA (by rw [jZ hA hB,decide_eq_true_eq];have h9:=hc6.resolve_left (fun h=>h.elim (fun h=>Bool.noConfusion h) (fun h=>Bool.noConfusion h));omega) hb2 hn2,by omega⟩) (S.sel [0,1,2] G G) (H.keep [6,8,1,4,7,19,20] rfl)
   have hsh:=pwc (h:=u) (by omega)
   have hsh2:=pwc (h:=y) (by omega)
   have hwl9:=tX (hz:=hz) (sw:=sw) (ws:=ws) (cl:=lorI (1*2^(u:Int).toNat) (1*2^(y:Int).toNat)) hz.toNat
   replace H:=H.keep [1,4,6,7,8,19,20] rfl;replace S:=S.drew;refine seq_wq [(0,true),(1,true),(2,false),(3,true),(4,true),(5,true),(6,true),(7,false),(8,true),(9,true),(10,true),(11,true),(12,true),(13,true),(14,true),(15,true),(16,true),(17,false),(18,true),(19,true),(20,true)] (by kernel_rfl) (by kernel_rfl) (S.sel [0,1,2] G G) fun K23 k23=>?_
   refine qF H<|qr 2 G<|qK ?_;clear H a;intro a H
   refine aT rfl ?_
   refine aA H G G Tryz.func78 G G (iH (critN hz sw ws sw.length) A8 c8 _ _ (aEi S (i:=1) rfl) (by omega)) ?_;clear H a
   rintro _ _ a ⟨rfl,S2⟩ H;replace S:=S.call S2;clear S2;first|rw [hA] at H|rw [hB] at H
   refine wpList_nil (And.intro (S.sel [0,1,2] G G) ?_);refine qF H<|qr 2 G<|qK ?_;clear H a;intro a H
   refine aG H G G G G (fun _ S=>aL rfl) ?_;clear H a;intro a H
   refine aG H G G G G (fun _ S=>aL rfl) ?_;clear H a;intro a H
   refine aT rfl ?_
   refine bA H G G ?_
   refine aA H G G Tryz.func78 G G (iH (critN hz sw ws sw.length) A8 c8 _ _ (aEi S (i:=1) rfl) (by omega)) ?_;clear H a
   rintro _ _ a ⟨rfl,S2⟩ H;replace S:=S.call S2;clear S2;first|rw [hA] at H|rw [hB] at H
   refine wpList_nil (And.intro (S.sel [0,1,2] G G) ?_);refine aG H G G G G (fun _ S=>cO rfl) ?_;clear H a;intro a H;refine qF H<|qd G (fun _ S=>(jQ G G G))<|qr 1 G<|qK ?_;clear H a;intro a H
   refine aG H G G G G (fun _ S=>(aB dS cI rfl S (i:=2) G G)) ?_;clear H a;intro a H
   refine aG H G G G G (fun _ S=>aL rfl) ?_;clear H a;intro a H
   refine aG H G G G G (fun _ S=>dU G G (by omega) (by omega) (by unfold i64ok;omega)) ?_;clear H a;intro a H
   refine aG H G G G G (fun _ S=>aL rfl) ?_;clear H a;intro a H
   refine aG H G G G G (fun _ S=>dU G G (by omega) (by omega) (by unfold i64ok;omega)) ?_;clear H a;intro a H
   refine aG H G G G G (fun _ S=>Rq G G hsh hsh2) ?_;clear H a;intro a H
   refine aT rfl ?_
   refine bA H G G ?_
   refine aA H G G Tryz.func79 G G (Ck hz sw SA sc ws QA qc OA oc (lorI (1*2^(u:Int).toNat) (1*2^(y:Int).toNat)) _ (hsw.now S) (hws.now S) (fun k hk=>(hof k hk).now S) V (Ik hsh hsh2)) ?_;clear H a
   rintro _ _ a ⟨A5,c5,rfl,S2⟩ H;replace S:=S.call S2;clear S2;refine wpList_nil (And.intro (S.sel [1,2,3] rfl rfl) ?_);refine aG H rfl rfl rfl rfl (fun _ S=>cE aP rfl) ?_;clear H a;intro a H;refine aG H rfl rfl rfl rfl (fun _ S=>bX rfl rfl) ?_;clear H a;intro a H;refine qF H<|qd G (fun _ S=>(jQ rfl rfl rfl))<|qK ?_;clear H a;intro a H
   refine bL ?_
   refine k23 _ _ ?_;refine cond_ H rfl (fun hc6=>?_) (fun hc6=>?_)
   ·skip
    try simp only [oz] at hc6
    have hno:n≤12*12:=by rw [hn1];exact Nat.le_trans (Rr _) (Nat.mul_le_mul (show u≤12 by omega) (show sw.length≤12 by omega))
    have hpi:=Il (hz:=hz) (sw:=sw) (ws:=ws) (al:=(critN hz sw ws sw.length)) (a:=u) q
    replace H:=H.keep [1,4,6,7,8,19,20] rfl;refine one_list ?_;refine ls 4 H<|sr 3 G<|sd (aN Ho G G)<|sE ?_;clear H a;intro a H
    refine aY H rfl S hY Zf Ow G G G G G G G G G ?_;clear H a S;intro A1 _ a hA1 S H
    refine bM H rfl S hY Zf Ow aDg G G (i:=2) G G G (aEi S (i:=0) rfl) (jA (two G G)) (by omega) (by omega) ?_;clear H a S;intro A2 c2 _ a S H
    refine ls 1 H<|sr 1 G<|sE ?_;clear H a;intro a H
    refine k18 _ _ ?_;replace H:=H.keep [1,4,6,7,8,19,20] rfl;refine sO H<|sr 1 G<|sd (aI G G (by unfold i64ok;omega))<|sr 1 G<|sE ?_;clear H a;intro a H
    exact k15 (g2-1) (q+1,_,_,_,_,_) a _ (by omega) (⟨by omega,by omega,by first|exact Ao (by rw [jZ hA hB];exact decide_eq_true (by omega)) hb2 hn2|exact kA (by rw [jZ hA hB,decide_eq_true_eq];omega) hb2 hn2|exact kA (Ap hA) hb2 hn2|exact kA (Aq hB) hb2 hn2|exact kA (by rw [jZ hA hB,decide_eq_true_eq];have h9:=hc6.resolve_left (fun h=>h.elim (fun h=>Bool.noConfusion h) (fun h=>Bool.noConfusion h));omega) hb2 hn2,by omega⟩) (S.sel [2,3,4] G G) (H.keep [6,8,1,4,7,19,20] rfl)
   try simp only [oz] at hc6
   refine wp_skip ?_;refine k18 _ _ ?_;refine sO H<|sr 1 G<|sd (aI G G (by unfold i64ok;omega))<|sr 1 G<|sE ?_;clear H a;intro a H
   exact k15 (g2-1) (q+1,_,_,_,_,_) a _ (by omega) (⟨by omega,by omega,by first|exact Ao (by rw [jZ hA hB];exact decide_eq_true (by omega)) hb2 hn2|exact kA (by rw [jZ hA hB,decide_eq_true_eq];omega) hb2 hn2|exact kA (Ap hA) hb2 hn2|exact kA (Aq hB) hb2 hn2|exact kA (by rw [jZ hA hB,decide_eq_true_eq];have h9:=hc6.resolve_left (fun h=>h.elim (fun h=>Bool.noConfusion h) (fun h=>Bool.noConfusion h));omega) hb2 hn2,by omega⟩) (S.sel [1,2,3] G G) (H.keep [6,8,1,4,7,19,20] rfl)
  refine wp_exit ?_;refine k12 _ _ ?_;refine sO H<|sd (aI G G (by unfold i64ok;omega))<|sr 1 G<|sE ?_;clear H a;intro a H
  exact k9 (g1-1) (u+1,_,_,_,_) a _ (by omega) (⟨by omega,by omega,by rw [pcOut,←hn1,show sw.length-(u+1)=q by omega];exact hn2⟩) (S.sel [0,1,2] G G) (H.keep [6,20,1,4,19] rfl)
 refine wp_exit ?_;refine k7 _ _ ?_;replace H:=H.keep [6] rfl;refine sS H fun K28 k28=>sr 3 G<|sE ?_;clear H a;intro a H
 refine k28 _ ?_;refine wp_ret ?_;refine ret2 (fn:=Tryz.f37) rfl H rfl rfl ?_;obtain rfl:u=sw.length:=by omega
 rw [←hn1];exact ⟨_,_,rfl,(S.sel [] G G)⟩
end
section
def exSw:List Int:=[1,1,2,2]
def exWs:List Wr:=[⟨2,[1,2,3,4]⟩,⟨1,[0]⟩,⟨1,[1]⟩,⟨1,[2]⟩,⟨1,[3]⟩]
def exOA (A0 A1 A2 A3 A4:Option Addr) (k:Nat):Option Addr:=[A0,A1,A2,A3,A4].getD k none
def exOc (k:Nat):Nat:=[4,1,1,1,1].getD k 0
theorem exCir:circE 2 exSw exWs=0:=by kernel_rfl
theorem gF:pcOut 2 exSw exWs (critN 2 exSw exWs exSw.length) exSw.length=2:=by kernel_rfl
theorem cN (w:World) :
    Calls Tryz.prog 36 [].toArray w (Ret (fun v w'=>∃ SA A0 A1 A2 A3 A4 QA TA,v = .tuple #[.agg [.int .i64 2,.slice SA 4 4,.slice QA 5 5].toArray,.slice TA 4 4]∧St w noF [ownM 3 1 SA 4 4 (icl exSw),ownM 3 1 A0 4 4 (icl [1,2,3,4]),ownM 3 1 A1 1 1 (icl [0]),ownM 3 1 A2 1 1 (icl [1]),ownM 3 1 A3 1 1 (icl [2]),ownM 3 1 A4 1 1 (icl [3]),ownM 195 2 QA 5 5 (gJ exWs (exOA A0 A1 A2 A3 A4) exOc)] w')):=by
 refine enter Tryz.func36 rfl Tryz.ntmps36 rfl (fun a H=>?_)
 have S:=St.start w
 refine seq_list fun K1 k1=>?_
 refine aJ H rfl S gI ?_;intro b0 _ a hb0 hbw0 S H
 refine ls 1 H<|sr 1 G<|sE ?_;clear H a;intro a H
 refine k1 _ _ ?_;replace H:=H.keep [0] rfl;refine seq_list fun K2 k2=>?_
 refine aY H rfl S aP aX fD G G G G G G G G G ?_;intro A1 _ a hA1 S H
 refine aY H rfl S aP aX fD G G G G G G G G G ?_;intro A2 _ a hA2 S H
 refine ls 1 H<|sd (aN vI G G)<|sE ?_;clear H a;intro a H
 refine aY H rfl S aP aX fD G G G G G G G G G ?_;intro A3 _ a hA3 S H
 refine ls 1 H<|sd (aN vI G G)<|sE ?_;clear H a;intro a H
 refine aY H rfl S aP aX fD G G G G G G G G G ?_;intro A4 _ a hA4 S H
 refine ls 1 H<|sd (aN vI G G)<|sE ?_;clear H a;intro a H
 refine aY H rfl S aP aX fD G G G G G G G G G ?_;intro A5 _ a hA5 S H
 refine ls 1 H<|sd (aN vI G G)<|sE ?_;clear H a;intro a H
 refine aY H rfl S aP aX fD G G G G G G G G G ?_;intro A6 _ a hA6 S H
 refine ls 1 H<|sd (aN vI G G)<|sE ?_;clear H a;intro a H
 refine aY H rfl S mG oW zT G G G G G G G G G ?_;intro A7 _ a hA7 S H
 refine ls 1 H<|sd (aN aAh G G)<|sE ?_;clear H a;intro a H
 refine aJ H rfl S gI ?_;intro b2 _ a hb2 hbw2 S H
 refine aE H S (i:=0) G G G G cI G G ?_
 clear H a S;intro _ a S H;refine k2 _ _ ?_;replace H:=H.keep [0,2] rfl;refine seq_list fun K3 k3=>?_
 refine ls 5 H<|sd ((aB dS cI rfl S (i:=0) G G))<|sd (aN zU G G)<|sd (aN zU G G)<|sd (aN zU G G)<|sd (aN zU G G)<|sE ?_;clear H a;intro a H
 refine aY H rfl S Zz Zx Oz G G G G G G G G G ?_;intro A8 _ a hA8 S H
 refine aE H S (i:=9) G G G G cI G G ?_
 clear H a S;intro _ a S H;refine ls 1 H<|sr 1 G<|sE ?_;clear H a;intro a H
 refine k3 _ _ ?_;refine wp_ret ?_;refine retA1 (fn:=Tryz.f36) rfl H rfl dS (by exact cI) (dN S (i:=9) rfl) rfl ?_
 replace S:=S.recell (i:=8) rfl (cell':=icl exSw) (fun k j hk hj=>by
   obtain rfl:j=0:=by omega
   rcases k with _|_|_|_|k <;> first|rfl|(exfalso;omega))
 replace S:=S.recell (i:=7) rfl (cell':=icl [1,2,3,4]) (fun k j hk hj=>by
   obtain rfl:j=0:=by omega
   rcases k with _|_|_|_|k <;> first|rfl|(exfalso;omega))
 replace S:=S.recell (i:=6) rfl (cell':=icl [0]) (fun k j hk hj=>by
   obtain rfl:j=0:=by omega
   rcases k with _|_|_|_|k <;> first|rfl|(exfalso;omega))
 replace S:=S.recell (i:=5) rfl (cell':=icl [1]) (fun k j hk hj=>by
   obtain rfl:j=0:=by omega
   rcases k with _|_|_|_|k <;> first|rfl|(exfalso;omega))
 replace S:=S.recell (i:=4) rfl (cell':=icl [2]) (fun k j hk hj=>by
   obtain rfl:j=0:=by omega
   rcases k with _|_|_|_|k <;> first|rfl|(exfalso;omega))
 replace S:=S.recell (i:=3) rfl (cell':=icl [3]) (fun k j hk hj=>by
   obtain rfl:j=0:=by omega
   rcases k with _|_|_|_|k <;> first|rfl|(exfalso;omega))
 refine ⟨A1,A2,A3,A4,A5,A6,A7,A8,rfl,?_⟩
 replace S:=S.recell (i:=2) rfl (cell':=gJ exWs (exOA A2 A3 A4 A5 A6) exOc) (fun k j hk hj=>by
   rcases j with _|_|j
   · rcases k with _|_|_|_|_|k <;> first|rfl|(exfalso;omega)
   · rcases k with _|_|_|_|_|k <;> first|rfl|(exfalso;omega)
   · exfalso;omega)
 exact (S.sel [8,7,6,5,4,3,2] G G)
end
section
structure Chain where
 links:Int
 pitch:Int
 limit:Int
structure Gauge where
 fr:Int
 to:Int
 lo:Int
 hi:Int
def Gauge.zero:Gauge:=⟨0,0,0,0⟩
def Gauge.cell (g:Gauge):Nat→Value
 | 0 => .int .i64 g.fr
 | 1 => .int .i64 g.to
 | 2 => .int .i64 g.lo
 | _ => .int .i64 g.hi
abbrev Chain.val (c:Chain):Value := .agg [.int .i64 c.links,.int .i64 c.pitch,.int .i64 c.limit].toArray
theorem wE {α:Type} {l:List α} {p:α→Bool} {k:Nat} {d:α} (hk:k<l.length) (h:(l.take k).all p=true) (hp:p (l.getD k d)=true):(l.take (k+1)).all p=true:=by
 rw [List.take_succ_eq_append_getElem hk,List.all_append,h];simp only [List.getD_eq_getElem?_getD,List.getElem?_eq_getElem hk,Option.getD_some] at hp;simp [hp]
theorem sH {α:Type} {l:List α} {p:α→Bool} {k:Nat} {d:α} (hk:k<l.length) (hp:p (l.getD k d)=false):l.all p=false:=by
 simp only [List.getD_eq_getElem?_getD,List.getElem?_eq_getElem hk,Option.getD_some] at hp
 rw [←Bool.not_eq_true,List.all_eq_true];intro h;have:=h _ (List.getElem_mem hk);rw [hp] at this;cases this
abbrev IM:=Nat→Nat→Int
section
variable (M:IM) (a b:Nat) (far:Int)
end
def diagB (n:Nat) (M:IM):Bool:=(List.range n).all fun k=>decide (0≤M k k)
theorem kT {n k:Nat} {p:Nat→Bool}:(List.range (k+1)).all p=((List.range k).all p&&p k):=by
 rw [List.range_succ,List.all_append];simp
theorem gG {n k:Nat} {p:Nat→Bool} (hk:k<n) (h:p k=false):(List.range n).all p=false:=by
 rw [←Bool.not_eq_true,List.all_eq_true];intro hh;have:=hh k (List.mem_range.2 hk);rw [h] at this;cases this
def wide:Int:=1099511627776
structure Good (n:Nat) (M:IM):Prop where
 diag:∀ x,x<n→M x x=0
 tri:∀ x y z,x<n→y<n→z<n→M x z≤M x y+M y z
 top:∀ x y,x<n→y<n→M x y≤wide
structure Under (n:Nat) (E M:IM):Prop where
 le:∀ x y,x<n→y<n→E x y≤M x y
 add:∀ x y z,x<n→y<n→z<n→E x z=E x y+E y z
def Chain.n (c:Chain):Nat:=c.links.toNat+1
structure Best (n:Nat) (C:IM→Prop) (M:IM):Prop where
 good:Good n M
 sat:C M
 best:∀ E,Good n E→C E→∀ x y,x<n→y<n→E x y≤M x y
def fwP (M:IM) (m:Nat):IM:=fun x y=>min (M x y) (M x m+M m y)
def fstg (M:IM) (m p q:Nat):IM:=fun x y=>if x<p∨(x=p∧y<q) then fwP M m x y else M x y
def pw:Nat→Int
 | 0=>10000000
 | k+1=>2*pw k
structure CNet (n k:Nat) (M:IM):Prop where
 diag:∀ x,x<n→M x x=0
 lo:∀ x y,x<n→y<n → -(pw k)≤M x y
 top:∀ x y,x<n→y<n→M x y≤wide
structure Use where
 day:Int
 turns:Int
 cls:Int
 meas:Bool
 lo:Int
 hi:Int
structure Part where
 rates:List (Int×Int)
 worn:Int
 turns:Int
 age:Int
def aFi:Use:=⟨0,0,0,false,0,0⟩
def Use.cell (u:Use):Nat→Value
 | 0 => .int .i64 u.day
 | 1 => .int .i64 u.turns
 | 2 => .int .i64 u.cls
 | 3 => .bool u.meas
 | 4 => .int .i64 u.lo
 | _ => .int .i64 u.hi
def ucell (l:List Use) (k j:Nat):Value:=(l.getD k aFi).cell j
def Ar (s:Int×Int):Nat→Value
 | 0 => .int .i64 s.1
 | _ => .int .i64 s.2
def scell (l:List (Int×Int)) (k j:Nat):Value:=Ar (l.getD k (0,0)) j
def fcell (f:Nat→Int×Int) (k j:Nat):Value:=Ar (f k) j
def fV (p:Part):Bool:=decide (1≤p.rates.length∧p.rates.length≤4∧0≤p.worn∧p.worn≤1000∧0≤p.turns∧p.turns≤1000000∧0≤p.age∧p.age≤100000)
def jE (r:Int×Int):Bool:=decide (0≤r.1∧r.1≤r.2∧r.2≤1000000)
def useOk (n:Nat) (d:Int) (u:Use):Bool:=decide ((d≤u.day∧u.day≤100000∧0≤u.turns∧u.turns≤1000000∧0≤u.cls∧u.cls≤(n:Int)-1)∧0≤u.lo∧u.lo≤u.hi∧u.hi≤2000000000∧(u.meas=false→u.lo=0∧u.hi=0))
def prevD (l:List Use):Nat→Int
 | 0=>0
 | k+1=>(l.getD k aFi).day
def fX (n:Nat) (l:List Use) (k:Nat):Bool:=(List.range k).all fun i=>useOk n (prevD l i) (l.getD i aFi)
def cK (p:Part) (l:List Use):Int:=
 if fV p then (if p.rates.all jE then (if l.length≤40 then (if fX p.rates.length l l.length then 0 else 23) else 23) else 22) else 22
structure PartOk (p:Part) (l:List Use):Prop where
 hdr:fV p=true
 rates:p.rates.all jE=true
 len:l.length≤40
 uses:fX p.rates.length l l.length=true
theorem oI {p:Part} {l:List Use} (h:cK p l=0):PartOk p l:=by
  unfold cK at h
  split at h
  · split at h
    · split at h
      · split at h
        · exact ⟨by assumption,by assumption,by assumption,by assumption⟩
        · cases h
      · cases h
    · cases h
  · cases h
theorem PartOk.use {p:Part} {l:List Use} (h:PartOk p l) {k:Nat} (hk:k<l.length):useOk p.rates.length (prevD l k) (l.getD k aFi)=true:=by
 have:=h.uses
 unfold fX at this
 exact List.all_eq_true.1 this k (List.mem_range.2 hk)
theorem PartOk.rate {p:Part} {l:List Use} (h:PartOk p l) {k:Nat} (hk:k<p.rates.length):jE (p.rates.getD k (0,0))=true:=by
 rw [List.getD_eq_getElem?_getD,List.getElem?_eq_getElem hk];exact List.all_eq_true.1 h.rates _ (List.getElem_mem hk)
def cZ (p:Part) (u:Use):Int×Int:=(u.turns*(p.rates.getD u.cls.toNat (0,0)).1,u.turns*(p.rates.getD u.cls.toNat (0,0)).2)
def meetS (a b:Int×Int):Int×Int:=(max a.1 b.1,min a.2 b.2)
def addS (a b:Int×Int):Int×Int:=(a.1+b.1,a.2+b.2)
def fwd (p:Part) (l:List Use):Nat→Int×Int
 | 0=>(0,0)
 | k+1=>if (l.getD k aFi).meas then meetS (addS (fwd p l k) (cZ p (l.getD k aFi))) ((l.getD k aFi).lo,(l.getD k aFi).hi) else addS (fwd p l k) (cZ p (l.getD k aFi))
def fits (p:Part) (l:List Use) (k:Nat):Prop:=(l.getD k aFi).meas=true→(fwd p l (k+1)).1≤(fwd p l (k+1)).2
structure IsAt (p:Part) (l:List Use) (n:Nat):Prop where
 le:n≤l.length
 good:∀ k,k<n→fits p l k
 bad:n<l.length→¬ fits p l n
theorem IsAt.same {p:Part} {l:List Use} {n m:Nat} (h:IsAt p l n) (h':IsAt p l m):n=m:=by
 rcases Nat.lt_trichotomy n m with h1|h1|h1
 ·exact absurd (h'.good n h1) (h.bad (by have:=h'.le;omega))
 ·exact h1
 ·exact absurd (h.good m h1) (h'.bad (by have:=h.le;omega))
def bkw (p:Part) (l:List Use):Nat→Int×Int
 | 0=>fwd p l l.length
 | d+1=>meetS (fwd p l (l.length-1-d)) ((bkw p l d).1-(cZ p (l.getD (l.length-1-d) aFi)).2,(bkw p l d).2-(cZ p (l.getD (l.length-1-d) aFi)).1)
def cA (p:Part) (l:List Use) (k:Nat):Int×Int:=bkw p l (l.length-1-k)
theorem nP {p:Part} {l:List Use} (h:PartOk p l) {k:Nat} (hk:k<l.length):0≤(cZ p (l.getD k aFi)).1∧(cZ p (l.getD k aFi)).1≤1000000000000∧0≤(cZ p (l.getD k aFi)).2∧(cZ p (l.getD k aFi)).2≤1000000000000:=by
 have hu:=h.use hk
 unfold useOk at hu
 simp only [decide_eq_true_eq] at hu
 have hr:=h.rate (k:=(l.getD k aFi).cls.toNat) (by omega)
 unfold jE at hr
 simp only [decide_eq_true_eq] at hr
 unfold cZ
 refine ⟨Int.mul_nonneg (by omega) (by omega),?_,Int.mul_nonneg (by omega) (by omega),?_⟩
 ·exact Int.le_trans (Int.mul_le_mul (c:=1000000) (d:=1000000) (by omega) (by omega) (by omega) (by omega)) (by decide)
 ·exact Int.le_trans (Int.mul_le_mul (c:=1000000) (d:=1000000) (by omega) (by omega) (by omega) (by omega)) (by decide)
theorem As {p:Part} {l:List Use} (h:PartOk p l):∀ k,k≤l.length→0≤(fwd p l k).1∧(fwd p l k).1≤(k:Int)*1000000000000∧0≤(fwd p l k).2∧(fwd p l k).2≤(k:Int)*1000000000000:=by
  intro k;induction k with
  | zero=>intro _;simp [fwd]
  | succ k ih=>
    intro hk;have h1:=ih (by omega);have h2:=nP h (show k<l.length by omega);have hu:=h.use (show k<l.length by omega);unfold useOk at hu;simp only [decide_eq_true_eq] at hu;unfold fwd addS meetS;split <;> (dsimp only;omega)
theorem aBl {p:Part} {l:List Use} (h:PartOk p l):∀ d,d<l.length → -((d:Int)*1000000000000)≤(bkw p l d).1∧(bkw p l d).1≤40000000000000 ∧ -((d:Int)*1000000000000)≤(bkw p l d).2∧(bkw p l d).2≤40000000000000:=by
  intro d;have hlen:=h.len;induction d with
  | zero=>intro hd;have:=As h l.length (Nat.le_refl _);unfold bkw;omega
  | succ d ih=>
    intro hd;have h1:=ih (by omega);have h2:=nP h (show l.length-1-d<l.length by omega);have h3:=As h (l.length-1-d) (by omega);unfold bkw meetS;dsimp only;omega
def sumT (l:List Use):Nat→Int
 | 0=>0
 | k+1=>sumT l k+(l.getD k aFi).turns
theorem Wj {p:Part} {l:List Use} (h:PartOk p l):∀ k,k≤l.length→0≤sumT l k∧sumT l k≤(k:Int)*1000000:=by
  intro k;induction k with
  | zero=>intro _;simp [sumT]
  | succ k ih=>
    intro hk;have h1:=ih (by omega);have hu:=h.use (show k<l.length by omega);unfold useOk at hu;simp only [decide_eq_true_eq] at hu;unfold sumT;omega
def aEc (p:Part) (l:List Use):Int:=if l.length=0 then 0 else (fwd p l l.length).2
section
variable {P:Program} {ops:Array Oper} {w w0:World} {F0 F:Nat→Prop} {R:List Mem} {Q:Exit→Act→World→Prop} {rest:List Oper} {N:FN} {L:List (Nat×Value)} {a:Act} {ty:TypeId} {pos:String} {af:Array Edge}
theorem aEl {i b:Nat} {t:TypeId} {cs cs':List Value} (S:St w0 F0 R w) (hi:R[i]?=some (boxM b t cs)) (h:cs=cs'):St w0 F0 (R.set i (boxM b t cs')) w:=by
 subst h;exact S.imp hi (fun h=>h) (fun _ h=>h)
theorem mL {i e n c k:Nat} {A:Option Addr} {f:Nat→Int×Int} {s:Int×Int} (S:St w0 F0 R w) (hi:R[i]?=some (ownM e 2 A n c (fcell f))) (hk:k<n) (hs:f k=s) :
  ∀ (j:Nat) v,[Value.int .i64 s.1,Value.int .i64 s.2][j]?=some v→w.cell? ⟨(adr A).block,(adr A).off+k*2+0+j,none⟩=some v:=by
 intro j v hv;subst hs;have h0:=aEk S hi hk (j:=j);have hj:j<2:=(List.getElem?_eq_some_iff.1 hv).1;have h1:=h0 hj;have:j=0∨j=1:=by omega
 rcases this with rfl|rfl <;> (simp at hv;subst hv;exact h1)
theorem eE {t e i kk n c:Nat} {A:Option Addr} {f:Nat→Int×Int} {x y:Operand} {v1 v2:Int} (H:Fr N L a) (S:St w0 F0 R w) (hi:R[i]?=some (ownM e 2 A n c (fcell f)))
    (hx:ev L x=some (.pointer (some (pt A 2 kk 0)))) (hy:ev L y=some (.agg [.int .i64 v1,.int .i64 v2].toArray)) (hk:kk<n) (hs:Sz P t 2)
    (k:∀ w' a',St w0 F0 (R.set i (ownM e 2 A n c (fcell fun q=>if q=kk then (v1,v2) else f q))) w'→Fr N L a'→wpList P ops Q rest a' w') :
    wpList P ops Q (⟨none,.store t x y,ty,pos,af,none⟩::rest) a w:=by
  refine wpList_plain rfl fun K hK=>?_
  unfold Oper.wp
  rcases S.holds hi with ⟨_,h,_⟩|⟨b,cs,rfl,hb,hnc,hcm,hsz,hc⟩
  · omega
  have hlt:kk*2+1<cs.size:=by omega
  have hp:pt (some ⟨b,0,none⟩) 2 kk 0=⟨b,kk*2,none⟩:=by simp [pt,adr]
  rw [hp] at hx
  have hr:=mB (P:=P) (w:=w) (t:=t) (b:=b) (o:=kk*2) (v := .agg [.int .i64 v1,.int .i64 v2].toArray) (vs:=[.int .i64 v1,.int .i64 v2]) (by simpa using hs) rfl hb (by simp;omega) (fun u hu=>by
    simp only [List.mem_cons,List.not_mem_nil,or_false] at hu
    rcases hu with rfl|rfl <;> rfl)
  have e1:(execOp a.eval ⟨none,.store t x y,ty,pos,af,none⟩).run P w = .ok .skip (w.setRow b (gX cs.toList (kk*2) [.int .i64 v1,.int .i64 v2]).toArray):=by
    simp only [execOp,H.eval hx,H.eval hy]
    simp only [Sem.run_bind,hr]
    rfl
  rw [e1];refine hK _ _ (k _ _ (S.updSame hi ((kB w b _).mono ?_) ?_ (fun _ h=>h)) (H.put_none _))
  · rintro q rfl;exact ⟨_,rfl,rfl⟩
  · refine .inr ⟨b,_,rfl,setRow_heap w b _ _ e (0,0) hb,hnc,hcm,?_,?_⟩
    · rw [List.size_toArray,oN _ _ _ (by simp;omega)];simpa using hsz
    · intro k' j' hk' hj'
      rw [List.getElem?_toArray,kF _ _ _ (by simp;omega)];have hj2:j'=0∨j'=1:=by omega
      by_cases hh:k'=kk
      · subst hh
        rw [List.append_assoc,List.getElem?_append_right (by simp;omega)];simp only [List.length_take,Array.length_toList,Nat.min_eq_left (show k'*2≤cs.size by omega)];rcases hj2 with rfl|rfl <;> simp [fcell,Ar]
      · have hcell:=hc k' j' hk' hj'
        have:fcell (fun q=>if q=kk then (v1,v2) else f q) k' j'=fcell f k' j':=by simp [fcell,hh]
        rw [this,←hcell];rcases Nat.lt_or_ge (k'*2+j') (kk*2) with h|h
        · rw [List.append_assoc,List.getElem?_append_left (by simp;omega),List.getElem?_take_of_lt h];simp
        · have h':kk*2+2≤k'*2+j':=by omega
          rw [List.getElem?_append_right (by simp;omega),List.getElem?_drop];simp only [List.length_append,List.length_take,List.length_cons,List.length_nil,Array.length_toList];rw [Nat.min_eq_left (by omega)];rw [show kk*2+(0+1+1)+(k'*2+j'-(kk*2+(0+1+1)))=k'*2+j' by omega];simp
end
theorem wF {p:Part} {l:List Use} {k:Nat} (h:(l.getD k aFi).meas=true):fwd p l (k+1)=meetS (addS (fwd p l k) (cZ p (l.getD k aFi))) ((l.getD k aFi).lo,(l.getD k aFi).hi):=by rw [fwd,if_pos h]
theorem Im {p:Part} {l:List Use} {k:Nat} (h:(l.getD k aFi).meas=false):fwd p l (k+1)=addS (fwd p l k) (cZ p (l.getD k aFi)):=by rw [fwd,if_neg (by rw [h];simp)]
theorem Dd {p:Part} {l:List Use} {k:Nat} (h:(l.getD k aFi).meas=false):fits p l k:=fun h'=>by rw [h] at h';cases h'
theorem kJ {p:Part} {l:List Use} (h:PartOk p l) {k:Nat} (hk:k<l.length) : -40000000000000≤(cA p l k).1∧(cA p l k).1≤40000000000000 ∧ -40000000000000≤(cA p l k).2∧(cA p l k).2≤40000000000000:=by
 have:=aBl h (l.length-1-k) (by omega)
 have:=h.len
 unfold cA
 omega
theorem De {p:Part} {l:List Use} {k:Nat} (hk:k+1=l.length):cA p l k=fwd p l l.length:=by
 unfold cA;rw [show l.length-1-k=0 by omega];rfl
theorem gQ {p:Part} {l:List Use} {k:Nat} (hk:k+1<l.length):cA p l k=meetS (fwd p l (k+1)) ((cA p l (k+1)).1-(cZ p (l.getD (k+1) aFi)).2,(cA p l (k+1)).2-(cZ p (l.getD (k+1) aFi)).1):=by
 unfold cA
 rw [show l.length-1-k=(l.length-1-(k+1))+1 by omega];rw [bkw];rw [show l.length-1-(l.length-1-(k+1))=k+1 by omega]
end
section
theorem eY {P:Program} {f:Nat} {vs:Array Value} {w:World} {R R':Value→World→Prop} (h:Calls P f vs w (Ret R)) (k:∀ v w',R v w'→R' v w'):Calls P f vs w (Ret R'):=Calls.mono h fun e w' he=>by
 cases e with
 | returned v=>exact k v w' he
 | _=>exact he
theorem eZ (n lo hi:Int) (w:World) :
    Calls Tryz.prog 190 [.int .i64 n,.int .i64 lo,.int .i64 hi].toArray w (Ret (fun v w'=>v = .bool (decide (lo≤n)&&decide (n≤hi))∧w'=w)):=by
 refine enter Tryz.func190 rfl Tryz.ntmps190 rfl (fun a H=>?_)
 have S:=St.start w
 refine sS H fun K1 k1=>sr 1 G<|sE ?_;intro a H
 refine k1 _ ?_;replace H:=H.keep [0,1,2] rfl;refine sS H fun K2 k2=>sr 4 G<|sg 3 3 10 13 true G G (fun hg4=>sy hg4<|sr 1 G<|sy hg4<|sr 1 G<|sy hg4<|sr 1 G<|sz 3 G G G)<|sa G G G<|sr 1 G<|sE ?_;intro a H
 refine k2 _ ?_;refine wp_ret ?_;refine ret1 (fn:=Tryz.f190) rfl H rfl ?_;exact ⟨rfl,rfl⟩
theorem iI (n lo hi:Int) (w:World) :
    Calls Tryz.prog 158 [.int .i64 n,.int .i64 lo,.int .i64 hi].toArray w (Ret (fun v w'=>v = .bool (decide (lo≤n)&&decide (n≤hi))∧w'=w)):=by
 refine enter Tryz.func158 rfl Tryz.ntmps158 rfl (fun a H=>?_)
 have S:=St.start w
 refine sS H fun K1 k1=>sr 1 G<|sE ?_;intro a H
 refine k1 _ ?_;replace H:=H.keep [0,1,2] rfl;refine sS H fun K2 k2=>sr 4 G<|sg 3 3 10 13 true G G (fun hg4=>sy hg4<|sr 1 G<|sy hg4<|sr 1 G<|sy hg4<|sr 1 G<|sz 3 G G G)<|sa G G G<|sr 1 G<|sE ?_;intro a H
 refine k2 _ ?_;refine wp_ret ?_;refine ret1 (fn:=Tryz.f158) rfl H rfl ?_;exact ⟨rfl,rfl⟩
set_option maxRecDepth 100000 in
theorem Io (a b c d:Int) (w:World):(Op.equalIn 10000 88 (.agg #[.int .i64 a,.int .i64 b]) (.agg #[.int .i64 c,.int .i64 d])).run Tryz.prog w = .ok (a == c&&b == d) w:=by
 have u3:=Tryz.underlying3
 have a3:=Tryz.isAgg3
 have z3:=Tryz.sizeOf3
 have hS:Tryz.prog.underlying 88=some (.struct (Tryz.prog.fieldsOf 88)):=by kernel_rfl
 have hp:Tryz.prog.stoodInHeld 88=false:=by kernel_rfl
 rw [show (10000:Nat)=9999+1 from rfl,run_equalIn_agg w 9999 88 _ _ hS hp];simp only [Program.fieldsOf,Tryz.underlying88];go_simp;by_cases h1:a=c <;> by_cases h2:b=d <;> simp [h1,h2]
set_option maxRecDepth 100000 in
theorem wG (op:BinOp) (x y:Operand) (a b c d:Int) (w:World):(eqGuard op 88 x y (.agg #[.int .i64 a,.int .i64 b]) (.agg #[.int .i64 c,.int .i64 d])).run Tryz.prog w = .ok () w:=by
 have h:Tryz.prog.eqGuardType Tryz.prog.depth 88=false:=by kernel_rfl
 have hpg:∀ w,(program:Sem Program).run Tryz.prog w = .ok Tryz.prog w:=fun _=>rfl
 cases op <;> simp [eqGuard,h,hpg]
section
variable {P:Program} {w:World} {L:List (Nat×Value)} {ty:TypeId} {pos:String} {af:Array Edge} {dd:Option Nat} {g:Option (Nat×Bool)}
set_option maxRecDepth 100000 in
theorem oP {x y:Operand} {yt:TypeId} {a b c d:Int} (hx:ev L x=some (.agg [.int .i64 a,.int .i64 b].toArray)) (hy:ev L y=some (.agg [.int .i64 c,.int .i64 d].toArray)) :
  Does Tryz.prog L ⟨dd,.binOp .neq 88 x y yt,ty,pos,af,g⟩ w (.bool (!(decide (a=c)&&decide (b=d)))):=fun ρ hρ=>by
 have e:(binOp .neq 88 (.agg #[.int .i64 a,.int .i64 b]) (.agg #[.int .i64 c,.int .i64 d])).run Tryz.prog w = .ok (.bool (!(decide (a=c)&&decide (b=d)))) w:=by
  simp only [binOp]
  simp [Op.equal,Op.maxDepth,Io]
  by_cases h1:a=c <;> by_cases h2:b=d <;> simp [h1,h2]
 simp only [execOp,hρ _ _ hx,hρ _ _ hy]
 simp [wG,e]
end
end
section
theorem aBm {sz:Nat} {c d:Nat→Nat→Value} (h0:∀ j,j<sz→c 0 j=d 0 j) (h1:∀ j,j<sz→c 1 j=d 1 j):∀ k j,k<2→j<sz→c k j=d k j:=by
 intro k j hk hj;have:k=0∨k=1:=by omega
 rcases this with rfl|rfl
 ·exact h0 j hj
 ·exact h1 j hj
section
variable {P:Program} {w:World} {L:List (Nat×Value)} {ty:TypeId} {pos:String} {af:Array Edge} {dd:Option Nat} {g:Option (Nat×Bool)} {a:Act}
set_option maxRecDepth 100000 in
theorem cG {x y:Operand} {yt:TypeId} {a b c d:Int} (hx:ev L x=some (.agg [.int .i64 a,.int .i64 b].toArray)) (hy:ev L y=some (.agg [.int .i64 c,.int .i64 d].toArray)) :
  Does Tryz.prog L ⟨dd,.binOp .eql 88 x y yt,ty,pos,af,g⟩ w (.bool (decide (a=c)&&decide (b=d))):=fun ρ hρ=>by
 have e:(binOp .eql 88 (.agg #[.int .i64 a,.int .i64 b]) (.agg #[.int .i64 c,.int .i64 d])).run Tryz.prog w = .ok (.bool (decide (a=c)&&decide (b=d))) w:=by
  simp only [binOp]
  simp [Op.equal,Op.maxDepth,Io]
  by_cases h1:a=c <;> by_cases h2:b=d <;> simp [h1,h2]
 simp only [execOp,hρ _ _ hx,hρ _ _ hy]
 simp [wG,e]
end
end
section
structure Brake where
 force:Int
 delay:Int
deriving DecidableEq
def Brake.zero:Brake:=⟨0,0⟩
def Brake.cell (b:Brake):Nat→Value
 | 0 => .int .i64 b.force
 | _ => .int .i64 b.delay
def bcell (l:List Brake) (k j:Nat):Value:=(l.getD k Brake.zero).cell j
structure Esc where
 up:Bool
 empty:Int
 pull:Int
 drag:Int
 motor:Int
 br:List Brake
structure Stp where
 speed:Int
 lo:Int
 hi:Int
 fail:Int
def iJ (b:Brake):Bool:=decide (0≤b.force∧b.force≤10000000∧0≤b.delay∧b.delay≤20)
def escOk (e:Esc):Bool:=decide (1≤e.empty∧e.empty≤100000∧0≤e.pull∧e.pull≤100∧0≤e.drag∧e.drag≤10000000∧0≤e.motor∧e.motor≤10000000∧e.br.length≤3)&&e.br.all iJ
def stpOk (e:Esc) (s:Stp):Bool:=decide (0≤s.speed∧s.speed≤1000∧0≤s.lo∧s.lo≤s.hi∧s.hi≤100000∧0≤s.fail∧s.fail<2^e.br.length)
def stopE (e:Esc) (s:Stp):Int:=if escOk e=true then (if stpOk e s=true then 0 else 11) else 10
def pH (v g f m:Int):Int:=max 0 (v+(g-f)/m)
def tickI (e:Esc) (v load brakes:Int):Int:=
 let g:=if e.up then -(e.pull*load) else e.pull*load
 if v<0∨v=0∧g<0 then -pH (-v) (-g) (e.drag+brakes) (e.empty+load) else pH v g (e.drag+brakes) (e.empty+load)
def jF (fail t:Int) (l:List Brake):Nat→Int
 | 0=>0
 | k+1=>jF fail t l k+(if fail/2^k%2=0∧(l.getD k Brake.zero).delay≤t then (l.getD k Brake.zero).force else 0)
theorem wH {fail t:Int} {l:List Brake} {k:Nat} (h:fail/2^k%2=0∧(l.getD k Brake.zero).delay≤t):jF fail t l k+(l.getD k Brake.zero).force=jF fail t l (k+1):=by
 conv=>rhs;unfold jF
 rw [if_pos h]
theorem yJ {fail t:Int} {l:List Brake} {k:Nat} (h:¬ (fail/2^k%2=0∧(l.getD k Brake.zero).delay≤t)):jF fail t l k=jF fail t l (k+1):=by
 conv=>rhs;unfold jF
 rw [if_neg h,Int.add_zero]
def gripI (e:Esc) (s:Stp) (t:Int):Int:=jF s.fail t e.br e.br.length
def extI (e:Esc) (s:Stp) (most:Bool) (v t:Int):Int:=
 let a:=tickI e v s.lo (gripI e s t);let b:=tickI e v s.hi (gripI e s t)
 if (most=true∧b > a)∨(most=false∧b<a) then b else a
def goI (e:Esc) (s:Stp) (most:Bool):Nat→Int→Int→Int×Bool
 | 0,v,_=>(0,decide (v=0))
 | n+1,v,t=>if v=0 then (0,true) else (extI e s most v t+(goI e s most n (extI e s most v t) (t+1)).1,(goI e s most n (extI e s most v t) (t+1)).2)
theorem Au {fail t:Int} {l:List Brake} (h:l.all iJ=true):∀ k,k≤l.length→0≤jF fail t l k∧jF fail t l k≤10000000*k:=by
  intro k;induction k with
  | zero=>intro _;unfold jF;omega
  | succ k ih=>
    intro hk;have h1:=ih (by omega)
    have hb:iJ (l.getD k Brake.zero)=true:=by
      rw [List.getD_eq_getElem?_getD,List.getElem?_eq_getElem (by omega)];exact List.all_eq_true.1 h _ (List.getElem_mem _)
    unfold iJ at hb
    simp only [decide_eq_true_eq] at hb
    unfold jF
    split <;> omega
theorem dM {e:Esc} (h:escOk e=true):(1≤e.empty∧e.empty≤100000∧0≤e.pull∧e.pull≤100∧0≤e.drag∧e.drag≤10000000∧0≤e.motor∧e.motor≤10000000∧e.br.length≤3)∧(∀ k,k<e.br.length→iJ (e.br.getD k Brake.zero)=true)∧(2:Int)^((e.br.length:Int)).toNat=2^e.br.length∧1≤(2:Int)^e.br.length∧(2:Int)^e.br.length≤8:=by
  unfold escOk at h
  simp only [Bool.and_eq_true,decide_eq_true_eq] at h
  have h2:=h.1.2.2.2.2.2.2.2.2
  have h3:e.br.length=0∨e.br.length=1∨e.br.length=2∨e.br.length=3:=by omega
  refine ⟨h.1,fun k hk=>?_,by rw [Int.toNat_natCast],?_⟩
  · rw [List.getD_eq_getElem?_getD,List.getElem?_eq_getElem hk]
    exact List.all_eq_true.1 h.2 _ (List.getElem_mem hk)
  · rcases h3 with e|e|e|e <;> rw [e] <;> decide
theorem Wl {e:Esc} {s:Stp} (h:stopE e s=0):escOk e=true∧stpOk e s=true:=by
  unfold stopE at h
  split at h
  · split at h
    · exact ⟨by assumption,by assumption⟩
    · cases h
  · cases h
theorem wI {x m B:Int} (hm:0<m) (h : -B≤x∧x≤B) : -B≤x/m∧x/m≤B:=by
  constructor
  · rw [Int.le_ediv_iff_mul_le hm]
    have:B*1≤B*m:=Int.mul_le_mul_of_nonneg_left (by omega) (by omega)
    rw [Int.neg_mul];omega
  · have:=Int.ediv_le_ediv hm h.2
    have:=Int.ediv_le_self m (show 0≤B by omega)
    omega
theorem Ip {e:Esc} {v x f B:Int} (he:escOk e=true) (hx:0≤x∧x≤100000) (hf:0≤f∧f≤30000000) (hv : -B≤v∧v≤B) : -(B+50000000)≤tickI e v x f∧tickI e v x f≤B+50000000:=by
 obtain ⟨h1,_⟩:=dM he;have h2:0≤e.pull*x:=Int.mul_nonneg (by omega) (by omega);have h3:e.pull*x≤100*100000:=Int.mul_le_mul (by omega) (by omega) (by omega) (by omega);unfold tickI pH;simp only;generalize hg:(if e.up=true then -(e.pull*x) else e.pull*x)=g;have h4 : -10000000≤g∧g≤10000000:=by rw [←hg];split <;> omega
 have h5:=wI (x:=g-(e.drag+f)) (B:=50000000) (show 0<e.empty+x by omega) (by omega)
 have h6:=wI (x := -g-(e.drag+f)) (B:=50000000) (show 0<e.empty+x by omega) (by omega)
 split <;> omega
theorem Av {e:Esc} {s:Stp} {m:Bool} {v t:Int} (h:(m=true∧tickI e v s.hi (gripI e s t) > tickI e v s.lo (gripI e s t))∨(m=false∧tickI e v s.hi (gripI e s t)<tickI e v s.lo (gripI e s t))):extI e s m v t=tickI e v s.hi (gripI e s t):=by
 unfold extI
 exact if_pos h
theorem Aw {e:Esc} {s:Stp} {m:Bool} {v t:Int} (h:¬ ((m=true∧tickI e v s.hi (gripI e s t) > tickI e v s.lo (gripI e s t))∨(m=false∧tickI e v s.hi (gripI e s t)<tickI e v s.lo (gripI e s t)))):extI e s m v t=tickI e v s.lo (gripI e s t):=by
 unfold extI
 exact if_neg h
theorem aBn {e:Esc} {s:Stp} {m:Bool} {v t:Int}:extI e s m v t=tickI e v s.lo (gripI e s t)∨extI e s m v t=tickI e v s.hi (gripI e s t):=by
 unfold extI
 simp only
 split
 ·exact .inr rfl
 ·exact .inl rfl
def distI (e:Esc) (s:Stp):Int×Int×Int:=
 if stopE e s≠0 then (0,0,stopE e s) else if (goI e s true 100 s.speed 0).2=true then ((goI e s false 100 s.speed 0).1,(goI e s true 100 s.speed 0).1,0) else (0,0,12)
end
section
theorem Gr (n lo hi:Int) (w:World) :
    Calls Tryz.prog 117 [.int .i64 n,.agg [.int .i64 lo,.int .i64 hi].toArray].toArray w (Ret (fun v w'=>v = .bool (decide (lo≤n)&&decide (n≤hi))∧St w noF [] w')):=by
 refine enter Tryz.func117 rfl Tryz.ntmps117 rfl (fun a H=>?_)
 have S:=St.start w
 refine seq_list fun K1 k1=>?_
 refine aO H rfl S G G ?_;intro b3 _ a hb3 hbw3 S H
 refine ls 1 H<|sr 1 G<|sE ?_;intro a H
 refine k1 _ _ ?_;replace H:=H.keep [0,3] rfl;refine sS H fun K2 k2=>sf bJ rfl<|sl S 0 aD G G G<|sr 3 G<|sg 4 4 9 13 true G G (fun hg5=>sy hg5<|sr 1 G<|sy hg5<|sf bH rfl<|sy hg5<|sl S 0 aD G G G<|sy hg5<|sr 1 G<|sz 4 G G G)<|sa G G G<|sr 1 G<|sE ?_;intro a H
 refine k2 _ ?_;refine wp_ret ?_;refine ret1 (fn:=Tryz.f117) rfl H rfl ?_;exact ⟨rfl,(S.sel [] G G)⟩
theorem eC (hi:Int) (w:World) :
    Calls Tryz.prog 118 [.int .i64 hi].toArray w (Ret (fun v w'=>v = .agg [.int .i64 0,.int .i64 hi].toArray∧St w noF [] w')):=by
 refine enter Tryz.func118 rfl Tryz.ntmps118 rfl (fun a H=>?_)
 have S:=St.start w
 refine seq_list fun K1 k1=>?_
 refine aJ H rfl S cB ?_;intro b2 _ a hb2 hbw2 S H
 refine k1 _ _ ?_;refine seq_list fun K2 k2=>?_
 refine ls 2 H<|sr 1 G<|sd (aN dW G G)<|sE ?_;intro a H
 refine aE H S (i:=0) G G G G aS G G ?_
 clear H a S;intro _ a S H;refine k2 _ _ ?_;refine wp_ret ?_;refine retA (fn:=Tryz.f118) rfl H rfl bF (by exact aS) (dN S (i:=0) rfl) ?_;exact ⟨rfl,(S.sel [] G G)⟩
theorem cL {n lo hi:Int} {w:World} (h:lo≤n∧n≤hi):Calls Tryz.prog 117 [.int .i64 n,.agg [.int .i64 lo,.int .i64 hi].toArray].toArray w (Ret fun v w'=>v = .bool true∧St w noF [] w'):=
 eY (Gr n lo hi w) fun v w' h'=>⟨h'.1.trans (congrArg Value.bool (by rw [decide_eq_true h.1,decide_eq_true h.2];rfl)),h'.2⟩
theorem lW {n lo hi:Int} {w:World} (h:n<lo∨hi<n):Calls Tryz.prog 117 [.int .i64 n,.agg [.int .i64 lo,.int .i64 hi].toArray].toArray w (Ret fun v w'=>v = .bool false∧St w noF [] w'):=
 eY (Gr n lo hi w) fun v w' h'=>⟨h'.1.trans (congrArg Value.bool (by rw [Bool.and_eq_false_iff];simp only [decide_eq_false_iff_not];omega)),h'.2⟩
theorem Ls (b:Brake) (w:World) :
    Calls Tryz.prog 147 [.agg [.int .i64 b.force,.int .i64 b.delay].toArray].toArray w (Ret (fun v w'=>v = .bool (iJ b)∧St w noF [] w')):=by
 refine enter Tryz.func147 rfl Tryz.ntmps147 rfl (fun a H=>?_)
 have S:=St.start w
 refine seq_list fun K1 k1=>?_
 refine aO H rfl S G G ?_;intro b1 _ a hb1 hbw1 S H
 refine ls 1 H<|sr 1 G<|sE ?_;intro a H
 refine k1 _ _ ?_;by_cases hs:0≤b.force∧b.force≤10000000
 ·skip
  replace H:=H.keep [1] rfl;replace S:=S.drew;refine seq_wq [(0,true),(1,true),(2,false),(3,false),(4,true),(5,true),(6,true),(7,false),(8,false),(9,true),(10,true)] (by kernel_rfl) (by kernel_rfl) (S.sel [0] G G) fun K2 k2=>?_
  refine qF H<|qd G (fun _ S=>(aC uX rfl))<|qd G (fun _ S=>aF aD rfl (aEh S (i:=0) G G))<|qK ?_;intro a H
  refine aT rfl ?_
  refine aA H G G Tryz.func118 G G (eC _ _) ?_;clear H a
  rintro _ _ a ⟨rfl,S2⟩ H;replace S:=S.call S2;clear S2;refine wpList_nil (And.intro (S.sel [0] rfl rfl) ?_);refine aT rfl ?_;refine aA H rfl rfl Tryz.func117 rfl rfl (cL (by omega)) ?_;clear H a;rintro _ _ a ⟨rfl,S2⟩ H;replace S:=S.call S2;clear S2;refine wpList_nil (And.intro (S.sel [0] rfl rfl) ?_);refine qF H<|qr 1 G<|qK ?_;intro a H
  refine aG H G G G G (fun _ S=>(aC Ce rfl)) ?_;intro a H
  refine aG H G G G G (fun _ S=>aF aD rfl (aEh S (i:=0) G G)) ?_;intro a H
  refine aT rfl ?_
  refine bA H G G ?_
  refine aA H G G Tryz.func118 G G (eC _ _) ?_;clear H a
  rintro _ _ a ⟨rfl,S2⟩ H;replace S:=S.call S2;clear S2;refine wpList_nil (And.intro (S.sel [0] rfl rfl) ?_);refine aT rfl ?_;refine bA H rfl rfl ?_;refine aA H rfl rfl Tryz.func117 rfl rfl (Gr _ _ _ _) ?_;clear H a;rintro _ _ a ⟨rfl,S2⟩ H;replace S:=S.call S2;clear S2;refine wpList_nil (And.intro (S.sel [0] rfl rfl) ?_);refine qF H<|qd G (fun _ S=>(jQ rfl rfl rfl))<|qr 1 G<|qK ?_;intro a H
  refine bL ?_
  refine k2 _ _ ?_;refine wp_ret ?_;refine ret1 (fn:=Tryz.f147) rfl H rfl ?_;refine ⟨congrArg Value.bool ?_,(S.sel [] G G)⟩;unfold iJ;first|(rw [Bool.eq_iff_iff];simp only [Bool.and_eq_true,decide_eq_true_eq,true_and];omega)|(symm;simp only [decide_eq_false_iff_not];omega)
 replace H:=H.keep [1] rfl;replace S:=S.drew;refine seq_wq [(0,true),(1,true),(2,false),(3,false),(4,true),(5,true),(6,true),(7,true),(8,true),(9,true),(10,true)] (by kernel_rfl) (by kernel_rfl) (S.sel [0] G G) fun K3 k3=>?_
 refine qF H<|qd G (fun _ S=>(aC uX rfl))<|qd G (fun _ S=>aF aD rfl (aEh S (i:=0) G G))<|qK ?_;intro a H
 refine aT rfl ?_
 refine aA H G G Tryz.func118 G G (eC _ _) ?_;clear H a
 rintro _ _ a ⟨rfl,S2⟩ H;replace S:=S.call S2;clear S2;refine wpList_nil (And.intro (S.sel [0] rfl rfl) ?_);refine aT rfl ?_;refine aA H rfl rfl Tryz.func117 rfl rfl (lW (by omega)) ?_;clear H a;rintro _ _ a ⟨rfl,S2⟩ H;replace S:=S.call S2;clear S2;refine wpList_nil (And.intro (S.sel [0] rfl rfl) ?_);refine qF H<|qr 1 G<|qK ?_;intro a H
 refine aK H G G G G G ?_;intro a H
 refine aK H G G G G G ?_;intro a H
 refine aK H G G G G G ?_;intro a H
 refine aK H G G G G G ?_;intro a H
 refine qF H<|qd G (fun _ S=>(aV G G G))<|qr 1 G<|qK ?_;intro a H
 refine bL ?_
 refine k3 _ _ ?_;refine wp_ret ?_;refine ret1 (fn:=Tryz.f147) rfl H rfl ?_;refine ⟨congrArg Value.bool ?_,(S.sel [] G G)⟩;unfold iJ;first|(rw [Bool.eq_iff_iff];simp only [Bool.and_eq_true,decide_eq_true_eq,true_and];omega)|(symm;simp only [decide_eq_false_iff_not];omega)
theorem yK (up:Bool) (empty pull drag motor:Int) (br:List Brake) (BA:Option Addr) (bcp:Nat) (w:World) (hb:InS w noF 2 BA br.length (bcell br)) (hbn:br.length≤9223372036854775807) :
    Calls Tryz.prog 116 [.agg [.bool up,.int .i64 empty,.int .i64 pull,.int .i64 drag,.int .i64 motor,.slice BA br.length bcp].toArray].toArray w (Ret (fun v w'=>v = .int .i64 (if escOk (⟨up,empty,pull,drag,motor,br⟩:Esc)=true then 0 else 10)∧St w noF [] w')):=by
 refine enter Tryz.func116 rfl Tryz.ntmps116 rfl (fun a H=>?_)
 have S:=St.start w
 refine seq_list fun K1 k1=>?_
 refine aO H rfl S G G ?_;intro b1 _ a hb1 hbw1 S H
 refine ls 1 H<|sr 1 G<|sE ?_;intro a H
 refine k1 _ _ ?_;refine sS H fun K2 k2=>sr 1 G<|sE ?_;intro a H
 refine k2 _ ?_;refine wp_seq_k fun K3 k3=>?_
 rcases (show (empty<1∨(1≤empty∧100000<empty)∨(1≤empty∧empty≤100000∧(pull<0∨100<pull)))∨((1≤empty∧empty≤100000∧0≤pull∧pull≤100)∧((drag<0∨10000000<drag)∨((0≤drag∧drag≤10000000)∧(motor<0∨10000000<motor))∨((0≤drag∧drag≤10000000∧0≤motor∧motor≤10000000)∧3<(br.length:Int))∨((0≤drag∧drag≤10000000∧0≤motor∧motor≤10000000)∧(br.length:Int)≤3))) by omega) with (hs|hs|hs)|⟨hs0,hs|hs|hs|hs⟩
 ·skip
  skip
  replace H:=H.keep [1,3] rfl;replace S:=S.drew;refine seq_wq [(0,true),(1,true),(2,true),(3,true),(4,true),(5,true),(6,true),(7,true),(8,true),(9,true),(10,true),(11,true),(12,true),(13,true),(14,true),(15,true),(16,true),(17,true),(18,true),(19,true),(20,true),(21,true),(22,true),(23,true),(24,true),(25,true),(26,true),(27,true),(28,true),(29,true),(30,true),(31,true),(32,true),(33,true),(34,true)] (by kernel_rfl) (by kernel_rfl) (S.sel [0] G G) fun K4 k4=>?_
  refine qF H<|qd G (fun _ S=>(aC eG rfl))<|qd G (fun _ S=>aF aD rfl (aEh S (i:=0) G G))<|qd G (fun _ S=>Does.to (dE G G) (congrArg Value.bool (decide_eq_true (by omega))))<|qr 1 G<|qK ?_;intro a H
  refine aK H G G G G G ?_;intro a H
  refine aK H G G G G G ?_;intro a H
  refine aK H G G G G G ?_;intro a H
  refine qF H<|qd G (fun _ S=>(aV G G G))<|qr 1 G<|qK ?_;intro a H
  refine aK H G G G G G ?_;intro a H
  refine aK H G G G G G ?_;intro a H
  refine aK H G G G G G ?_;intro a H
  refine aK H G G G G G ?_;intro a H
  refine aK H G G G G G ?_;intro a H
  refine qF H<|qd G (fun _ S=>(aV G G G))<|qr 1 G<|qK ?_;intro a H
  refine aK H G G G G G ?_;intro a H
  refine aK H G G G G G ?_;intro a H
  refine aK H G G G G G ?_;intro a H
  refine aK H G G G G G ?_;intro a H
  refine aK H G G G G G ?_;intro a H
  refine qF H<|qd G (fun _ S=>(aV G G G))<|qr 1 G<|qK ?_;intro a H
  refine aK H G G G G G ?_;intro a H
  refine aK H G G G G G ?_;intro a H
  refine aK H G G G G G ?_;intro a H
  refine aK H G G G G G ?_;intro a H
  refine aK H G G G G G ?_;intro a H
  refine qF H<|qd G (fun _ S=>(aV G G G))<|qr 1 G<|qK ?_;intro a H
  refine aK H G G G G G ?_;intro a H
  refine aK H G G G G G ?_;intro a H
  refine aK H G G G G G ?_;intro a H
  refine aK H G G G G G ?_;intro a H
  refine qF H<|qd G (fun _ S=>(aV G G G))<|qK ?_;intro a H
  refine bL ?_
  refine k4 _ _ ?_;refine cond_ H rfl (fun hc1=>?_) (fun hc1=>?_)
  ·skip
   skip
   replace H:=H.keep [] rfl;refine sS H fun K5 k5=>sr 1 G<|sE ?_;intro a H
   refine k5 _ ?_;refine wp_ret ?_;refine ret1 (fn:=Tryz.f116) rfl H rfl ?_;refine ⟨?_,(S.sel [] rfl rfl)⟩;rw [if_neg (by unfold escOk;simp only [Bool.and_eq_true,decide_eq_true_eq];rintro ⟨h1,_⟩;omega)]
  skip
  exact absurd hc1 (by decide)
 ·skip
  skip
  replace H:=H.keep [1,3] rfl;replace S:=S.drew;refine seq_wq [(0,true),(1,true),(2,true),(3,true),(4,true),(5,true),(6,true),(7,true),(8,true),(9,true),(10,true),(11,true),(12,true),(13,true),(14,true),(15,true),(16,true),(17,true),(18,true),(19,true),(20,true),(21,true),(22,true),(23,true),(24,true),(25,true),(26,true),(27,true),(28,true),(29,true),(30,true),(31,true),(32,true),(33,true),(34,true)] (by kernel_rfl) (by kernel_rfl) (S.sel [0] G G) fun K6 k6=>?_
  refine qF H<|qd G (fun _ S=>(aC eG rfl))<|qd G (fun _ S=>aF aD rfl (aEh S (i:=0) G G))<|qd G (fun _ S=>Does.to (dE G G) (congrArg Value.bool (decide_eq_false (by omega))))<|qr 1 G<|qK ?_;intro a H
  refine aG H G G G G (fun _ S=>(aC eG rfl)) ?_;intro a H
  refine aG H G G G G (fun _ S=>aF aD rfl (aEh S (i:=0) G G)) ?_;intro a H
  refine aG H G G G G (fun _ S=>Does.to (bX G G) (congrArg Value.bool (decide_eq_true (by omega)))) ?_;intro a H
  refine qF H<|qd G (fun _ S=>(aZ G G G))<|qr 1 G<|qK ?_;intro a H
  refine aK H G G G G G ?_;intro a H
  refine aK H G G G G G ?_;intro a H
  refine aK H G G G G G ?_;intro a H
  refine aK H G G G G G ?_;intro a H
  refine aK H G G G G G ?_;intro a H
  refine qF H<|qd G (fun _ S=>(aV G G G))<|qr 1 G<|qK ?_;intro a H
  refine aK H G G G G G ?_;intro a H
  refine aK H G G G G G ?_;intro a H
  refine aK H G G G G G ?_;intro a H
  refine aK H G G G G G ?_;intro a H
  refine aK H G G G G G ?_;intro a H
  refine qF H<|qd G (fun _ S=>(aV G G G))<|qr 1 G<|qK ?_;intro a H
  refine aK H G G G G G ?_;intro a H
  refine aK H G G G G G ?_;intro a H
  refine aK H G G G G G ?_;intro a H
  refine aK H G G G G G ?_;intro a H
  refine aK H G G G G G ?_;intro a H
  refine qF H<|qd G (fun _ S=>(aV G G G))<|qr 1 G<|qK ?_;intro a H
  refine aK H G G G G G ?_;intro a H
  refine aK H G G G G G ?_;intro a H
  refine aK H G G G G G ?_;intro a H
  refine aK H G G G G G ?_;intro a H
  refine qF H<|qd G (fun _ S=>(aV G G G))<|qK ?_;intro a H
  refine bL ?_
  refine k6 _ _ ?_;refine cond_ H rfl (fun hc2=>?_) (fun hc2=>?_)
  ·skip
   skip
   replace H:=H.keep [] rfl;refine sS H fun K7 k7=>sr 1 G<|sE ?_;intro a H
   refine k7 _ ?_;refine wp_ret ?_;refine ret1 (fn:=Tryz.f116) rfl H rfl ?_;refine ⟨?_,(S.sel [] rfl rfl)⟩;rw [if_neg (by unfold escOk;simp only [Bool.and_eq_true,decide_eq_true_eq];rintro ⟨h1,_⟩;omega)]
  skip
  exact absurd hc2 (by decide)
 ·skip
  skip
  replace H:=H.keep [1,3] rfl;replace S:=S.drew;refine seq_wq [(0,true),(1,true),(2,true),(3,true),(4,true),(5,true),(6,true),(7,true),(8,true),(9,true),(10,true),(11,false),(12,false),(13,true),(14,true),(15,true),(16,true),(17,true),(18,true),(19,true),(20,true),(21,true),(22,true),(23,true),(24,true),(25,true),(26,true),(27,true),(28,true),(29,true),(30,true),(31,true),(32,true),(33,true),(34,true)] (by kernel_rfl) (by kernel_rfl) (S.sel [0] G G) fun K8 k8=>?_
  refine qF H<|qd G (fun _ S=>(aC eG rfl))<|qd G (fun _ S=>aF aD rfl (aEh S (i:=0) G G))<|qd G (fun _ S=>Does.to (dE G G) (congrArg Value.bool (decide_eq_false (by omega))))<|qr 1 G<|qK ?_;intro a H
  refine aG H G G G G (fun _ S=>(aC eG rfl)) ?_;intro a H
  refine aG H G G G G (fun _ S=>aF aD rfl (aEh S (i:=0) G G)) ?_;intro a H
  refine aG H G G G G (fun _ S=>Does.to (bX G G) (congrArg Value.bool (decide_eq_false (by omega)))) ?_;intro a H
  refine qF H<|qd G (fun _ S=>(aZ G G G))<|qr 1 G<|qK ?_;intro a H
  refine aG H G G G G (fun _ S=>(aC lP rfl)) ?_;intro a H
  refine aG H G G G G (fun _ S=>aF aD rfl (aEh S (i:=0) G G)) ?_;intro a H
  refine aT rfl ?_
  refine bA H G G ?_
  refine aA H G G Tryz.func118 G G (eC _ _) ?_;clear H a
  rintro _ _ a ⟨rfl,S2⟩ H;replace S:=S.call S2;clear S2;refine wpList_nil (And.intro (S.sel [0] rfl rfl) ?_);refine aT rfl ?_;refine bA H rfl rfl ?_;refine aA H rfl rfl Tryz.func117 rfl rfl (lW (by omega)) ?_;clear H a;rintro _ _ a ⟨rfl,S2⟩ H;replace S:=S.call S2;clear S2;refine wpList_nil (And.intro (S.sel [0] rfl rfl) ?_);refine aG H rfl rfl rfl rfl (fun _ S=>cO rfl) ?_;intro a H;refine qF H<|qd G (fun _ S=>(aZ rfl rfl rfl))<|qr 1 G<|qK ?_;intro a H
  refine aK H G G G G G ?_;intro a H
  refine aK H G G G G G ?_;intro a H
  refine aK H G G G G G ?_;intro a H
  refine aK H G G G G G ?_;intro a H
  refine aK H G G G G G ?_;intro a H
  refine qF H<|qd G (fun _ S=>(aV G G G))<|qr 1 G<|qK ?_;intro a H
  refine aK H G G G G G ?_;intro a H
  refine aK H G G G G G ?_;intro a H
  refine aK H G G G G G ?_;intro a H
  refine aK H G G G G G ?_;intro a H
  refine aK H G G G G G ?_;intro a H
  refine qF H<|qd G (fun _ S=>(aV G G G))<|qr 1 G<|qK ?_;intro a H
  refine aK H G G G G G ?_;intro a H
  refine aK H G G G G G ?_;intro a H
  refine aK H G G G G G ?_;intro a H
  refine aK H G G G G G ?_;intro a H
  refine qF H<|qd G (fun _ S=>(aV G G G))<|qK ?_;intro a H
  refine bL ?_
  refine k8 _ _ ?_;refine cond_ H rfl (fun hc3=>?_) (fun hc3=>?_)
  ·skip
   skip
   replace H:=H.keep [] rfl;refine sS H fun K9 k9=>sr 1 G<|sE ?_;intro a H
   refine k9 _ ?_;refine wp_ret ?_;refine ret1 (fn:=Tryz.f116) rfl H rfl ?_;refine ⟨?_,(S.sel [] rfl rfl)⟩;rw [if_neg (by unfold escOk;simp only [Bool.and_eq_true,decide_eq_true_eq];rintro ⟨h1,_⟩;omega)]
  skip
  exact absurd hc3 (by decide)
 ·skip
  skip
  replace H:=H.keep [1,3] rfl;replace S:=S.drew;refine seq_wq [(0,true),(1,true),(2,true),(3,true),(4,true),(5,true),(6,true),(7,true),(8,true),(9,true),(10,true),(11,false),(12,false),(13,true),(14,true),(15,true),(16,true),(17,true),(18,false),(19,false),(20,true),(21,true),(22,true),(23,true),(24,true),(25,true),(26,true),(27,true),(28,true),(29,true),(30,true),(31,true),(32,true),(33,true),(34,true)] (by kernel_rfl) (by kernel_rfl) (S.sel [0] G G) fun K10 k10=>?_
  refine qF H<|qd G (fun _ S=>(aC eG rfl))<|qd G (fun _ S=>aF aD rfl (aEh S (i:=0) G G))<|qd G (fun _ S=>Does.to (dE G G) (congrArg Value.bool (decide_eq_false (by omega))))<|qr 1 G<|qK ?_;intro a H
  refine aG H G G G G (fun _ S=>(aC eG rfl)) ?_;intro a H
  refine aG H G G G G (fun _ S=>aF aD rfl (aEh S (i:=0) G G)) ?_;intro a H
  refine aG H G G G G (fun _ S=>Does.to (bX G G) (congrArg Value.bool (decide_eq_false (by omega)))) ?_;intro a H
  refine qF H<|qd G (fun _ S=>(aZ G G G))<|qr 1 G<|qK ?_;intro a H
  refine aG H G G G G (fun _ S=>(aC lP rfl)) ?_;intro a H
  refine aG H G G G G (fun _ S=>aF aD rfl (aEh S (i:=0) G G)) ?_;intro a H
  refine aT rfl ?_
  refine bA H G G ?_
  refine aA H G G Tryz.func118 G G (eC _ _) ?_;clear H a
  rintro _ _ a ⟨rfl,S2⟩ H;replace S:=S.call S2;clear S2;refine wpList_nil (And.intro (S.sel [0] rfl rfl) ?_);refine aT rfl ?_;refine bA H rfl rfl ?_;refine aA H rfl rfl Tryz.func117 rfl rfl (cL (by omega)) ?_;clear H a;rintro _ _ a ⟨rfl,S2⟩ H;replace S:=S.call S2;clear S2;refine wpList_nil (And.intro (S.sel [0] rfl rfl) ?_);refine aG H rfl rfl rfl rfl (fun _ S=>cO rfl) ?_;intro a H;refine qF H<|qd G (fun _ S=>(aZ rfl rfl rfl))<|qr 1 G<|qK ?_;intro a H
  refine aG H G G G G (fun _ S=>(aC nD rfl)) ?_;intro a H
  refine aG H G G G G (fun _ S=>aF aD rfl (aEh S (i:=0) G G)) ?_;intro a H
  refine aT rfl ?_
  refine bA H G G ?_
  refine aA H G G Tryz.func118 G G (eC _ _) ?_;clear H a
  rintro _ _ a ⟨rfl,S2⟩ H;replace S:=S.call S2;clear S2;refine wpList_nil (And.intro (S.sel [0] rfl rfl) ?_);refine aT rfl ?_;refine bA H rfl rfl ?_;refine aA H rfl rfl Tryz.func117 rfl rfl (lW (by omega)) ?_;clear H a;rintro _ _ a ⟨rfl,S2⟩ H;replace S:=S.call S2;clear S2;refine wpList_nil (And.intro (S.sel [0] rfl rfl) ?_);refine aG H rfl rfl rfl rfl (fun _ S=>cO rfl) ?_;intro a H;refine qF H<|qd G (fun _ S=>(aZ rfl rfl rfl))<|qr 1 G<|qK ?_;intro a H
  refine aK H G G G G G ?_;intro a H
  refine aK H G G G G G ?_;intro a H
  refine aK H G G G G G ?_;intro a H
  refine aK H G G G G G ?_;intro a H
  refine aK H G G G G G ?_;intro a H
  refine qF H<|qd G (fun _ S=>(aV G G G))<|qr 1 G<|qK ?_;intro a H
  refine aK H G G G G G ?_;intro a H
  refine aK H G G G G G ?_;intro a H
  refine aK H G G G G G ?_;intro a H
  refine aK H G G G G G ?_;intro a H
  refine qF H<|qd G (fun _ S=>(aV G G G))<|qK ?_;intro a H
  refine bL ?_
  refine k10 _ _ ?_;refine cond_ H rfl (fun hc4=>?_) (fun hc4=>?_)
  ·skip
   skip
   replace H:=H.keep [] rfl;refine sS H fun K11 k11=>sr 1 G<|sE ?_;intro a H
   refine k11 _ ?_;refine wp_ret ?_;refine ret1 (fn:=Tryz.f116) rfl H rfl ?_;refine ⟨?_,(S.sel [] rfl rfl)⟩;rw [if_neg (by unfold escOk;simp only [Bool.and_eq_true,decide_eq_true_eq];rintro ⟨h1,_⟩;omega)]
  skip
  exact absurd hc4 (by decide)
 ·skip
  skip
  replace H:=H.keep [1,3] rfl;replace S:=S.drew;refine seq_wq [(0,true),(1,true),(2,true),(3,true),(4,true),(5,true),(6,true),(7,true),(8,true),(9,true),(10,true),(11,false),(12,false),(13,true),(14,true),(15,true),(16,true),(17,true),(18,false),(19,false),(20,true),(21,true),(22,true),(23,true),(24,true),(25,false),(26,false),(27,true),(28,true),(29,true),(30,true),(31,true),(32,true),(33,true),(34,true)] (by kernel_rfl) (by kernel_rfl) (S.sel [0] G G) fun K12 k12=>?_
  refine qF H<|qd G (fun _ S=>(aC eG rfl))<|qd G (fun _ S=>aF aD rfl (aEh S (i:=0) G G))<|qd G (fun _ S=>Does.to (dE G G) (congrArg Value.bool (decide_eq_false (by omega))))<|qr 1 G<|qK ?_;intro a H
  refine aG H G G G G (fun _ S=>(aC eG rfl)) ?_;intro a H
  refine aG H G G G G (fun _ S=>aF aD rfl (aEh S (i:=0) G G)) ?_;intro a H
  refine aG H G G G G (fun _ S=>Does.to (bX G G) (congrArg Value.bool (decide_eq_false (by omega)))) ?_;intro a H
  refine qF H<|qd G (fun _ S=>(aZ G G G))<|qr 1 G<|qK ?_;intro a H
  refine aG H G G G G (fun _ S=>(aC lP rfl)) ?_;intro a H
  refine aG H G G G G (fun _ S=>aF aD rfl (aEh S (i:=0) G G)) ?_;intro a H
  refine aT rfl ?_
  refine bA H G G ?_
  refine aA H G G Tryz.func118 G G (eC _ _) ?_;clear H a
  rintro _ _ a ⟨rfl,S2⟩ H;replace S:=S.call S2;clear S2;refine wpList_nil (And.intro (S.sel [0] rfl rfl) ?_);refine aT rfl ?_;refine bA H rfl rfl ?_;refine aA H rfl rfl Tryz.func117 rfl rfl (cL (by omega)) ?_;clear H a;rintro _ _ a ⟨rfl,S2⟩ H;replace S:=S.call S2;clear S2;refine wpList_nil (And.intro (S.sel [0] rfl rfl) ?_);refine aG H rfl rfl rfl rfl (fun _ S=>cO rfl) ?_;intro a H;refine qF H<|qd G (fun _ S=>(aZ rfl rfl rfl))<|qr 1 G<|qK ?_;intro a H
  refine aG H G G G G (fun _ S=>(aC nD rfl)) ?_;intro a H
  refine aG H G G G G (fun _ S=>aF aD rfl (aEh S (i:=0) G G)) ?_;intro a H
  refine aT rfl ?_
  refine bA H G G ?_
  refine aA H G G Tryz.func118 G G (eC _ _) ?_;clear H a
  rintro _ _ a ⟨rfl,S2⟩ H;replace S:=S.call S2;clear S2;refine wpList_nil (And.intro (S.sel [0] rfl rfl) ?_);refine aT rfl ?_;refine bA H rfl rfl ?_;refine aA H rfl rfl Tryz.func117 rfl rfl (cL (by omega)) ?_;clear H a;rintro _ _ a ⟨rfl,S2⟩ H;replace S:=S.call S2;clear S2;refine wpList_nil (And.intro (S.sel [0] rfl rfl) ?_);refine aG H rfl rfl rfl rfl (fun _ S=>cO rfl) ?_;intro a H;refine qF H<|qd G (fun _ S=>(aZ rfl rfl rfl))<|qr 1 G<|qK ?_;intro a H
  refine aG H G G G G (fun _ S=>(aC uU rfl)) ?_;intro a H
  refine aG H G G G G (fun _ S=>aF aD rfl (aEh S (i:=0) G G)) ?_;intro a H
  refine aT rfl ?_
  refine bA H G G ?_
  refine aA H G G Tryz.func118 G G (eC _ _) ?_;clear H a
  rintro _ _ a ⟨rfl,S2⟩ H;replace S:=S.call S2;clear S2;refine wpList_nil (And.intro (S.sel [0] rfl rfl) ?_);refine aT rfl ?_;refine bA H rfl rfl ?_;refine aA H rfl rfl Tryz.func117 rfl rfl (lW (by omega)) ?_;clear H a;rintro _ _ a ⟨rfl,S2⟩ H;replace S:=S.call S2;clear S2;refine wpList_nil (And.intro (S.sel [0] rfl rfl) ?_);refine aG H rfl rfl rfl rfl (fun _ S=>cO rfl) ?_;intro a H;refine qF H<|qd G (fun _ S=>(aZ rfl rfl rfl))<|qr 1 G<|qK ?_;intro a H
  refine aK H G G G G G ?_;intro a H
  refine aK H G G G G G ?_;intro a H
  refine aK H G G G G G ?_;intro a H
  refine aK H G G G G G ?_;intro a H
  refine qF H<|qd G (fun _ S=>(aV G G G))<|qK ?_;intro a H
  refine bL ?_
  refine k12 _ _ ?_;refine cond_ H rfl (fun hc5=>?_) (fun hc5=>?_)
  ·skip
   skip
   replace H:=H.keep [] rfl;refine sS H fun K13 k13=>sr 1 G<|sE ?_;intro a H
   refine k13 _ ?_;refine wp_ret ?_;refine ret1 (fn:=Tryz.f116) rfl H rfl ?_;refine ⟨?_,(S.sel [] rfl rfl)⟩;rw [if_neg (by unfold escOk;simp only [Bool.and_eq_true,decide_eq_true_eq];rintro ⟨h1,_⟩;omega)]
  skip
  exact absurd hc5 (by decide)
 ·skip
  skip
  replace H:=H.keep [1,3] rfl;replace S:=S.drew;refine seq_wq [(0,true),(1,true),(2,true),(3,true),(4,true),(5,true),(6,true),(7,true),(8,true),(9,true),(10,true),(11,false),(12,false),(13,true),(14,true),(15,true),(16,true),(17,true),(18,false),(19,false),(20,true),(21,true),(22,true),(23,true),(24,true),(25,false),(26,false),(27,true),(28,true),(29,true),(30,true),(31,true),(32,true),(33,true),(34,true)] (by kernel_rfl) (by kernel_rfl) (S.sel [0] G G) fun K14 k14=>?_
  refine qF H<|qd G (fun _ S=>(aC eG rfl))<|qd G (fun _ S=>aF aD rfl (aEh S (i:=0) G G))<|qd G (fun _ S=>Does.to (dE G G) (congrArg Value.bool (decide_eq_false (by omega))))<|qr 1 G<|qK ?_;intro a H
  refine aG H G G G G (fun _ S=>(aC eG rfl)) ?_;intro a H
  refine aG H G G G G (fun _ S=>aF aD rfl (aEh S (i:=0) G G)) ?_;intro a H
  refine aG H G G G G (fun _ S=>Does.to (bX G G) (congrArg Value.bool (decide_eq_false (by omega)))) ?_;intro a H
  refine qF H<|qd G (fun _ S=>(aZ G G G))<|qr 1 G<|qK ?_;intro a H
  refine aG H G G G G (fun _ S=>(aC lP rfl)) ?_;intro a H
  refine aG H G G G G (fun _ S=>aF aD rfl (aEh S (i:=0) G G)) ?_;intro a H
  refine aT rfl ?_
  refine bA H G G ?_
  refine aA H G G Tryz.func118 G G (eC _ _) ?_;clear H a
  rintro _ _ a ⟨rfl,S2⟩ H;replace S:=S.call S2;clear S2;refine wpList_nil (And.intro (S.sel [0] rfl rfl) ?_);refine aT rfl ?_;refine bA H rfl rfl ?_;refine aA H rfl rfl Tryz.func117 rfl rfl (cL (by omega)) ?_;clear H a;rintro _ _ a ⟨rfl,S2⟩ H;replace S:=S.call S2;clear S2;refine wpList_nil (And.intro (S.sel [0] rfl rfl) ?_);refine aG H rfl rfl rfl rfl (fun _ S=>cO rfl) ?_;intro a H;refine qF H<|qd G (fun _ S=>(aZ rfl rfl rfl))<|qr 1 G<|qK ?_;intro a H
  refine aG H G G G G (fun _ S=>(aC nD rfl)) ?_;intro a H
  refine aG H G G G G (fun _ S=>aF aD rfl (aEh S (i:=0) G G)) ?_;intro a H
  refine aT rfl ?_
  refine bA H G G ?_
  refine aA H G G Tryz.func118 G G (eC _ _) ?_;clear H a
  rintro _ _ a ⟨rfl,S2⟩ H;replace S:=S.call S2;clear S2;refine wpList_nil (And.intro (S.sel [0] rfl rfl) ?_);refine aT rfl ?_;refine bA H rfl rfl ?_;refine aA H rfl rfl Tryz.func117 rfl rfl (cL (by omega)) ?_;clear H a;rintro _ _ a ⟨rfl,S2⟩ H;replace S:=S.call S2;clear S2;refine wpList_nil (And.intro (S.sel [0] rfl rfl) ?_);refine aG H rfl rfl rfl rfl (fun _ S=>cO rfl) ?_;intro a H;refine qF H<|qd G (fun _ S=>(aZ rfl rfl rfl))<|qr 1 G<|qK ?_;intro a H
  refine aG H G G G G (fun _ S=>(aC uU rfl)) ?_;intro a H
  refine aG H G G G G (fun _ S=>aF aD rfl (aEh S (i:=0) G G)) ?_;intro a H
  refine aT rfl ?_
  refine bA H G G ?_
  refine aA H G G Tryz.func118 G G (eC _ _) ?_;clear H a
  rintro _ _ a ⟨rfl,S2⟩ H;replace S:=S.call S2;clear S2;refine wpList_nil (And.intro (S.sel [0] rfl rfl) ?_);refine aT rfl ?_;refine bA H rfl rfl ?_;refine aA H rfl rfl Tryz.func117 rfl rfl (cL (by omega)) ?_;clear H a;rintro _ _ a ⟨rfl,S2⟩ H;replace S:=S.call S2;clear S2;refine wpList_nil (And.intro (S.sel [0] rfl rfl) ?_);refine aG H rfl rfl rfl rfl (fun _ S=>cO rfl) ?_;intro a H;refine qF H<|qd G (fun _ S=>(aZ rfl rfl rfl))<|qr 1 G<|qK ?_;intro a H
  refine aG H G G G G (fun _ S=>(aC lQ rfl)) ?_;intro a H
  refine aG H G G G G (fun _ S=>aF nV rfl (aEh S (i:=0) G G)) ?_;intro a H
  refine aG H G G G G (fun _ S=>cE mF rfl) ?_;intro a H
  refine aG H G G G G (fun _ S=>Does.to (bX G G) (congrArg Value.bool (decide_eq_true (by omega)))) ?_;intro a H
  refine qF H<|qd G (fun _ S=>(aZ G G G))<|qK ?_;intro a H
  refine bL ?_
  refine k14 _ _ ?_;refine cond_ H rfl (fun hc6=>?_) (fun hc6=>?_)
  ·skip
   skip
   replace H:=H.keep [] rfl;refine sS H fun K15 k15=>sr 1 G<|sE ?_;intro a H
   refine k15 _ ?_;refine wp_ret ?_;refine ret1 (fn:=Tryz.f116) rfl H rfl ?_;refine ⟨?_,(S.sel [] rfl rfl)⟩;rw [if_neg (by unfold escOk;simp only [Bool.and_eq_true,decide_eq_true_eq];rintro ⟨h1,_⟩;omega)]
  skip
  exact absurd hc6 (by decide)
 skip
 replace H:=H.keep [1,3] rfl;replace S:=S.drew;refine seq_wq [(0,true),(1,true),(2,true),(3,true),(4,true),(5,true),(6,true),(7,true),(8,true),(9,true),(10,true),(11,false),(12,false),(13,true),(14,true),(15,true),(16,true),(17,true),(18,false),(19,false),(20,true),(21,true),(22,true),(23,true),(24,true),(25,false),(26,false),(27,true),(28,true),(29,true),(30,true),(31,true),(32,true),(33,true),(34,true)] (by kernel_rfl) (by kernel_rfl) (S.sel [0] G G) fun K16 k16=>?_
 refine qF H<|qd G (fun _ S=>(aC eG rfl))<|qd G (fun _ S=>aF aD rfl (aEh S (i:=0) G G))<|qd G (fun _ S=>Does.to (dE G G) (congrArg Value.bool (decide_eq_false (by omega))))<|qr 1 G<|qK ?_;intro a H
 refine aG H G G G G (fun _ S=>(aC eG rfl)) ?_;intro a H
 refine aG H G G G G (fun _ S=>aF aD rfl (aEh S (i:=0) G G)) ?_;intro a H
 refine aG H G G G G (fun _ S=>Does.to (bX G G) (congrArg Value.bool (decide_eq_false (by omega)))) ?_;intro a H
 refine qF H<|qd G (fun _ S=>(aZ G G G))<|qr 1 G<|qK ?_;intro a H
 refine aG H G G G G (fun _ S=>(aC lP rfl)) ?_;intro a H
 refine aG H G G G G (fun _ S=>aF aD rfl (aEh S (i:=0) G G)) ?_;intro a H
 refine aT rfl ?_
 refine bA H G G ?_
 refine aA H G G Tryz.func118 G G (eC _ _) ?_;clear H a
 rintro _ _ a ⟨rfl,S2⟩ H;replace S:=S.call S2;clear S2;refine wpList_nil (And.intro (S.sel [0] rfl rfl) ?_);refine aT rfl ?_;refine bA H rfl rfl ?_;refine aA H rfl rfl Tryz.func117 rfl rfl (cL (by omega)) ?_;clear H a;rintro _ _ a ⟨rfl,S2⟩ H;replace S:=S.call S2;clear S2;refine wpList_nil (And.intro (S.sel [0] rfl rfl) ?_);refine aG H rfl rfl rfl rfl (fun _ S=>cO rfl) ?_;intro a H;refine qF H<|qd G (fun _ S=>(aZ rfl rfl rfl))<|qr 1 G<|qK ?_;intro a H
 refine aG H G G G G (fun _ S=>(aC nD rfl)) ?_;intro a H
 refine aG H G G G G (fun _ S=>aF aD rfl (aEh S (i:=0) G G)) ?_;intro a H
 refine aT rfl ?_
 refine bA H G G ?_
 refine aA H G G Tryz.func118 G G (eC _ _) ?_;clear H a
 rintro _ _ a ⟨rfl,S2⟩ H;replace S:=S.call S2;clear S2;refine wpList_nil (And.intro (S.sel [0] rfl rfl) ?_);refine aT rfl ?_;refine bA H rfl rfl ?_;refine aA H rfl rfl Tryz.func117 rfl rfl (cL (by omega)) ?_;clear H a;rintro _ _ a ⟨rfl,S2⟩ H;replace S:=S.call S2;clear S2;refine wpList_nil (And.intro (S.sel [0] rfl rfl) ?_);refine aG H rfl rfl rfl rfl (fun _ S=>cO rfl) ?_;intro a H;refine qF H<|qd G (fun _ S=>(aZ rfl rfl rfl))<|qr 1 G<|qK ?_;intro a H
 refine aG H G G G G (fun _ S=>(aC uU rfl)) ?_;intro a H
 refine aG H G G G G (fun _ S=>aF aD rfl (aEh S (i:=0) G G)) ?_;intro a H
 refine aT rfl ?_
 refine bA H G G ?_
 refine aA H G G Tryz.func118 G G (eC _ _) ?_;clear H a
 rintro _ _ a ⟨rfl,S2⟩ H;replace S:=S.call S2;clear S2;refine wpList_nil (And.intro (S.sel [0] rfl rfl) ?_);refine aT rfl ?_;refine bA H rfl rfl ?_;refine aA H rfl rfl Tryz.func117 rfl rfl (cL (by omega)) ?_;clear H a;rintro _ _ a ⟨rfl,S2⟩ H;replace S:=S.call S2;clear S2;refine wpList_nil (And.intro (S.sel [0] rfl rfl) ?_);refine aG H rfl rfl rfl rfl (fun _ S=>cO rfl) ?_;intro a H;refine qF H<|qd G (fun _ S=>(aZ rfl rfl rfl))<|qr 1 G<|qK ?_;intro a H
 refine aG H G G G G (fun _ S=>(aC lQ rfl)) ?_;intro a H
 refine aG H G G G G (fun _ S=>aF nV rfl (aEh S (i:=0) G G)) ?_;intro a H
 refine aG H G G G G (fun _ S=>cE mF rfl) ?_;intro a H
 refine aG H G G G G (fun _ S=>Does.to (bX G G) (congrArg Value.bool (decide_eq_false (by omega)))) ?_;intro a H
 refine qF H<|qd G (fun _ S=>(aZ G G G))<|qK ?_;intro a H
 refine bL ?_
 refine k16 _ _ ?_;refine cond_ H rfl (fun hc7=>?_) (fun hc7=>?_)
 ·skip
  skip
  exact absurd hc7 (by decide)
 skip
 refine wp_skip ?_;refine k3 _ _ ?_;refine wp_seq_k fun K17 k17=>?_
 replace H:=H.keep [1,3] rfl;refine sS H fun K18 k18=>sf lQ rfl<|sl S 0 nV G G G<|sL mF rfl<|sr 1 G<|sE ?_;intro a H
 refine k18 _ ?_;refine wp_block ?_;refine loop_st (X:=Nat) (R0:=_) [3,42,43] H rfl (fun k=>[(44,.int .i64 (k:Int))]) (fun k=>[]) (fun g k=>k≤br.length∧g+k=br.length∧(br.take k).all iJ=true) (br.length) 0 ?_ (S.sel [0] G G) (H.keep [44,3,42,43] rfl) ?_
 · exact ⟨by omega,by omega,by simp⟩
 clear H S a;intro g1 x1 a w1 hp S H K19 k19;obtain ⟨k,rfl⟩:∃ y,y=x1:=⟨_,rfl⟩;refine sS H fun K20 k20=>sr 1 G<|sE ?_;intro a H
 refine k20 _ ?_;refine wp_seq_k fun K21 k21=>?_
 refine condL H rfl (fun hc8=>?_) (fun hc8=>?_)
 ·skip
  refine wp_skip ?_;refine k21 _ _ ?_;refine wp_seq_k fun K22 k22=>?_
  refine wp_block ?_;refine seq_list fun K23 k23=>?_
  refine ls 2 H<|si mF nB G G (hb.adr (by omega)) (by omega)<|sd ((aU zF nB rfl S hb (by omega) (by omega)))<|sE ?_;intro a H
  refine aJ H rfl S zS ?_;intro b5 _ a hb5 hbw5 S H
  refine aE H S (i:=0) G G G G nB G G ?_
  clear H a S;intro _ a S H;refine k23 _ _ ?_;refine seq_list fun K24 k24=>?_
  refine ls 2 H<|sr 1 G<|sd ((aB zF nB rfl S (i:=0) G G))<|sE ?_;intro a H
  refine iS H G G G Tryz.func147 G G (Ls (br.getD k Brake.zero) _) ?_;clear H a
  rintro _ _ a ⟨rfl,S2⟩ H;replace S:=S.call S2;clear S2;refine ls 1 H<|sr 1 G<|sE ?_;intro a H
  refine k24 _ _ ?_;refine cond_ H rfl (fun hc9=>?_) (fun hc9=>?_)
  ·skip
   try simp only [oz] at hc9
   replace H:=H.keep [] rfl;refine sS H fun K25 k25=>sr 1 G<|sE ?_;intro a H
   refine k25 _ ?_;refine wp_ret ?_;refine ret1 (fn:=Tryz.f116) rfl H rfl ?_;refine ⟨?_,(S.sel [] G G)⟩;rw [if_neg (by unfold escOk;rw [sH (l:=br) (k:=k) (d:=Brake.zero) (by omega) (by simpa using hc9)];simp)]
  try simp only [oz] at hc9
  refine wp_skip ?_;refine k22 _ _ ?_;refine sO H<|sd (aI G G (by unfold i64ok;omega))<|sr 1 G<|sE ?_;intro a H
  exact k19 (g1-1) (k+1) a _ (by omega) (⟨by omega,by omega,wE (d:=Brake.zero) (by omega) hp.2.2 (by simpa using hc9)⟩) (S.sel [1] G G) (H.keep [44,3,42,43] rfl)
 refine wp_exit ?_;refine k17 _ _ ?_;refine sS H fun K27 k27=>sr 1 G<|sE ?_;intro a H
 refine k27 _ ?_;refine wp_ret ?_;refine ret1 (fn:=Tryz.f116) rfl H rfl ?_;refine ⟨?_,(S.sel [] G G)⟩;rw [List.take_of_length_le (by omega)] at hp;rw [if_pos (by unfold escOk;simp only [Bool.and_eq_true,decide_eq_true_eq];exact ⟨by omega,hp.2.2⟩)]
theorem Lt (a b:Int) (w:World) (hb:0<b) (ha:i64ok a) (ha2 : -9000000000000000000≤a∧a≤9000000000000000000) :
    Calls Tryz.prog 198 [.int .i64 a,.int .i64 b].toArray w (Ret (fun v w'=>v = .int .i64 (a/b)∧St w noF [] w')):=by
 have hfl:=Nr (m:=a) hb;have hdb:=wI (B:=9000000000000000000) hb ha2
 refine enter Tryz.func198 rfl Tryz.ntmps198 rfl (fun a H=>?_)
 have S:=St.start w
 refine sS H fun K1 k1=>sr 1 G<|sE ?_;intro a H
 refine k1 _ ?_;replace S:=S.drew;refine sD H fun K2 k2=>sr 2 G<|sd (Jx G G (by omega) (Ue ha hb))<|sr 2 G<|sd (Jy G G (by omega))<|sr 2 G<|sE ?_;intro a H
 refine k2 _ ?_;refine wp_seq_k fun K3 k3=>?_
 replace H:=H.keep [5,6] rfl;refine sS H fun K4 k4=>sr 2 G<|sE ?_;intro a H
 refine k4 _ ?_;refine condL H rfl (fun hc1=>?_) (fun hc1=>?_)
 ·skip
  refine sO H<|sr 1 G<|sd (aR G G (by unfold i64ok;omega))<|sr 1 G<|sE ?_;intro a H
  refine k3 _ _ ?_;refine sS H fun K6 k6=>sr 2 G<|sE ?_;intro a H
  refine k6 _ ?_;refine wp_ret ?_;refine ret1 (fn:=Tryz.f198) rfl H rfl ?_;first|rw [if_pos (by omega)] at hfl|rw [if_neg (by omega)] at hfl
  exact ⟨congrArg (Value.int .i64) (by omega),(S.sel [] G G)⟩
 refine wp_skip ?_;refine k3 _ _ ?_;refine sS H fun K7 k7=>sr 2 G<|sE ?_;intro a H
 refine k7 _ ?_;refine wp_ret ?_;refine ret1 (fn:=Tryz.f198) rfl H rfl ?_;first|rw [if_pos (by omega)] at hfl|rw [if_neg (by omega)] at hfl
 exact ⟨congrArg (Value.int .i64) (by omega),(S.sel [] G G)⟩
theorem oJ (v g f m:Int) (w:World) (hm:0<m) (hg : -50000000≤g-f∧g-f≤50000000) (hv : -1000000000000≤v∧v≤1000000000000) :
    Calls Tryz.prog 189 [.int .i64 v,.int .i64 g,.int .i64 f,.int .i64 m].toArray w (Ret (fun u w'=>u = .int .i64 (pH v g f m)∧St w noF [] w')):=by
 have hdb:=wI (B:=50000000) hm hg
 refine enter Tryz.func189 rfl Tryz.ntmps189 rfl (fun a H=>?_)
 have S:=St.start w
 refine sS H fun K1 k1=>sr 1 G<|sE ?_;intro a H
 refine k1 _ ?_;replace H:=H.keep [0,1,2,3] rfl;refine seq_list fun K2 k2=>?_
 refine ls 5 H<|sr 3 G<|sd (aR G G (by unfold i64ok;omega))<|sr 1 G<|sE ?_;intro a H
 refine aA H G G Tryz.func198 G G (Lt _ _ _ hm (by unfold i64ok;omega) (by omega)) ?_;clear H a
 rintro _ _ a ⟨rfl,S2⟩ H;replace S:=S.call S2;clear S2;refine ls 3 H<|sd (aI rfl rfl (by unfold i64ok;omega))<|sd (lK rfl rfl)<|sr 1 G<|sE ?_;intro a H
 refine k2 _ _ ?_;refine wp_ret ?_;refine ret1 (fn:=Tryz.f189) rfl H rfl ?_;exact ⟨rfl,(S.sel [] G G)⟩
theorem lX (up:Bool) (empty pull drag motor:Int) (br:List Brake) (BA:Option Addr) (bcp:Nat) (v x bf:Int) (w:World) (hesc:escOk (⟨up,empty,pull,drag,motor,br⟩:Esc)=true) (hx:0≤x∧x≤100000) (hbf:0≤bf∧bf≤30000000) (hv : -900000000000≤v∧v≤900000000000) :
    Calls Tryz.prog 178 [.agg [.bool up,.int .i64 empty,.int .i64 pull,.int .i64 drag,.int .i64 motor,.slice BA br.length bcp].toArray,.int .i64 v,.int .i64 x,.int .i64 bf].toArray w (Ret (fun u w'=>u = .int .i64 (tickI (⟨up,empty,pull,drag,motor,br⟩:Esc) v x bf)∧St w noF [] w')):=by
 have hE:=dM hesc
 dsimp only at hE;obtain ⟨hE1,hE2,hE3,hE4,hE5⟩:=hE;have hm1:0≤pull*x:=Int.mul_nonneg (by omega) (by omega);have hm2:pull*x≤100*100000:=Int.mul_le_mul (by omega) (by omega) (by omega) (by omega);have ab:∀ v' g':Int,(-900000000000≤v'∧v'≤900000000000)→(-10000000≤g'∧g'≤10000000)→0≤pH v' g' (drag+bf) (empty+x)∧pH v' g' (drag+bf) (empty+x)≤1000000000000:=fun v' g' h h'=>by have:=wI (x:=g'-(drag+bf)) (m:=empty+x) (B:=50000000) (by omega) (by omega);unfold pH;omega
 refine enter Tryz.func178 rfl Tryz.ntmps178 rfl (fun a H=>?_)
 have S:=St.start w
 refine seq_list fun K1 k1=>?_
 refine aO H rfl S G G ?_;clear H a S;intro b4 _ a hb4 hbw4 S H
 refine ls 1 H<|sr 1 G<|sE ?_;clear H a;intro a H
 refine k1 _ _ ?_;replace H:=H.keep [1,2,3,4] rfl;replace S:=S.drew;refine sD H fun K2 k2=>sf lP rfl<|sl S 0 aD G G G<|sr 1 G<|sd (fY G G (by unfold i64ok;omega))<|sf nD rfl<|sl S 0 aD G G G<|sr 1 G<|sd (aI G G (by unfold i64ok;omega))<|sf eG rfl<|sl S 0 aD G G G<|sr 1 G<|sd (aI G G (by unfold i64ok;omega))<|sr 3 G<|sE ?_;clear H a;intro a H
 refine k2 _ ?_;refine wp_seq_k fun K3 k3=>?_
 cases up
 ·skip
  replace H:=H.keep [1,4,9,10,11] rfl;refine sS H fun K4 k4=>sf Cc rfl<|sl S 0 iP G G G<|sE ?_;clear H a;intro a H
  refine k4 _ ?_;refine cond_ H rfl (fun hc1=>?_) (fun hc1=>?_)
  ·skip
   skip
   exact absurd hc1 (by decide)
  skip
  refine wp_skip ?_;refine k3 _ _ ?_;refine wp_seq_k fun K5 k5=>?_
  replace H:=H.keep [1,9,10,11] rfl;refine sS H fun K6 k6=>sr 3 G<|sg 6 2 30 36 false G G (fun hg3=>sy hg3<|sr 1 G<|sy hg3<|sr 1 G<|sy hg3<|sr 1 G<|sg 2 5 33 35 true G G (fun hg6=>sy hg6<|sr 1 G<|sy hg6<|sr 1 G<|sz 2 G G G)<|sy hg3<|sa G G G<|sz 5 G G G)<|so G G G<|sE ?_;clear H a;intro a H
  refine k6 _ ?_;refine cond_ H rfl (fun hc2=>?_) (fun hc2=>?_)
  ·skip
   try simp only [oz] at hc2
   have a1:=ab (-v) (-(pull*x)) (by omega) (by omega);have a2:=ab (-v) (- -(pull*x)) (by omega) (by omega)
   replace H:=H.keep [1,9,10,11] rfl;refine seq_list fun K7 k7=>?_
   refine ls 6 H<|sr 1 G<|sd (jP rfl (by unfold i64ok;omega))<|sr 1 G<|sd (jP rfl (by unfold i64ok;omega))<|sr 2 G<|sE ?_;clear H a;intro a H
   refine aA H G G Tryz.func189 G G (oJ _ _ _ _ _ (by omega) (by omega) (by omega)) ?_;clear H a
   rintro _ _ a ⟨rfl,S2⟩ H;replace S:=S.call S2;clear S2;refine ls 2 H<|sd (jP rfl (by unfold i64ok;omega))<|sr 1 G<|sE ?_;clear H a;intro a H
   refine k7 _ _ ?_;refine wp_ret ?_;refine ret1 (fn:=Tryz.f178) rfl H rfl ?_;exact ⟨congrArg (Value.int .i64) (by unfold tickI;simp only [Bool.false_eq_true,if_true,if_false];first|rw [if_pos (by omega)]|rw [if_neg (by omega)]),(S.sel [] G G)⟩
  try simp only [oz] at hc2
  refine wp_skip ?_;refine k5 _ _ ?_;replace H:=H.keep [1,9,10,11] rfl;refine seq_list fun K8 k8=>?_
  refine ls 4 H<|sr 4 G<|sE ?_;clear H a;intro a H
  refine aA H G G Tryz.func189 G G (oJ _ _ _ _ _ (by omega) (by omega) (by omega)) ?_;clear H a
  rintro _ _ a ⟨rfl,S2⟩ H;replace S:=S.call S2;clear S2;refine ls 1 H<|sr 1 G<|sE ?_;clear H a;intro a H
  refine k8 _ _ ?_;refine wp_ret ?_;refine ret1 (fn:=Tryz.f178) rfl H rfl ?_;exact ⟨congrArg (Value.int .i64) (by unfold tickI;simp only [Bool.false_eq_true,if_true,if_false];first|rw [if_pos (by omega)]|rw [if_neg (by omega)]),(S.sel [] G G)⟩
 refine sS H fun K9 k9=>sf Cc rfl<|sl S 0 iP G G G<|sE ?_;clear H a;intro a H
 refine k9 _ ?_;refine cond_ H rfl (fun hc3=>?_) (fun hc3=>?_)
 ·skip
  skip
  replace H:=H.keep [1,9,10,11] rfl;refine sO H<|sr 1 G<|sd (jP rfl (by unfold i64ok;omega))<|sr 1 G<|sE ?_;clear H a;intro a H
  refine k3 _ _ ?_;refine wp_seq_k fun K11 k11=>?_
  replace H:=H.keep [1,9,10,11] rfl;refine sS H fun K12 k12=>sr 3 G<|sg 6 2 30 36 false G G (fun hg3=>sy hg3<|sr 1 G<|sy hg3<|sr 1 G<|sy hg3<|sr 1 G<|sg 2 5 33 35 true G G (fun hg6=>sy hg6<|sr 1 G<|sy hg6<|sr 1 G<|sz 2 G G G)<|sy hg3<|sa G G G<|sz 5 G G G)<|so G G G<|sE ?_;clear H a;intro a H
  refine k12 _ ?_;refine cond_ H rfl (fun hc4=>?_) (fun hc4=>?_)
  ·skip
   try simp only [oz] at hc4
   have a1:=ab (-v) (-(pull*x)) (by omega) (by omega);have a2:=ab (-v) (- -(pull*x)) (by omega) (by omega)
   replace H:=H.keep [1,9,10,11] rfl;refine seq_list fun K13 k13=>?_
   refine ls 6 H<|sr 1 G<|sd (jP rfl (by unfold i64ok;omega))<|sr 1 G<|sd (jP rfl (by unfold i64ok;omega))<|sr 2 G<|sE ?_;clear H a;intro a H
   refine aA H G G Tryz.func189 G G (oJ _ _ _ _ _ (by omega) (by omega) (by omega)) ?_;clear H a
   rintro _ _ a ⟨rfl,S2⟩ H;replace S:=S.call S2;clear S2;refine ls 2 H<|sd (jP rfl (by unfold i64ok;omega))<|sr 1 G<|sE ?_;clear H a;intro a H
   refine k13 _ _ ?_;refine wp_ret ?_;refine ret1 (fn:=Tryz.f178) rfl H rfl ?_;exact ⟨congrArg (Value.int .i64) (by unfold tickI;simp only [Bool.false_eq_true,if_true,if_false];first|rw [if_pos (by omega)]|rw [if_neg (by omega)]),(S.sel [] G G)⟩
  try simp only [oz] at hc4
  refine wp_skip ?_;refine k11 _ _ ?_;replace H:=H.keep [1,9,10,11] rfl;refine seq_list fun K14 k14=>?_
  refine ls 4 H<|sr 4 G<|sE ?_;clear H a;intro a H
  refine aA H G G Tryz.func189 G G (oJ _ _ _ _ _ (by omega) (by omega) (by omega)) ?_;clear H a
  rintro _ _ a ⟨rfl,S2⟩ H;replace S:=S.call S2;clear S2;refine ls 1 H<|sr 1 G<|sE ?_;clear H a;intro a H
  refine k14 _ _ ?_;refine wp_ret ?_;refine ret1 (fn:=Tryz.f178) rfl H rfl ?_;exact ⟨congrArg (Value.int .i64) (by unfold tickI;simp only [Bool.false_eq_true,if_true,if_false];first|rw [if_pos (by omega)]|rw [if_neg (by omega)]),(S.sel [] G G)⟩
 skip
 exact absurd hc3 (by decide)
theorem nQ (up:Bool) (empty pull drag motor:Int) (br:List Brake) (BA:Option Addr) (bcp:Nat) (sp slo shi sfail:Int) (mb:Nat) (v:Int) (t:Nat) (w:World) (F:Nat→Prop) (S:St w F [boxM mb 231 [.bool up,.int .i64 empty,.int .i64 pull,.int .i64 drag,.int .i64 motor,.slice BA br.length bcp,.int .i64 sp,.int .i64 slo,.int .i64 shi,.int .i64 sfail,.int .i64 (v),.int .i64 (t:Int)]] w) (hb:InS w F 2 BA br.length (bcell br)) (hesc:escOk (⟨up,empty,pull,drag,motor,br⟩:Esc)=true) (hstp:stpOk (⟨up,empty,pull,drag,motor,br⟩:Esc) (⟨sp,slo,shi,sfail⟩:Stp)=true) :
    Calls Tryz.prog 179 [.pointer (some ⟨mb,0,none⟩)].toArray w (Ret (fun u w'=>u = .int .i64 (gripI (⟨up,empty,pull,drag,motor,br⟩:Esc) (⟨sp,slo,shi,sfail⟩:Stp) t)∧St w F [boxM mb 231 [.bool up,.int .i64 empty,.int .i64 pull,.int .i64 drag,.int .i64 motor,.slice BA br.length bcp,.int .i64 sp,.int .i64 slo,.int .i64 shi,.int .i64 sfail,.int .i64 (v),.int .i64 (t:Int)]] w')):=by
 have hE:=dM hesc
 dsimp only at hE;obtain ⟨hE1,hE2,hE3,hE4,hE5⟩:=hE;have hS1:=hstp;unfold stpOk at hS1;simp only [decide_eq_true_eq] at hS1;refine enter Tryz.func179 rfl Tryz.ntmps179 rfl (fun a H=>?_);skip;refine sS H fun K1 k1=>sr 1 G<|sE ?_;clear H a;intro a H
 refine k1 _ ?_;refine wp_seq_k fun K2 k2=>?_
 refine sS H fun K3 k3=>sr 2 G<|sf Cg rfl<|sf lQ rfl<|sl S 0 nV G G G<|sL mF rfl<|sr 1 G<|sE ?_;clear H a;intro a H
 refine k3 _ ?_;refine wp_block ?_;refine loop_st (X:=Nat) (R0:=_) [0,9,10] H rfl (fun k=>[(2,.int .i64 (jF sfail t br k)),(11,.int .i64 (k:Int))]) (fun k=>[]) (fun g k=>k≤br.length∧g+k=br.length) (br.length) 0 ?_ (S.sel [0] G G) (H.keep [2,11,0,9,10] rfl) ?_
 · exact ⟨by omega,by omega⟩
 clear H S a;intro g1 x1 a w1 hp S H K4 k4;obtain ⟨k,rfl⟩:∃ y,y=x1:=⟨_,rfl⟩;refine sS H fun K5 k5=>sr 1 G<|sE ?_;clear H a;intro a H
 refine k5 _ ?_;refine wp_seq_k fun K6 k6=>?_
 refine condL H rfl (fun hc1=>?_) (fun hc1=>?_)
 ·skip
  refine wp_skip ?_;refine k6 _ _ ?_;refine wp_seq_k fun K7 k7=>?_
  refine wp_block ?_;have hgb:=Au (fail:=sfail) (t:=t) (l:=br) (by unfold escOk at hesc;simp only [Bool.and_eq_true] at hesc;exact hesc.2) k (by omega);have hkb:=hE2 k (by omega);unfold iJ at hkb;simp only [decide_eq_true_eq] at hkb;refine seq_list fun K8 k8=>?_
  refine ls 3 H<|sr 1 G<|si mF nB G G (hb.adr (by omega)) (by omega)<|sd ((aU zF nB rfl S hb (by omega) (by omega)))<|sE ?_;clear H a;intro a H
  refine aJ H rfl S zS ?_;intro b4 _ a hb4 hbw4 S H
  refine ls 1 H<|sr 1 G<|sE ?_;clear H a;intro a H
  refine aE H S (i:=0) G G G G nB G G ?_
  clear H a S;intro _ a S H;refine k8 _ _ ?_;replace H:=H.keep [0,2,3,4,9,10,11] rfl;replace S:=S.drew;refine sD H fun K9 k9=>sr 2 G<|sf iD rfl<|sf lO rfl<|sl S 1 aD G G G<|sr 1 G<|sd (gV G G (by omega) (by omega))<|sd (fO G G)<|sr 2 G<|sg 7 9 25 32 true G G (fun hg10=>sy hg10<|sf Ce rfl<|sy hg10<|sl S 0 aD G G G<|sy hg10<|sr 1 G<|sy hg10<|sr 1 G<|sy hg10<|sf eH rfl<|sy hg10<|sl S 1 aD G G G<|sy hg10<|sr 1 G<|sz 7 G G G)<|sa G G G<|sE ?_;clear H a;intro a H
  refine k9 _ ?_;refine cond_ H rfl (fun hc2=>?_) (fun hc2=>?_)
  ·skip
   try simp only [oz] at hc2
   replace H:=H.keep [0,2,4,9,10,11] rfl;refine sO H<|sr 1 G<|sf uX rfl<|sl S 0 aD G G G<|sd (aI G G (by unfold i64ok;omega))<|sr 1 G<|sE ?_;clear H a;intro a H
   refine k7 _ _ ?_;refine sO H<|sd (aI G G (by unfold i64ok;omega))<|sr 1 G<|sE ?_;clear H a;intro a H
   try rw [Int.toNat_natCast] at hc2
   first|rw [wH (fail:=sfail) (t:=(t:Int)) (l:=br) (k:=k) (by omega)] at H|rw [yJ (fail:=sfail) (t:=(t:Int)) (l:=br) (k:=k) (by omega)] at H
   exact k4 (g1-1) (k+1) a _ (by omega) (by omega) (S.sel [1] G G) (H.keep [2,11,0,9,10] rfl)
  try simp only [oz] at hc2
  refine wp_skip ?_;refine k7 _ _ ?_;refine sO H<|sd (aI G G (by unfold i64ok;omega))<|sr 1 G<|sE ?_;clear H a;intro a H
  try rw [Int.toNat_natCast] at hc2
  first|rw [wH (fail:=sfail) (t:=(t:Int)) (l:=br) (k:=k) (by omega)] at H|rw [yJ (fail:=sfail) (t:=(t:Int)) (l:=br) (k:=k) (by omega)] at H
  exact k4 (g1-1) (k+1) a _ (by omega) (by omega) (S.sel [1] G G) (H.keep [2,11,0,9,10] rfl)
 refine wp_exit ?_;refine k2 _ _ ?_;replace H:=H.keep [2] rfl;refine sS H fun K13 k13=>sr 2 G<|sE ?_;clear H a;intro a H
 refine k13 _ ?_;refine wp_ret ?_;refine ret1 (fn:=Tryz.f179) rfl H rfl ?_;have hk9:k=br.length:=by omega
 subst hk9;exact ⟨rfl,(S.sel [0] G G)⟩
end
end Go.Proofs.YtinghmelkmblmaaGreat
