/- Part 3 of the proof. -/
import Derived.Test.YtinghmelkmblmaaQab
namespace Go.Proofs.Ytinghmelkmblmaa
open Go.RowKit
set_option linter.unusedVariables false
set_option linter.unusedSimpArgs false
set_option maxRecDepth 100000
set_option maxHeartbeats 4000000
section
theorem bS (n lo hi:Int) (w:World) :
    Calls Try.prog 41 [.int .i64 n,.int .i64 lo,.int .i64 hi].toArray w (Ret (fun v w'=>v = .bool (decide (lo≤n)&&decide (n≤hi))∧w'=w)):=by
 refine enter Try.func41 rfl Try.ntmps41 rfl (fun a H=>?_)
 have S:=St.start w
 refine sS H fun K1 k1=>sr 1 rfl<|sE ?_;clear H a;intro a H
 refine k1 _ ?_;clear k1 K1
 replace H:=H.keep [0,1,2] rfl
 refine sS H fun K2 k2=>sr 4 rfl<|sg 3 3 10 13 true G G (fun hg4=>sy hg4<|sr 1 rfl<|sy hg4<|sr 1 rfl<|sy hg4<|sr 1 rfl<|sz 3 G G G)<|sa G G G<|sr 1 rfl<|sE ?_;clear H a;intro a H
 refine k2 _ ?_;clear k2 K2
 refine wp_ret ?_
 refine ret1 (fn:=Try.f41) rfl H rfl ?_
 exact ⟨rfl,rfl⟩
theorem rV (p1 p2 p3 p4 p5 p6 p7 pl:Int) (w:World) (hpl : -1000≤pl∧pl≤1000) :
    Calls Try.prog 59 [.agg [.int .i64 p1,.int .i64 p2,.int .i64 p3,.int .i64 p4,.int .i64 p5,.int .i64 p6,.int .i64 p7].toArray,.int .i64 pl].toArray w (Ret (fun v w'=>v = .bool (psgOk pl (⟨p1,p2,p3,p4,p5,p6,p7⟩:Psg))∧St w noF [] w')):=by
 refine enter Try.func59 rfl Try.ntmps59 rfl (fun a H=>?_)
 have S:=St.start w
 refine aB fun K1 k1=>?_
 refine aS H rfl S G G ?_;clear H a S;intro b2 _ a hb2 hbw2 S H
 refine ls 1 H<|sr 1 rfl<|sE ?_;clear H a;intro a H
 refine k1 _ _ ?_;clear k1 K1
 refine wp_seq_k fun K2 k2=>?_
 replace H:=H.keep [1,2] rfl
 refine sS H fun K3 k3=>sf fL rfl<|sl S 0 aF G G G<|sr 1 rfl<|sd (bK G G (by unfold i64ok;omega))<|sc rfl Try.func41 G G (bS _ _ _ _)<|sr 2 rfl<|sg 6 6 11 17 false G G (fun hg7=>sy hg7<|sf fM rfl<|sy hg7<|sl S 0 aF G G G<|sy hg7<|sr 1 rfl<|sy hg7<|sd (bK G G (by unfold i64ok;omega))<|sy hg7<|sc rfl Try.func41 G G (bS _ _ _ _)<|sy hg7<|sr 1 rfl<|sz 6 G G G)<|so G G G<|sr 1 rfl<|sg 5 14 19 24 false G G (fun hg15=>sy hg15<|sf fL rfl<|sy hg15<|sl S 0 aF G G G<|sy hg15<|sf fM rfl<|sy hg15<|sl S 0 aF G G G<|sy hg15<|sr 1 rfl<|sz 5 G G G)<|so G G G<|sr 1 rfl<|sg 4 21 26 30 false G G (fun hg22=>sy hg22<|sf nL rfl<|sy hg22<|sl S 0 aF G G G<|sy hg22<|sc rfl Try.func41 G G (bS _ _ _ _)<|sy hg22<|sr 1 rfl<|sz 4 G G G)<|so G G G<|sr 1 rfl<|sg 4 27 32 36 false G G (fun hg28=>sy hg28<|sf nM rfl<|sy hg28<|sl S 0 aF G G G<|sy hg28<|sc rfl Try.func41 G G (bS _ _ _ _)<|sy hg28<|sr 1 rfl<|sz 4 G G G)<|so G G G<|sE ?_;clear H a;intro a H
 refine k3 _ ?_;clear k3 K3
 refine aQ H rfl (fun hc1=>?_) (fun hc1=>?_)
 ·skip
  try simp only [o1,o2,o3,o4,o5,o6,o7,o8,o9,oa] at hc1
  replace H:=H.keep [] rfl
  refine sS H fun K4 k4=>sr 1 rfl<|sE ?_;clear H a;intro a H
  refine k4 _ ?_;clear k4 K4
  refine wp_ret ?_
  refine ret1 (fn:=Try.f59) rfl H rfl ?_
  refine ⟨congrArg Value.bool ?_,(S.sel [] G G)⟩;exact (dQ (by first|omega|(dsimp only;omega))).symm
 try simp only [o1,o2,o3,o4,o5,o6,o7,o8,o9,oa] at hc1
 refine wp_skip ?_
 refine k2 _ _ ?_
 refine wp_seq_k fun K5 k5=>?_
 refine sS H fun K6 k6=>sf dY rfl<|sl S 0 aF G G G<|sE ?_;clear H a;intro a H
 refine k6 _ ?_;clear k6 K6
 refine wp_block ?_
 have SR:=(S.sel [0] G G)
 refine gK (X:=Bool) [2,39] H rfl (fun q=>[(40,.bool q)]) (fun q=>[]) (fun q=>q=decide (p3=1∨p3=2∨p3=5)) SR (fun K8 k8=>?_) ?_
 ·skip
  refine sS H fun K9 k9=>sr 2 rfl<|sE ?_;clear H a;intro a H
  refine k9 _ ?_;clear k9 K9
  refine condE H rfl (fun hc2=>?_) (fun hc2=>?_)
  ·skip
   refine wp_skip ?_
   exact k8 _ a _ (decide_eq_decide.2 (by omega)) (S.sel [0] G G) (H.keep [40,2,39] rfl)
  refine sS H fun K10 k10=>sr 2 rfl<|sE ?_;clear H a;intro a H
  refine k10 _ ?_;clear k10 K10
  refine condE H rfl (fun hc3=>?_) (fun hc3=>?_)
  ·skip
   refine wp_skip ?_
   exact k8 _ a _ (decide_eq_decide.2 (by omega)) (S.sel [0] G G) (H.keep [40,2,39] rfl)
  refine sO H<|sr 2 rfl<|sE ?_;clear H a;intro a H
  exact k8 _ a _ (decide_eq_decide.2 (by omega)) (S.sel [0] G G) (H.keep [40,2,39] rfl)
 clear SR H S a
 intro xm a wm hp S H
 obtain ⟨q,rfl⟩:∃ y,y=xm:=⟨_,rfl⟩
 subst hp
 refine aQ H rfl (fun hc4=>?_) (fun hc4=>?_)
 ·skip
  simp only [o7,o8] at hc4
  replace H:=H.keep [2] rfl
  refine sS H fun K12 k12=>sf dZ rfl<|sl S 0 aF G G G<|sr 2 rfl<|sg 3 3 47 50 true G G (fun hg4=>sy hg4<|sf gR rfl<|sy hg4<|sl S 0 aF G G G<|sy hg4<|sr 1 rfl<|sz 3 G G G)<|sa G G G<|sr 1 rfl<|sE ?_;clear H a;intro a H
  refine k12 _ ?_;clear k12 K12
  refine wp_ret ?_
  refine ret1 (fn:=Try.f59) rfl H rfl ?_
  refine ⟨congrArg Value.bool ?_,(S.sel [] G G)⟩;unfold psgOk;rw [←Bool.decide_and];exact decide_eq_decide.2 (by first|omega|(dsimp only;omega))
 simp only [o7,o8] at hc4
 replace H:=H.keep [2,39] rfl
 refine sS H fun K13 k13=>sr 2 rfl<|sE ?_;clear H a;intro a H
 refine k13 _ ?_;clear k13 K13
 refine condE H rfl (fun hc5=>?_) (fun hc5=>?_)
 ·skip
  replace H:=H.keep [2] rfl
  refine sS H fun K14 k14=>sf dZ rfl<|sl S 0 aF G G G<|sc rfl Try.func41 G G (bS _ _ _ _)<|sr 1 rfl<|sg 3 3 57 60 true G G (fun hg4=>sy hg4<|sf gR rfl<|sy hg4<|sl S 0 aF G G G<|sy hg4<|sc rfl Try.func41 G G (bS _ _ _ _)<|sz 3 G G G)<|sa G G G<|sr 1 rfl<|sE ?_;clear H a;intro a H
  refine k14 _ ?_;clear k14 K14
  refine wp_ret ?_
  refine ret1 (fn:=Try.f59) rfl H rfl ?_
  refine ⟨congrArg Value.bool ?_,(S.sel [] G G)⟩;unfold psgOk;simp only [←Bool.decide_and];exact decide_eq_decide.2 (by first|omega|(dsimp only;omega))
 replace H:=H.keep [2,39] rfl
 refine sS H fun K15 k15=>sr 2 rfl<|sE ?_;clear H a;intro a H
 refine k15 _ ?_;clear k15 K15
 refine condE H rfl (fun hc6=>?_) (fun hc6=>?_)
 ·skip
  replace H:=H.keep [2] rfl
  refine sS H fun K16 k16=>sf dZ rfl<|sl S 0 aF G G G<|sc rfl Try.func41 G G (bS _ _ _ _)<|sr 1 rfl<|sg 3 3 67 70 true G G (fun hg4=>sy hg4<|sf gR rfl<|sy hg4<|sl S 0 aF G G G<|sy hg4<|sr 1 rfl<|sz 3 G G G)<|sa G G G<|sr 1 rfl<|sE ?_;clear H a;intro a H
  refine k16 _ ?_;clear k16 K16
  refine wp_ret ?_
  refine ret1 (fn:=Try.f59) rfl H rfl ?_
  refine ⟨congrArg Value.bool ?_,(S.sel [] G G)⟩;unfold psgOk;simp only [←Bool.decide_and];exact decide_eq_decide.2 (by first|omega|(dsimp only;omega))
 refine wp_skip ?_
 refine k5 _ _ ?_
 replace H:=H.keep [] rfl
 refine sS H fun K17 k17=>sr 1 rfl<|sE ?_;clear H a;intro a H
 refine k17 _ ?_;clear k17 K17
 refine wp_ret ?_
 refine ret1 (fn:=Try.f59) rfl H rfl ?_
 refine ⟨congrArg Value.bool ?_,(S.sel [] G G)⟩;exact (dQ (by first|omega|(dsimp only;omega))).symm
theorem oW (pl:Int) (ps:List Psg) (PA:Option Addr) (pc:Nat) (xs:List Int) (XA:Option Addr) (xc:Nat) (w:World) (hps:InS w noF 7 PA ps.length (pcell ps)) (hpn:ps.length≤9223372036854775807) (hxs:InS w noF 1 XA xs.length (icl xs)) (hxn:xs.length≤9223372036854775807) :
    Calls Try.prog 39 [.agg [.int .i64 pl,.slice PA ps.length pc,.slice XA xs.length xc].toArray].toArray w (Ret (fun v w'=>v = .int .i64 (stE pl ps xs)∧St w noF [] w')):=by
 refine enter Try.func39 rfl Try.ntmps39 rfl (fun a H=>?_)
 have S:=St.start w
 refine aB fun K1 k1=>?_
 refine aS H rfl S G G ?_;clear H a S;intro b1 _ a hb1 hbw1 S H
 refine ls 1 H<|sr 1 rfl<|sE ?_;clear H a;intro a H
 refine k1 _ _ ?_;clear k1 K1
 refine wp_seq_k fun K2 k2=>?_
 replace H:=H.keep [1] rfl
 refine sS H fun K3 k3=>sf cS rfl<|sl S 0 aF G G G<|sc rfl Try.func41 G G (bS _ _ _ _)<|sr 2 rfl<|sg 4 4 13 17 false G G (fun hg5=>sy hg5<|sf fU rfl<|sy hg5<|sl S 0 iO G G G<|sy hg5<|sL iU rfl<|sy hg5<|sr 1 rfl<|sz 4 G G G)<|so G G G<|sE ?_;clear H a;intro a H
 refine k3 _ ?_;clear k3 K3
 refine aQ H rfl (fun hc1=>?_) (fun hc1=>?_)
 ·skip
  try simp only [o1,o2,o3,o4,o5,o6,o7,o8,o9,oa] at hc1
  replace H:=H.keep [] rfl
  refine sS H fun K4 k4=>sr 1 rfl<|sE ?_;clear H a;intro a H
  refine k4 _ ?_;clear k4 K4
  refine wp_ret ?_
  refine ret1 (fn:=Try.f39) rfl H rfl ?_
  exact ⟨congrArg _ (xB (by omega)).symm,(S.sel [] G G)⟩
 try simp only [o1,o2,o3,o4,o5,o6,o7,o8,o9,oa] at hc1
 refine wp_skip ?_
 refine k2 _ _ ?_
 refine aB fun K5 k5=>?_
 refine qW (fun n:Int => .int .i64 n) H rfl S ?_;clear H a S;intro b19 _ a hb19 S H
 refine ls 1 H<|sr 1 rfl<|sE ?_;clear H a;intro a H
 refine k5 _ _ ?_;clear k5 K5
 refine wp_seq_k fun K6 k6=>?_
 refine sS H fun K7 k7=>sf fU rfl<|sl S 1 iO G G G<|sL iU rfl<|sr 1 rfl<|sE ?_;clear H a;intro a H
 refine k7 _ ?_;clear k7 K7
 refine wp_block ?_
 refine loop_st (X:=Nat×List (Int×Value)) (R0:=_) [1,3,21,22] H rfl (fun ⟨k,l⟩=>[(23,.int .i64 (k:Int))]) (fun ⟨k,l⟩=>[mapM (fun n:Int => .int .i64 n) b19 l]) (fun g ⟨k,l⟩=>k≤ps.length∧g+k=ps.length∧allN (pasOk pl ps) k=true∧CntMap ps k l) (ps.length) (0,[]) ?_ (S.sel [0,1] G G) (H.keep [23,1,3,21,22] rfl) ?_
 · exact ⟨by omega,by omega,rfl,CntMap.nil ps⟩
 clear H S a
 intro g1 x1 a w1 hp S H K8 k8
 obtain ⟨k,l⟩:=x1
 dsimp only at hp S H
 obtain ⟨hkl,hgk,hA,hM⟩:=hp
 refine sS H fun K9 k9=>sr 1 rfl<|sE ?_;clear H a;intro a H
 refine k9 _ ?_;clear k9 K9
 refine wp_seq_k fun K10 k10=>?_
 refine condL H rfl (fun hc2=>?_) (fun hc2=>?_)
 ·skip
  refine wp_skip ?_
  refine k10 _ _ ?_
  refine wp_seq_k fun K11 k11=>?_
  refine wp_block ?_
  refine aB fun K12 k12=>?_
  refine ls 2 H<|si iU gM G G (hps.adr (by omega)) (by omega)<|sd ((bG mF gM rfl S hps (by omega) (by omega)))<|sE ?_;clear H a;intro a H
  refine aJ H rfl S wX ?_;clear H a S;intro b5 _ a hb5 hbw5 S H
  refine aD H S (i:=0) G G G G gM G G ?_
  clear H a S;intro _ a S H
  refine k12 _ _ ?_;clear k12 K12
  refine wp_seq_k fun K13 k13=>?_
  replace H:=H.keep [1,3,5,21,22,23] rfl
  refine aB fun K14 k14=>?_
  refine ls 3 H<|sd ((aC mF gM rfl S (i:=0) G G))<|sf cS rfl<|sl S 2 aF G G G<|sE ?_;clear H a;intro a H
  refine aA H G G Try.func59 G G (rV _ _ _ _ _ _ _ pl _ (by omega)) ?_;clear H a
  rintro _ _ a ⟨rfl,S2⟩ H
  replace S:=S.call S2;clear S2
  refine ls 1 H<|sr 1 rfl<|sE ?_;clear H a;intro a H
  refine k14 _ _ ?_;clear k14 K14
  refine aQ H rfl (fun hc3=>?_) (fun hc3=>?_)
  ·skip
   try simp only [o1,o2,o3,o4,o5,o6,o7,o8,o9,oa] at hc3
   refine sS H fun K15 k15=>sr 1 rfl<|sE ?_;clear H a;intro a H
   refine k15 _ ?_;clear k15 K15
   refine wp_ret ?_
   refine ret1 (fn:=Try.f39) rfl H rfl ?_
   exact ⟨congrArg _ (iR (k:=k) (by omega) (by unfold pasOk;rw [hc3];rfl)).symm,(S.sel [] G G)⟩
  try simp only [o1,o2,o3,o4,o5,o6,o7,o8,o9,oa] at hc3
  refine wp_skip ?_
  refine k13 _ _ ?_
  have hcn:=Ft (ps:=ps) (m:=bO ps k) k;have hc0:=xA (ps:=ps) (m:=bO ps k) (k:=k);have hcs:cntM ps (bO ps k) (k+1)=cntM ps (bO ps k) k+1:=by unfold cntM;rw [sm,if_pos rfl]
  replace H:=H.keep [1,3,5,21,22,23] rfl
  refine aB fun K16 k16=>?_
  refine ls 5 H<|sr 1 rfl<|sf dZ rfl<|sl S 0 aF G G G<|sd ((mV (k:=bO ps k) S (i:=1) rfl vO (mB Try.underlying3) Kx G G).to (hM _))<|sd (aH G G (by unfold i64ok;omega))<|sE ?_;clear H a;intro a H
  refine nZ (k:=bO ps k) H S (i:=1) rfl vO (mB Try.underlying3) G G G ?_;clear H a S;intro _ a S H
  refine k16 _ _ ?_;clear k16 K16
  replace H:=H.keep [1,3,5,21,22,23] rfl
  refine aB fun K17 k17=>?_
  refine ls 4 H<|sf dZ rfl<|sl S 0 aF G G G<|sr 2 rfl<|sE ?_;clear H a;intro a H
  apply bP (i:=3) (g:=40) (t:=45) (b:=true) 5 H S G G (by kernel_rfl) (by kernel_rfl) G G
  case h1=>
   intro hg4
   refine ls 5 H<|sy hg4<|sr 1 rfl<|sy hg4<|sf dZ rfl<|sy hg4<|sl S 0 aF G G G<|sy hg4<|sd ((mV (k:=bO ps k) S (i:=1) rfl vO (mB Try.underlying3) Kx G G).to (hM.step _))<|sy hg4<|sr 1 rfl<|sE ?_;intro a H
   exact wpList_nil ⟨H.strip 5 G G,(S.sel [0,1,2] G G)⟩
  clear H a S;intro a _ H S
  refine ls 1 H<|sa G G G<|sE ?_;clear H a;intro a H
  refine k17 _ _ ?_;clear k17 K17
  refine aQ H rfl (fun hc4=>?_) (fun hc4=>?_)
  ·skip
   try simp only [o1,o2,o3,o4,o5,o6,o7,o8,o9,oa] at hc4
   replace H:=H.keep [] rfl
   refine sS H fun K18 k18=>sr 1 rfl<|sE ?_;clear H a;intro a H
   refine k18 _ ?_;clear k18 K18
   refine wp_ret ?_
   refine ret1 (fn:=Try.f39) rfl H rfl ?_
   exact ⟨congrArg _ (iR (k:=k) (by omega) (by unfold pasOk;rw [decide_eq_false (by unfold bO at *;omega),Bool.and_false])).symm,(S.sel [] G G)⟩
  try simp only [o1,o2,o3,o4,o5,o6,o7,o8,o9,oa] at hc4
  refine wp_skip ?_
  refine k11 _ _ ?_
  refine sO H<|sd (aH G G (by unfold i64ok;omega))<|sr 1 rfl<|sE ?_;clear H a;intro a H
  exact k8 (g1-1) (k+1,_) a _ (by omega) (⟨by omega,by omega,bT hA (by unfold pasOk;rw [Bool.and_eq_true];refine ⟨hc3,decide_eq_true ?_⟩;unfold bO at *;omega),hM.step⟩) (S.sel [1,2] G G) (H.keep [23,1,3,21,22] rfl)
 refine wp_exit ?_
 refine k6 _ _ ?_
 refine sS H fun K20 k20=>sr 1 rfl<|sE ?_;clear H a;intro a H
 refine k20 _ ?_;clear k20 K20
 refine wp_seq_k fun K21 k21=>?_
 refine sS H fun K22 k22=>sf fJ rfl<|sl S 1 aZ G G G<|sL aN rfl<|sr 1 rfl<|sE ?_;clear H a;intro a H
 refine k22 _ ?_;clear k22 K22
 refine wp_block ?_
 refine loop_st (X:=Nat) (R0:=_) [1,49,50] H rfl (fun k2=>[(6,.int .i64 (if k2=0 then -1 else xs.getD (k2-1) 0)),(51,.int .i64 (k2:Int))]) (fun k2=>[]) (fun g k2=>k2≤xs.length∧g+k2=xs.length∧allN (exOk pl xs) k2=true) (xs.length) 0 ?_ (S.sel [0,1] G G) (H.keep [6,51,1,49,50] rfl) ?_
 · exact ⟨by omega,by omega,rfl⟩
 clear H S a
 intro g2 x2 a w2 hp S H K23 k23
 obtain ⟨k2,rfl⟩:∃ y,y=x2:=⟨_,rfl⟩
 have hxb:k2≠0→0≤xs.getD (k2-1) 0∧xs.getD (k2-1) 0<pl:=fun h0=>by
   have:=bX.1 hp.2.2 (k2-1) (by omega)
   unfold exOk at this
   simp only [decide_eq_true_eq] at this
   omega
 refine sS H fun K24 k24=>sr 1 rfl<|sE ?_;clear H a;intro a H
 refine k24 _ ?_;clear k24 K24
 refine wp_seq_k fun K25 k25=>?_
 refine condL H rfl (fun hc5=>?_) (fun hc5=>?_)
 ·skip
  refine wp_skip ?_
  refine k25 _ _ ?_
  refine wp_seq_k fun K26 k26=>?_
  refine wp_block ?_
  refine sS H fun K27 k27=>si aN aX G G (hxs.adr (by omega)) (by omega)<|slm aF rfl (hxs.rd S (by omega) (by omega))<|sr 1 rfl<|sE ?_;clear H a;intro a H
  refine k27 _ ?_;clear k27 K27
  refine wp_seq_k fun K28 k28=>?_
  replace H:=H.keep [1,6,8,49,50,51] rfl
  refine sS H fun K29 k29=>sr 2 rfl<|sd (aH G G (by unfold i64ok;omega))<|sf cS rfl<|sl S 1 aF G G G<|sd (bK G G (by unfold i64ok;omega))<|sc rfl Try.func41 G G (bS _ _ _ _)<|sr 1 rfl<|sE ?_;clear H a;intro a H
  refine k29 _ ?_;clear k29 K29
  refine aQ H rfl (fun hc6=>?_) (fun hc6=>?_)
  ·skip
   try simp only [o1,o2,o3,o4,o5,o6,o7,o8,o9,oa] at hc6
   refine sS H fun K30 k30=>sr 1 rfl<|sE ?_;clear H a;intro a H
   refine k30 _ ?_;clear k30 K30
   refine wp_ret ?_
   refine ret1 (fn:=Try.f39) rfl H rfl ?_
   exact ⟨congrArg _ (Hn (k:=k2) (by omega) (by unfold exOk;rw [decide_eq_false_iff_not];rcases Nat.eq_zero_or_pos k2 with h0|h0 <;> first|(rw [if_pos h0] at hc6;omega)|(rw [if_neg (Nat.ne_of_gt h0)] at hc6;omega))).symm,(S.sel [] rfl rfl)⟩
  try simp only [o1,o2,o3,o4,o5,o6,o7,o8,o9,oa] at hc6
  refine wp_skip ?_
  refine k28 _ _ ?_
  replace H:=H.keep [1,8,49,50,51] rfl
  refine sO H<|sr 2 rfl<|sE ?_;clear H a;intro a H
  refine k26 _ _ ?_
  refine sO H<|sd (aH G G (by unfold i64ok;omega))<|sr 1 rfl<|sE ?_;clear H a;intro a H
  exact k23 (g2-1) (k2+1) a _ (by omega) (⟨by omega,by omega,bT hp.2.2 (by unfold exOk;rw [decide_eq_true_eq];rcases Nat.eq_zero_or_pos k2 with h0|h0 <;> first|(rw [if_pos h0] at hc6;omega)|(rw [if_neg (Nat.ne_of_gt h0)] at hc6;omega))⟩) (S.sel [0,1] rfl rfl) (H.keep [6,51,1,49,50] rfl)
 refine wp_exit ?_
 refine k21 _ _ ?_
 refine sS H fun K33 k33=>sr 1 rfl<|sE ?_;clear H a;intro a H
 refine k33 _ ?_;clear k33 K33
 refine wp_ret ?_
 refine ret1 (fn:=Try.f39) rfl H rfl ?_
 have hk9:k=ps.length:=by omega
 have hk8:k2=xs.length:=by omega
 exact ⟨congrArg _ (Ho (by omega) (hk9 ▸ hA) (hk8 ▸ hp.2.2)).symm,(S.sel [] G G)⟩
theorem wD (pl:Int) (ps:List Psg) (PA:Option Addr) (pc:Nat) (xs:List Int) (XA:Option Addr) (xc:Nat) (pe:List Int) (BA:Option Addr) (bc:Nat) (w:World) (hpe:InS w noF 1 BA pe.length (icl pe)) (hpen:pe.length≤9223372036854775807) :
    Calls Try.prog 60 [.agg [.int .i64 pl,.slice PA ps.length pc,.slice XA xs.length xc].toArray,.slice BA pe.length bc].toArray w (Ret (fun v w'=>v = .bool (eA pl pe)∧St w noF [] w')):=by
 refine enter Try.func60 rfl Try.ntmps60 rfl (fun a H=>?_)
 have S:=St.start w
 refine aB fun K1 k1=>?_
 refine aS H rfl S G G ?_;clear H a S;intro b2 _ a hb2 hbw2 S H
 refine ls 1 H<|sr 1 rfl<|sE ?_;clear H a;intro a H
 refine k1 _ _ ?_;clear k1 K1
 refine wp_seq_k fun K2 k2=>?_
 refine sS H fun K3 k3=>sr 1 rfl<|sL aN rfl<|sr 1 rfl<|sE ?_;clear H a;intro a H
 refine k3 _ ?_;clear k3 K3
 refine wp_block ?_
 refine loop_st (X:=Nat) (R0:=_) [1,2,7,8] H rfl (fun k=>[(9,.int .i64 (k:Int))]) (fun k=>[]) (fun g k=>k≤pe.length∧g+k=pe.length∧allN (fun k=>decide (0≤pe.getD k 0∧pe.getD k 0≤1000)) k=true) (pe.length) 0 ?_ (S.sel [0] G G) (H.keep [9,1,2,7,8] rfl) ?_
 · exact ⟨by omega,by omega,rfl⟩
 clear H S a
 intro g1 x1 a w1 hp S H K4 k4
 obtain ⟨k,rfl⟩:∃ y,y=x1:=⟨_,rfl⟩
 refine sS H fun K5 k5=>sr 1 rfl<|sE ?_;clear H a;intro a H
 refine k5 _ ?_;clear k5 K5
 refine wp_seq_k fun K6 k6=>?_
 refine condL H rfl (fun hc1=>?_) (fun hc1=>?_)
 ·skip
  refine wp_skip ?_
  refine k6 _ _ ?_
  refine wp_seq_k fun K7 k7=>?_
  refine wp_block ?_
  refine sS H fun K8 k8=>si aN aX G G (hpe.adr (by omega)) (by omega)<|slm aF rfl (hpe.rd S (by omega) (by omega))<|sr 1 rfl<|sE ?_;clear H a;intro a H
  refine k8 _ ?_;clear k8 K8
  refine sS H fun K9 k9=>sr 1 rfl<|sc rfl Try.func41 G G (bS _ _ _ _)<|sr 1 rfl<|sE ?_;clear H a;intro a H
  refine k9 _ ?_;clear k9 K9
  refine aQ H rfl (fun hc2=>?_) (fun hc2=>?_)
  ·skip
   try simp only [o1,o2,o3,o4,o5,o6,o7,o8,o9,oa] at hc2
   refine sS H fun K10 k10=>sr 1 rfl<|sE ?_;clear H a;intro a H
   refine k10 _ ?_;clear k10 K10
   refine wp_ret ?_
   refine ret1 (fn:=Try.f60) rfl H rfl ?_
   refine ⟨congrArg Value.bool ?_,(S.sel [] G G)⟩;unfold eA;rw [eI (k:=k) (by omega) (by rw [decide_eq_false_iff_not];omega)];rfl
  try simp only [o1,o2,o3,o4,o5,o6,o7,o8,o9,oa] at hc2
  refine wp_skip ?_
  refine k7 _ _ ?_
  replace H:=H.keep [1,2,7,8,9] rfl
  refine sO H<|sd (aH G G (by unfold i64ok;omega))<|sr 1 rfl<|sE ?_;clear H a;intro a H
  exact k4 (g1-1) (k+1) a _ (by omega) (⟨by omega,by omega,bT hp.2.2 (by rw [decide_eq_true_eq];omega)⟩) (S.sel [0] G G) (H.keep [9,1,2,7,8] rfl)
 refine wp_exit ?_
 refine k2 _ _ ?_
 refine sS H fun K12 k12=>sr 1 rfl<|sL aN rfl<|sf cS rfl<|sl S 0 aF G G G<|sr 2 rfl<|sE ?_;clear H a;intro a H
 refine k12 _ ?_;clear k12 K12
 refine wp_ret ?_
 refine ret1 (fn:=Try.f60) rfl H rfl ?_
 refine ⟨congrArg Value.bool ?_,(S.sel [] G G)⟩;unfold eA;rw [show pe.length=k by omega,hp.2.2,Bool.true_and]
end
section
theorem StV.mch {P:Nat} {ps:List Psg} {xs:List Int} (h:StV P ps xs) (k:Nat) (hk:k<ps.length):(ps.getD k Psg.zero).kind=4→0≤(ps.getD k Psg.zero).mach∧(ps.getD k Psg.zero).mach≤11:=fun h4=>by
  have:=cO.1 (h.pas k hk)
  omega
theorem Dn {k:Nat}:∀ q j,j<1→cput (lcl fun i=>if i<k then -1 else 0) k 0 (.int .i64 (-1)) q j=lcl (fun i=>if i<k+1 then -1 else 0) q j:=by
  intro q j hj
  have:j=0:=by omega
  subst this
  unfold cput lcl
  dsimp only
  by_cases e:q=k
  · subst e;rw [if_pos ⟨rfl,rfl⟩,if_pos (by omega)]
  · rw [if_neg (fun h=>e h.1)]
    by_cases h:q<k
    · rw [if_pos h,if_pos (by omega)]
    · rw [if_neg h,if_neg (by omega)]
theorem Do {P k to:Nat} (hk:k=P):∀ q j,q<P→j<1→cput (lcl fun i=>if i<k then -1 else 0) to 0 (.int .i64 0) q j=lcl (tk0 to) q j:=by
  intro q j hq hj
  have:j=0:=by omega
  subst this
  unfold cput lcl tk0
  dsimp only
  by_cases e:q=to
  · subst e;rw [if_pos ⟨rfl,rfl⟩,if_pos rfl]
  · rw [if_neg (fun h=>e h.1),if_pos (by omega),if_neg e]
theorem Gh {L:Nat→Int} {p:Nat} {v:Int}:∀ k j,j<1→cput (lcl L) p 0 (.int .i64 v) k j=lcl (upd L p v) k j:=by
  intro k j hj
  have:j=0:=by omega
  subst this
  unfold cput lcl upd
  by_cases e:k=p <;> simp [e]
theorem Lj {m:Bool} (h:m=true):b2i m=1:=by subst h;rfl
theorem Jh {P f:Nat} {ps:List Psg} {out:Int} {help:Bool} {tk:Nat→Int} {m:Bool} (e:P=f) (h:m=false→∀ i,i<f→∀ k,k<ps.length→FixAt ps out help tk i k):m=false→∀ i,i<P→∀ k,k<ps.length→FixAt ps out help tk i k:=by subst e;exact h
theorem Ji:∀ k j,j<1→[Value.int .i64 0].getD j undef=lcl (fun i=>if i<0 then -1 else 0) k j:=by
  intro k j hj
  have:j=0:=by omega
  subst this
  rfl
theorem wE (pl:Int) (ps:List Psg) (PA:Option Addr) (pc:Nat) (xs:List Int) (XA:Option Addr) (xc:Nat) (l:List Int) (LA:Option Addr) (lc:Nat) (w:World) (hl:InS w noF 1 LA l.length (icl l)) (hln:l.length≤9223372036854775807) (hpl : -1000≤pl∧pl≤1000) :
    Calls Try.prog 43 [.agg [.int .i64 pl,.slice PA ps.length pc,.slice XA xs.length xc].toArray,.slice LA l.length lc].toArray w (Ret (fun v w'=>v = .bool (plOk pl l)∧St w noF [] w')):=by
 refine enter Try.func43 rfl Try.ntmps43 rfl (fun a H=>?_)
 have S:=St.start w
 refine aB fun K1 k1=>?_
 refine aS H rfl S G G ?_;clear H a S;intro b2 _ a hb2 hbw2 S H
 refine ls 1 H<|sr 1 rfl<|sE ?_;clear H a;intro a H
 refine k1 _ _ ?_;clear k1 K1
 refine wp_seq_k fun K2 k2=>?_
 refine sS H fun K3 k3=>sr 1 rfl<|sL aN rfl<|sr 1 rfl<|sE ?_;clear H a;intro a H
 refine k3 _ ?_;clear k3 K3
 refine wp_block ?_
 refine loop_st (X:=Nat) (R0:=_) [2,7,8] H rfl (fun k=>[(9,.int .i64 (k:Int))]) (fun k=>[]) (fun g k=>k≤l.length∧g+k=l.length∧allN (fun k=>decide (0≤l.getD k 0∧l.getD k 0≤pl-1)) k=true) (l.length) 0 ?_ (S.sel [0] G G) (H.keep [9,2,7,8] rfl) ?_
 · exact ⟨by omega,by omega,rfl⟩
 clear H S a
 intro g1 x1 a w1 hp S H K4 k4
 obtain ⟨k,rfl⟩:∃ y,y=x1:=⟨_,rfl⟩
 refine sS H fun K5 k5=>sr 1 rfl<|sE ?_;clear H a;intro a H
 refine k5 _ ?_;clear k5 K5
 refine wp_seq_k fun K6 k6=>?_
 refine condL H rfl (fun hc1=>?_) (fun hc1=>?_)
 ·skip
  refine wp_skip ?_
  refine k6 _ _ ?_
  refine wp_seq_k fun K7 k7=>?_
  refine wp_block ?_
  refine sS H fun K8 k8=>si aN aX G G (hl.adr (by omega)) (by omega)<|slm aF rfl (hl.rd S (by omega) (by omega))<|sr 1 rfl<|sE ?_;clear H a;intro a H
  refine k8 _ ?_;clear k8 K8
  replace H:=H.keep [2,6,7,8,9] rfl
  refine sS H fun K9 k9=>sr 1 rfl<|sf cS rfl<|sl S 0 aF G G G<|sd (bK G G (by unfold i64ok;omega))<|sc rfl Try.func41 G G (bS _ _ _ _)<|sr 1 rfl<|sE ?_;clear H a;intro a H
  refine k9 _ ?_;clear k9 K9
  refine aQ H rfl (fun hc2=>?_) (fun hc2=>?_)
  ·skip
   try simp only [o1,o2,o3,o4,o5,o6,o7,o8,o9,oa] at hc2
   refine sS H fun K10 k10=>sr 1 rfl<|sE ?_;clear H a;intro a H
   refine k10 _ ?_;clear k10 K10
   refine wp_ret ?_
   refine ret1 (fn:=Try.f43) rfl H rfl ?_
   exact ⟨congrArg Value.bool (vX (k:=k) (by omega) (by omega)).symm,(S.sel [] G G)⟩
  try simp only [o1,o2,o3,o4,o5,o6,o7,o8,o9,oa] at hc2
  refine wp_skip ?_
  refine k7 _ _ ?_
  refine sO H<|sd (aH G G (by unfold i64ok;omega))<|sr 1 rfl<|sE ?_;clear H a;intro a H
  exact k4 (g1-1) (k+1) a _ (by omega) (⟨by omega,by omega,bT hp.2.2 (by rw [decide_eq_true_eq];omega)⟩) (S.sel [0] G G) (H.keep [9,2,7,8] rfl)
 refine wp_exit ?_
 refine k2 _ _ ?_
 replace H:=H.keep [] rfl
 refine sS H fun K12 k12=>sr 1 rfl<|sE ?_;clear H a;intro a H
 refine k12 _ ?_;clear k12 K12
 refine wp_ret ?_
 refine ret1 (fn:=Try.f43) rfl H rfl ?_
 refine ⟨congrArg Value.bool ?_,(S.sel [] G G)⟩;unfold plOk;rw [show l.length=k by omega,hp.2.2]
theorem tY (P:Nat) (ps:List Psg) (PA:Option Addr) (pc:Nat) (xs:List Int) (XA:Option Addr) (xc:Nat) (out:Int) (help:Bool) (p:Psg) (f:Int) (w:World) (hm:p.kind=4→0≤p.mach∧p.mach≤11) (hou:0≤out) :
    Calls Try.prog 79 [.agg [.int .i64 (P:Int),.slice PA ps.length pc,.slice XA xs.length xc,.int .i64 out,.bool help].toArray,.agg [.int .i64 p.a,.int .i64 p.b,.int .i64 p.kind,.int .i64 p.ticks,.int .i64 p.wide,.int .i64 p.mach,.int .i64 p.still].toArray,.int .i64 f].toArray w (Ret (fun v w'=>v = .int .i64 (oth out help p f)∧St w noF [] w')):=by
 refine enter Try.func79 rfl Try.ntmps79 rfl (fun a H=>?_)
 have S:=St.start w
 refine aB fun K1 k1=>?_
 refine aS H rfl S G G ?_;clear H a S;intro b3 _ a hb3 hbw3 S H
 refine aS H rfl S G G ?_;clear H a S;intro b4 _ a hb4 hbw4 S H
 refine ls 1 H<|sr 1 rfl<|sE ?_;clear H a;intro a H
 refine k1 _ _ ?_;clear k1 K1
 replace H:=H.keep [2,3,4] rfl
 refine sS H fun K2 k2=>sf dY rfl<|sl S 0 aF G G G<|sr 2 rfl<|sg 12 3 11 23 false G G (fun hg4=>by
     have hq4:=hg4;try simp only [o1,o2,o3,o4,o5,o6,o7,o8,o9,oa] at hq4
     exact sy hg4<|sf dY rfl<|sy hg4<|sl S 0 aF G G G<|sy hg4<|sr 1 rfl<|sy hg4<|sr 1 rfl<|sg 7 7 15 22 true G G (fun hg8=>by
          have hq8:=hg8;try simp only [o1,o2,o3,o4,o5,o6,o7,o8,o9,oa] at hq8
          exact sy hg8<|sf Bo rfl<|sy hg8<|sl S 1 aF G G G<|sy hg8<|sf dZ rfl<|sy hg8<|sl S 0 aF G G G<|sy hg8<|sd (gX G G (by omega) (by omega))<|sy hg8<|sd (fZ G G)<|sy hg8<|sr 1 rfl<|sz 7 G G G)<|sy hg4<|sa G G G<|sz 6 G G G)<|so G G G<|sr 1 rfl<|sg 7 17 25 32 false G G (fun hg18=>by
     have hq18:=hg18;try simp only [o1,o2,o3,o4,o5,o6,o7,o8,o9,oa] at hq18
     exact sy hg18<|sf dY rfl<|sy hg18<|sl S 0 aF G G G<|sy hg18<|sr 1 rfl<|sy hg18<|sr 1 rfl<|sg 2 21 29 31 true G G (fun hg22=>by
          have hq22:=hg22;try simp only [o1,o2,o3,o4,o5,o6,o7,o8,o9,oa] at hq22
          exact sy hg22<|sf Bp rfl<|sy hg22<|sl S 1 lB G G G<|sz 2 G G G)<|sy hg18<|sa G G G<|sz 6 G G G)<|so G G G<|sr 1 rfl<|sE ?_;clear H a;intro a H
 refine k2 _ ?_;clear k2 K2
 refine wp_seq_k fun K3 k3=>?_
 refine wp_block ?_
 replace H:=H.keep [2,4,7] rfl
 refine sS H fun K4 k4=>sr 3 rfl<|sE ?_;clear H a;intro a H
 refine k4 _ ?_;clear k4 K4
 refine aQ H rfl (fun hc1=>?_) (fun hc1=>?_)
 ·skip
  try simp only [o1,o2,o3,o4,o5,o6,o7,o8,o9,oa] at hc1
  refine sS H fun K5 k5=>sr 1 rfl<|sE ?_;clear H a;intro a H
  refine k5 _ ?_;clear k5 K5
  refine wp_ret ?_
  refine ret1 (fn:=Try.f79) rfl H rfl ?_
  refine ⟨congrArg (Value.int .i64) ?_,(S.sel [] G G)⟩;unfold oth;rw [if_pos (Ky hc1)]
 try simp only [o1,o2,o3,o4,o5,o6,o7,o8,o9,oa] at hc1
 refine sS H fun K6 k6=>sf fL rfl<|sl S 0 aF G G G<|sr 3 rfl<|sE ?_;clear H a;intro a H
 refine k6 _ ?_;clear k6 K6
 refine condE H rfl (fun hc2=>?_) (fun hc2=>?_)
 ·skip
  replace H:=H.keep [4] rfl
  refine sS H fun K7 k7=>sf fM rfl<|sl S 0 aF G G G<|sr 1 rfl<|sE ?_;clear H a;intro a H
  refine k7 _ ?_;clear k7 K7
  refine wp_ret ?_
  refine ret1 (fn:=Try.f79) rfl H rfl ?_
  refine ⟨congrArg (Value.int .i64) ?_,(S.sel [] G G)⟩;unfold oth othr;rw [if_neg (by rw [Co hc1];simp),if_pos hc2]
 refine sS H fun K8 k8=>sf fM rfl<|sl S 0 aF G G G<|sr 3 rfl<|sE ?_;clear H a;intro a H
 refine k8 _ ?_;clear k8 K8
 refine condE H rfl (fun hc3=>?_) (fun hc3=>?_)
 ·skip
  replace H:=H.keep [4] rfl
  refine sS H fun K9 k9=>sf fL rfl<|sl S 0 aF G G G<|sr 1 rfl<|sE ?_;clear H a;intro a H
  refine k9 _ ?_;clear k9 K9
  refine wp_ret ?_
  refine ret1 (fn:=Try.f79) rfl H rfl ?_
  refine ⟨congrArg (Value.int .i64) ?_,(S.sel [] G G)⟩;unfold oth othr;rw [if_neg (by rw [Co hc1];simp),if_neg hc2,if_pos hc3]
 refine wp_skip ?_
 refine k3 _ _ ?_
 refine sS H fun K10 k10=>sr 1 rfl<|sE ?_;clear H a;intro a H
 refine k10 _ ?_;clear k10 K10
 refine wp_ret ?_
 refine ret1 (fn:=Try.f79) rfl H rfl ?_
 refine ⟨congrArg (Value.int .i64) ?_,(S.sel [] G G)⟩;unfold oth othr;rw [if_neg (by rw [Co hc1];simp),if_neg hc2,if_neg hc3]
theorem zQ (P:Nat) (ps:List Psg) (PA:Option Addr) (pc:Nat) (xs:List Int) (XA:Option Addr) (xc:Nat) (out:Int) (help:Bool) (to:Int) (w:World) (hps:InS w noF 7 PA ps.length (pcell ps)) (hpn:ps.length≤9223372036854775807) (hxs:InS w noF 1 XA xs.length (icl xs)) (hxn:xs.length≤9223372036854775807) (hV:StV P ps xs) (hou:0≤out) (hto:0≤to∧to<P) :
    Calls Try.prog 64 [.agg [.int .i64 (P:Int),.slice PA ps.length pc,.slice XA xs.length xc,.int .i64 out,.bool help].toArray,.int .i64 to].toArray w (Ret (fun v w'=>∃ A c,v = .slice A P c∧FarOk P ps out help to.toNat (dst P ps out help to.toNat)∧St w noF [ownM 3 1 A P c (lcl (dst P ps out help to.toNat))] w')):=by
 have hP10:=hV.size
 refine enter Try.func64 rfl Try.ntmps64 rfl (fun a H=>?_)
 have S:=St.start w
 refine aB fun K1 k1=>?_
 refine aS H rfl S G G ?_;clear H a S;intro b2 _ a hb2 hbw2 S H
 refine ls 1 H<|sr 1 rfl<|sE ?_;clear H a;intro a H
 refine k1 _ _ ?_;clear k1 K1
 refine aB fun K2 k2=>?_
 refine ls 3 H<|sf oD rfl<|sf cS rfl<|sl S 0 aF G G G<|sE ?_;clear H a;intro a H
 refine fA (n:=_) H rfl S aN aX eF lL rfl (by decide) G G (by omega) (by omega) ?_;clear H a S;intro A1 _ a hA1 S H
 replace S:=S.recell (i:=0) rfl (cell':=lcl (fun i=>if i<0 then -1 else 0)) (fun k j hk hj=>Ji k j hj)
 refine ls 1 H<|sr 1 rfl<|sE ?_;clear H a;intro a H
 refine k2 _ _ ?_;clear k2 K2
 refine wp_seq_k fun K3 k3=>?_
 replace H:=H.keep [1,2,5] rfl
 refine sS H fun K4 k4=>sr 1 rfl<|sL aN rfl<|sr 1 rfl<|sE ?_;clear H a;intro a H
 refine k4 _ ?_;clear k4 K4
 refine wp_block ?_
 refine loop_st (X:=Nat) (R0:=_) [1,2,5,18] H rfl (fun k=>[(19,.int .i64 (k:Int))]) (fun k=>[ownM 3 1 A1 P P (lcl (fun i=>if i<k then -1 else 0))]) (fun g k=>k≤P∧g+k=P) (P) 0 ?_ (S.sel [0,1] G G) (H.keep [19,1,2,5,18] rfl) ?_
 · exact ⟨by omega,by omega⟩
 clear H S a
 intro g1 x1 a w1 hp S H K5 k5
 obtain ⟨k,rfl⟩:∃ y,y=x1:=⟨_,rfl⟩
 refine sS H fun K6 k6=>sr 1 rfl<|sE ?_;clear H a;intro a H
 refine k6 _ ?_;clear k6 K6
 refine wp_seq_k fun K7 k7=>?_
 refine condL H rfl (fun hc1=>?_) (fun hc1=>?_)
 ·skip
  refine wp_skip ?_
  refine k7 _ _ ?_
  refine wp_seq_k fun K8 k8=>?_
  refine wp_block ?_
  refine sS H fun K9 k9=>sr 2 rfl<|sE ?_;clear H a;intro a H
  refine k9 _ ?_;clear k9 K9
  refine bY ?_
  refine ls 3 H<|sr 2 rfl<|si aN aX G G (ownM.adr S (i:=0) rfl (by omega)) (by omega)<|sE ?_;clear H a;intro a H
  refine bJ H S (i:=0) G G G (by omega) (by omega) aX rfl ?_
  clear H a S;intro _ a S H
  replace S:=S.recell (i:=0) rfl (cell':=lcl (fun i=>if i<k+1 then -1 else 0)) (fun q j hq hj=>Dn q j hj)
  refine k8 _ _ ?_
  refine sO H<|sd (aH G G (by unfold i64ok;omega))<|sr 1 rfl<|sE ?_;clear H a;intro a H
  exact k5 (g1-1) (k+1) a _ (by omega) (⟨by omega,by omega⟩) (S.sel [0,1] G G) (H.keep [19,1,2,5,18] rfl)
 refine wp_exit ?_
 refine k3 _ _ ?_
 replace H:=H.keep [1,2,5] rfl
 refine aB fun K12 k12=>?_
 refine ls 3 H<|sr 2 rfl<|sI aN aX G G (ownM.adr S (i:=0) rfl (by omega)) (by omega) (by omega)<|sE ?_;clear H a;intro a H
 refine bJ H S (i:=0) G G G (by omega) (by omega) aX rfl ?_
 clear H a S;intro _ a S H
 replace S:=S.recell (i:=0) rfl (cell':=lcl (tk0 to.toNat)) (fun q j hq hj=>Do (by omega) q j hq hj)
 refine k12 _ _ ?_;clear k12 K12
 refine wp_seq_k fun K13 k13=>?_
 refine sS H fun K14 k14=>sr 1 rfl<|sE ?_;clear H a;intro a H
 refine k14 _ ?_;clear k14 K14
 refine wp_block ?_
 refine loop_st (X:=(Nat→Int)×Bool) (R0:=_) [2,5] H rfl (fun ⟨tk,mo⟩=>[(7,.bool mo)]) (fun ⟨tk,mo⟩=>[ownM 3 1 A1 P P (lcl tk)]) (fun g ⟨tk,mo⟩=>FarI P ps out help to.toNat tk∧potF P tk+b2i mo≤(g:Int)∧(mo=false→∀ i,i<P→∀ k,k<ps.length→FixAt ps out help tk i k)) ((potF P (tk0 to.toNat)+1).toNat) (tk0 to.toNat,true) ?_ (S.sel [0,1] G G) (H.keep [7,2,5] rfl) ?_
 · exact ⟨FarI.init (by omega),by have:=xD (P:=P) (tk:=tk0 to.toNat);show potF P (tk0 to.toNat)+1≤_;omega,fun h=>by cases h⟩
 clear H S a
 intro g2 x2 a w2 hp S H K15 k15
 obtain ⟨tk,mo⟩:=x2
 dsimp only at hp S H
 obtain ⟨hI,hpot,hfx⟩:=hp
 have hpn0:=xD (P:=P) (tk:=tk)
 refine wp_seq_k fun K16 k16=>?_
 refine sS H fun K17 k17=>sr 1 rfl<|sE ?_;clear H a;intro a H
 refine k17 _ ?_;clear k17 K17
 refine aQ H rfl (fun hc2=>?_) (fun hc2=>?_)
 ·skip
  try simp only [o1,o2,o3,o4,o5,o6,o7,o8,o9,oa] at hc2
  have hb9:=Lj hc2
  refine wp_skip ?_
  refine k16 _ _ ?_
  refine wp_block ?_
  refine sS H fun K18 k18=>sr 1 rfl<|sE ?_;clear H a;intro a H
  refine k18 _ ?_;clear k18 K18
  refine sS H fun K19 k19=>sf oD rfl<|sf cS rfl<|sl S 1 aF G G G<|sr 1 rfl<|sE ?_;clear H a;intro a H
  refine k19 _ ?_;clear k19 K19
  refine wp_block ?_
  refine loop_st (X:=Nat×(Nat→Int)×Bool) (R0:=_) [2,5,32] H rfl (fun ⟨f,tk1,m1⟩=>[(7,.bool m1),(33,.int .i64 (f:Int))]) (fun ⟨f,tk1,m1⟩=>[ownM 3 1 A1 P P (lcl tk1)]) (fun g ⟨f,tk1,m1⟩=>f≤P∧g+f=P∧FarI P ps out help to.toNat tk1∧potF P tk1+b2i m1≤potF P tk∧(m1=false→∀ i,i<f→∀ k,k<ps.length→FixAt ps out help tk1 i k)) (P) (0,tk,false) ?_ (S.sel [0,1] G G) (H.keep [7,33,2,5,32] rfl) ?_
  · exact ⟨by omega,by omega,hI,by show potF P tk+0≤_;omega,fun _ i hi=>absurd hi (Nat.not_lt_zero i)⟩
  clear H S a
  intro g3 x3 a w3 hp S H K20 k20
  obtain ⟨f,tk1,m1⟩:=x3
  dsimp only at hp S H
  obtain ⟨hfP,hgf,hI1,hpot1,hfx1⟩:=hp
  refine sS H fun K21 k21=>sr 1 rfl<|sE ?_;clear H a;intro a H
  refine k21 _ ?_;clear k21 K21
  refine wp_seq_k fun K22 k22=>?_
  refine condL H rfl (fun hc3=>?_) (fun hc3=>?_)
  ·skip
   refine wp_skip ?_
   refine k22 _ _ ?_
   refine wp_seq_k fun K23 k23=>?_
   refine wp_block ?_
   refine sS H fun K24 k24=>sr 2 rfl<|sE ?_;clear H a;intro a H
   refine k24 _ ?_;clear k24 K24
   refine sS H fun K25 k25=>sf oD rfl<|sf fU rfl<|sl S 1 iO G G G<|sL iU rfl<|sr 1 rfl<|sE ?_;clear H a;intro a H
   refine k25 _ ?_;clear k25 K25
   refine wp_block ?_
   refine loop_st (X:=Nat×(Nat→Int)×Bool) (R0:=_) [2,5,8,32,33,38,39] H rfl (fun ⟨k,tk2,m2⟩=>[(7,.bool m2),(40,.int .i64 (k:Int))]) (fun ⟨k,tk2,m2⟩=>[ownM 3 1 A1 P P (lcl tk2)]) (fun g ⟨k,tk2,m2⟩=>k≤ps.length∧g+k=ps.length∧FarI P ps out help to.toNat tk2∧potF P tk2+b2i m2≤potF P tk∧(m2=false→(∀ i,i<f→∀ k,k<ps.length→FixAt ps out help tk2 i k)∧∀ q,q<k→FixAt ps out help tk2 f q)) (ps.length) (0,tk1,m1) ?_ (S.sel [0,1] G G) (H.keep [7,40,2,5,8,32,33,38,39] rfl) ?_
   · exact ⟨by omega,by omega,hI1,hpot1,fun h=>⟨hfx1 h,fun q hq=>absurd hq (Nat.not_lt_zero q)⟩⟩
   clear H S a
   intro g4 x4 a w4 hp S H K26 k26
   obtain ⟨k,tk2,m2⟩:=x4
   dsimp only at hp S H
   obtain ⟨hkl,hgk,hI2,hpot2,hfx2⟩:=hp
   refine sS H fun K27 k27=>sr 1 rfl<|sE ?_;clear H a;intro a H
   refine k27 _ ?_;clear k27 K27
   refine wp_seq_k fun K28 k28=>?_
   refine condL H rfl (fun hc4=>?_) (fun hc4=>?_)
   ·skip
    refine wp_skip ?_
    refine k28 _ _ ?_
    refine wp_seq_k fun K29 k29=>?_
    refine wp_block ?_
    refine aB fun K30 k30=>?_
    refine ls 2 H<|si iU gM G G (hps.adr (by omega)) (by omega)<|sd ((bG mF gM rfl S hps (by omega) (by omega)))<|sE ?_;clear H a;intro a H
    refine aJ H rfl S wX ?_;clear H a S;intro b10 _ a hb10 hbw10 S H
    refine aD H S (i:=0) G G G G gM G G ?_
    clear H a S;intro _ a S H
    refine k30 _ _ ?_;clear k30 K30
    replace H:=H.keep [2,5,7,8,10,32,33,38,39,40] rfl
    refine aB fun K31 k31=>?_
    refine ls 3 H<|sd ((aC wU Bm rfl S (i:=2) G G))<|sd ((aC mF gM rfl S (i:=0) G G))<|sr 1 rfl<|sE ?_;clear H a;intro a H
    refine aA H G G Try.func79 G G (tY P ps PA pc xs XA xc out help (ps.getD k Psg.zero) (f:Int) _ (hV.mch k (by omega)) hou) ?_;clear H a
    rintro _ _ a ⟨rfl,S2⟩ H
    replace S:=S.call S2;clear S2
    have hoi:0≤oth out help (ps.getD k Psg.zero) (f:Int)→oth out help (ps.getD k Psg.zero) (f:Int)<P:=fun h=>(oL hV.psv (show k<ps.length by omega) h).2.1
    have htb:=(hV.psv k (by omega)).2.2
    refine ls 1 H<|sr 1 rfl<|sE ?_;clear H a;intro a H
    refine k31 _ _ ?_;clear k31 K31
    refine wp_seq_k fun K32 k32=>?_
    replace H:=H.keep [2,5,7,8,10,11,32,33,38,39,40] rfl
    refine sS H fun K33 k33=>sr 3 rfl<|sg 5 2 50 55 false G G (fun hg3=>by
        have hq3:=hg3;try simp only [o1,o2,o3,o4,o5,o6,o7,o8,o9,oa] at hq3
        exact sy hg3<|sr 1 rfl<|sy hg3<|sr 1 rfl<|sy hg3<|sI aN aX G G (ownM.adr S (i:=1) rfl (by omega)) (by omega) (by omega)<|sy hg3<|slm aF rfl (ownM.rd S (i:=1) rfl (by omega) (by omega))<|sy hg3<|sr 1 rfl<|sz 5 G G G)<|so G G G<|sE ?_;clear H a;intro a H
    refine k33 _ ?_;clear k33 K33
    refine aQ H rfl (fun hc5=>?_) (fun hc5=>?_)
    ·skip
     try simp only [o1,o2,o3,o4,o5,o6,o7,o8,o9,oa] at hc5
     refine wp_exit ?_
     refine k29 _ _ ?_
     replace H:=H.keep [2,5,7,8,32,33,38,39,40] rfl
     refine sO H<|sd (aH G G (by unfold i64ok;omega))<|sr 1 rfl<|sE ?_;clear H a;intro a H
     exact k26 (g4-1) (k+1,_,_) a _ (by omega) (by first|exact ⟨by omega,by omega,hI2.up hV.psv (by omega) (by omega) (by omega) (by omega) (by omega) (by omega) (by omega) hpot2⟩|exact ⟨by omega,by omega,hI2,hpot2,rO (P:=P) hfx2 (oM (by omega))⟩) (S.sel [1,2] G G) (H.keep [7,40,2,5,8,32,33,38,39] rfl)
    try simp only [o1,o2,o3,o4,o5,o6,o7,o8,o9,oa] at hc5
    refine wp_skip ?_
    refine k32 _ _ ?_
    have hsm:=hI2.small (by omega) (i:=(oth out help (ps.getD k Psg.zero) f).toNat) (by omega)
    replace H:=H.keep [2,5,7,8,10,11,32,33,38,39,40] rfl
    replace S:=S.drew
    refine sD H fun K35 k35=>sr 2 rfl<|sI aN aX G G (ownM.adr S (i:=1) rfl (by omega)) (by omega) (by omega)<|slm aF rfl (ownM.rd S (i:=1) rfl (by omega) (by omega))<|sf nL rfl<|sl S 0 aF G G G<|sd (aH G G (by unfold i64ok;omega))<|sr 1 rfl<|sE ?_;clear H a;intro a H
    refine k35 _ ?_;clear k35 K35
    replace H:=H.keep [2,5,7,8,12,32,33,38,39,40] rfl
    refine sS H fun K36 k36=>sr 2 rfl<|si aN aX G G (ownM.adr S (i:=1) rfl (by omega)) (by omega)<|slm aF rfl (ownM.rd S (i:=1) rfl (by omega) (by omega))<|sr 2 rfl<|sg 6 5 69 75 false G G (fun hg6=>by
        have hq6:=hg6;try simp only [o1,o2,o3,o4,o5,o6,o7,o8,o9,oa] at hq6
        exact sy hg6<|sr 1 rfl<|sy hg6<|sr 1 rfl<|sy hg6<|sr 1 rfl<|sy hg6<|si aN aX G G (ownM.adr S (i:=1) rfl (by omega)) (by omega)<|sy hg6<|slm aF rfl (ownM.rd S (i:=1) rfl (by omega) (by omega))<|sy hg6<|sr 1 rfl<|sz 6 G G G)<|so G G G<|sE ?_;clear H a;intro a H
    refine k36 _ ?_;clear k36 K36
    refine aQ H rfl (fun hc6=>?_) (fun hc6=>?_)
    ·skip
     try simp only [o1,o2,o3,o4,o5,o6,o7,o8,o9,oa] at hc6
     replace H:=H.keep [2,5,8,12,32,33,38,39,40] rfl
     refine bY ?_
     refine ls 4 H<|sr 3 rfl<|si aN aX G G (ownM.adr S (i:=1) rfl (by omega)) (by omega)<|sE ?_;clear H a;intro a H
     refine bJ H S (i:=1) G G G (by omega) (by omega) aX rfl ?_
     clear H a S;intro _ a S H
     replace S:=S.recell (i:=1) rfl (cell':=lcl (upd tk2 f (tk2 (oth out help (ps.getD k Psg.zero) f).toNat+(ps.getD k Psg.zero).ticks))) (fun q j hq hj=>Gh q j hj)
     refine ls 1 H<|sr 1 rfl<|sE ?_;clear H a;intro a H
     refine k29 _ _ ?_
     refine sO H<|sd (aH G G (by unfold i64ok;omega))<|sr 1 rfl<|sE ?_;clear H a;intro a H
     exact k26 (g4-1) (k+1,_,_) a _ (by omega) (by first|exact ⟨by omega,by omega,hI2.up hV.psv (by omega) (by omega) (by omega) (by omega) (by omega) (by omega) (by omega) hpot2⟩|exact ⟨by omega,by omega,hI2,hpot2,rO (P:=P) hfx2 (oM (by omega))⟩) (S.sel [1,2] G G) (H.keep [7,40,2,5,8,32,33,38,39] rfl)
    try simp only [o1,o2,o3,o4,o5,o6,o7,o8,o9,oa] at hc6
    refine wp_skip ?_
    refine k29 _ _ ?_
    replace H:=H.keep [2,5,7,8,32,33,38,39,40] rfl
    refine sO H<|sd (aH G G (by unfold i64ok;omega))<|sr 1 rfl<|sE ?_;clear H a;intro a H
    exact k26 (g4-1) (k+1,_,_) a _ (by omega) (by first|exact ⟨by omega,by omega,hI2.up hV.psv (by omega) (by omega) (by omega) (by omega) (by omega) (by omega) (by omega) hpot2⟩|exact ⟨by omega,by omega,hI2,hpot2,rO (P:=P) hfx2 (oM (by omega))⟩) (S.sel [1,2] G G) (H.keep [7,40,2,5,8,32,33,38,39] rfl)
   refine wp_exit ?_
   refine k23 _ _ ?_
   refine sO H<|sd (aH G G (by unfold i64ok;omega))<|sr 1 rfl<|sE ?_;clear H a;intro a H
   exact k20 (g3-1) (f+1,tk2,m2) a _ (by omega) (⟨by omega,by omega,hI2,hpot2,Ip (P:=P) (by omega) hfx2⟩) (S.sel [0,1] G G) (H.keep [7,33,2,5,32] rfl)
  refine wp_exit ?_
  exact k15 (g2-1) (tk1,m1) a _ (by omega) (⟨hI1,by omega,Jh (by omega) hfx1⟩) (S.sel [0,1] G G) (H.keep [7,2,5] rfl)
 try simp only [o1,o2,o3,o4,o5,o6,o7,o8,o9,oa] at hc2
 refine wp_exit ?_
 refine k13 _ _ ?_
 refine sS H fun K41 k41=>sr 2 rfl<|sE ?_;clear H a;intro a H
 refine k41 _ ?_;clear k41 K41
 refine wp_ret ?_
 refine ret1 (fn:=Try.f64) rfl H rfl ?_
 have hmf:mo=false:=by (cases mo <;> simp_all)
 have hok:=hI.done (by omega) (hfx hmf)
 have hdo:=Iq hV.psv (by omega) hok
 replace S:=S.recell (i:=0) rfl (cell':=lcl (dst P ps out help to.toNat)) (fun q j hq hj=>by unfold lcl;rw [kP hV.psv hok hq])
 exact ⟨_,_,rfl,hdo,(S.sel [0] G G)⟩
theorem rW (P:Nat) (ps:List Psg) (PA:Option Addr) (pc:Nat) (xs:List Int) (XA:Option Addr) (xc:Nat) (out:Int) (help:Bool) (fr to:Int) (w:World) (hps:InS w noF 7 PA ps.length (pcell ps)) (hpn:ps.length≤9223372036854775807) (hxs:InS w noF 1 XA xs.length (icl xs)) (hxn:xs.length≤9223372036854775807) (hV:StV P ps xs) (hou:0≤out) (hfr:0≤fr∧fr<P) (hto:0≤to∧to<P) :
    Calls Try.prog 44 [.agg [.int .i64 (P:Int),.slice PA ps.length pc,.slice XA xs.length xc,.int .i64 out,.bool help].toArray,.int .i64 fr,.int .i64 to].toArray w (Ret (fun v w'=>v = .bool (decide (0≤dst P ps out help to.toNat fr.toNat))∧FarOk P ps out help to.toNat (dst P ps out help to.toNat)∧St w noF [] w')):=by
 refine enter Try.func44 rfl Try.ntmps44 rfl (fun a H=>?_)
 have S:=St.start w
 refine aB fun K1 k1=>?_
 refine aS H rfl S G G ?_;clear H a S;intro b3 _ a hb3 hbw3 S H
 refine ls 1 H<|sr 1 rfl<|sE ?_;clear H a;intro a H
 refine k1 _ _ ?_;clear k1 K1
 replace H:=H.keep [1,2,3] rfl
 refine aB fun K2 k2=>?_
 refine ls 2 H<|sd ((aC wU Bm rfl S (i:=0) G G))<|sr 1 rfl<|sE ?_;clear H a;intro a H
 refine aA H G G Try.func64 G G (zQ P ps PA pc xs XA xc out help to _ (hps.now S) hpn (hxs.now S) hxn hV hou hto) ?_;clear H a
 rintro _ _ a ⟨A5,c5,rfl,hdo,S2⟩ H
 replace S:=S.call S2;clear S2
 refine ls 5 H<|sr 1 rfl<|sI aN aX G G (ownM.adr S (i:=0) rfl (by omega)) (by omega) (by omega)<|slm aF rfl (ownM.rd S (i:=0) rfl (by omega) (by omega))<|sr 2 rfl<|sE ?_;clear H a;intro a H
 refine k2 _ _ ?_;clear k2 K2
 refine wp_ret ?_
 refine ret1 (fn:=Try.f44) rfl H rfl ?_
 exact ⟨rfl,hdo,(S.sel [] G G)⟩
end
section
section
variable {ps:List Psg} {out:Int} {help:Bool} {l:List Int} {a b:Int} {k:Nat} {s:Int×Int}
end
theorem Wk.snoc {ps:List Psg} {out:Int} {help:Bool} {a b n k c:Nat} {l:List Nat} (W:Wk ps out help a b n l):k<ps.length→oth out help (ps.getD k Psg.zero) b=(c:Int)→1≤(ps.getD k Psg.zero).ticks→Wk ps out help a c (n+(ps.getD k Psg.zero).ticks.toNat) (l++[k]):=by
  induction W with
  | nil a=>
    intro hk ho ht
    have:=Wk.cons hk ho (Wk.nil c)
    rw [Nat.zero_add]
    exact this
  | @cons a b c' n k' l' hk' ho' _ ih=>
    intro hk ho ht
    have:=Wk.cons hk' ho' (ih hk ho ht)
    rw [Nat.add_assoc]
    exact this
section
variable {P:Nat} {ps:List Psg} {xs:List Int} {out:Int} {help:Bool} {fr to:Nat} {l:List Int}
end
structure Hr where
  out:Int
  help:Bool
  pe:List Int
  A:Option Addr
  c:Nat
def Hr.zero:Hr:=⟨0,false,[],none,0⟩
def Hr.cell (h:Hr):Nat→Value
  | 0 => .int .i64 h.out
  | 1 => .bool h.help
  | _ => .slice h.A h.pe.length h.c
structure Hq where
  out:Int
  help:Bool
  pe:List Int
def Hq.zero:Hq:=⟨0,false,[]⟩
def Hr.q (h:Hr):Hq:=⟨h.out,h.help,h.pe⟩
def hcl (l:List Hq) (DA:Nat→Option Addr) (dc:Nat→Nat) (k:Nat):Nat→Value
  | 0 => .int .i64 (l.getD k Hq.zero).out
  | 1 => .bool (l.getD k Hq.zero).help
  | _ => .slice (DA k) (l.getD k Hq.zero).pe.length (dc k)
structure Prm where
  fr:Int
  to:Int
  first:Int
  last:Int
  helped:Bool
def Prm.zero:Prm:=⟨0,0,0,0,false⟩
def Prm.cell (p:Prm):Nat→Value
  | 0 => .int .i64 p.fr
  | 1 => .int .i64 p.to
  | 2 => .int .i64 p.first
  | 3 => .int .i64 p.last
  | _ => .bool p.helped
def jN (l:List Prm) (k j:Nat):Value:=(l.getD k Prm.zero).cell j
def hqOk (pl:Int) (h:Hq):Bool:=decide (0≤h.out∧h.out≤4095)&&eA pl h.pe
def dayOk (pl:Int) (day:List Hq):Bool:=allN (fun k=>hqOk pl (day.getD k Hq.zero)) day.length&&decide (day.length≤48)
def dayE (pl:Int) (ps:List Psg) (xs:List Int) (day:List Hq):Int:=if stE pl ps xs≠0 then stE pl ps xs else if dayOk pl day=true then 0 else 81
def prmOk (pl:Int) (p:Prm):Bool:=decide (0≤p.fr∧p.fr≤pl-1∧0≤p.to∧p.to≤pl-1∧0≤p.first∧p.first≤p.last∧p.last<48)
def prsOk (pl:Int) (l:List Prm):Bool:=allN (fun k=>prmOk pl (l.getD k Prm.zero)) l.length&&decide (l.length≤40)
def keptE (pl:Int) (ps:List Psg) (xs:List Int) (day:List Hq) (l:List Prm):Int:=if dayE pl ps xs day≠0 then dayE pl ps xs day else if prsOk pl l=true then 0 else 82
theorem xP {pl:Int} {ps:List Psg} {xs:List Int} {day:List Hq} (h:dayE pl ps xs day=0):stE pl ps xs=0∧dayOk pl day=true:=by
  unfold dayE at h
  split at h
  · omega
  · split at h
    · exact ⟨by omega,by assumption⟩
    · cases h
theorem oX {pl:Int} {day:List Hq} (h:dayOk pl day=true):day.length≤48∧∀ k,k<day.length→(0≤(day.getD k Hq.zero).out∧(day.getD k Hq.zero).out≤4095)∧eA pl (day.getD k Hq.zero).pe=true:=by
  unfold dayOk at h
  simp only [Bool.and_eq_true,decide_eq_true_eq] at h
  refine ⟨h.2,fun k hk=>?_⟩
  have:=bX.1 h.1 k hk
  unfold hqOk at this
  simpa using this
theorem Dp {pl:Int} {ps:List Psg} {xs:List Int} {day:List Hq} {l:List Prm} (h:keptE pl ps xs day l=0):dayE pl ps xs day=0∧l.length≤40∧∀ k,k<l.length→prmOk pl (l.getD k Prm.zero)=true:=by
  unfold keptE at h
  split at h
  · omega
  · split at h
    · rename_i h1 h2
      unfold prsOk at h2
      simp only [Bool.and_eq_true,decide_eq_true_eq] at h2
      exact ⟨by omega,h2.2,bX.1 h2.1⟩
    · cases h
theorem mN {pl:Int} {p:Prm}:prmOk pl p=true↔(0≤p.fr∧p.fr≤pl-1∧0≤p.to∧p.to≤pl-1∧0≤p.first∧p.first≤p.last∧p.last<48):=by unfold prmOk;rw [decide_eq_true_eq]
noncomputable def dT (P:Nat) (ps:List Psg) (h:Hq) (n:Nat) (p:Prm):Bool:=(decide (p.first≤(n:Int))&&decide ((n:Int)≤p.last))&&decide (dst P ps h.out (h.help&&p.helped) p.to.toNat p.fr.toNat<0)
noncomputable def lP (P:Nat) (ps:List Psg) (day:List Hq) (l:List Prm) (h:Nat):Nat:=fstB (fun i=>dT P ps (day.getD h Hq.zero) h (l.getD i Prm.zero)) l.length
noncomputable def oY (P:Nat) (ps:List Psg) (day:List Hq) (l:List Prm):Nat:=fstB (fun h=>decide (lP P ps day l h<l.length)) day.length
noncomputable def keptV (pl:Int) (ps:List Psg) (xs:List Int) (day:List Hq) (l:List Prm):Int×Int×Bool×Int:=
  if keptE pl ps xs day l≠0 then (0,0,false,keptE pl ps xs day l)
  else if oY pl.toNat ps day l<day.length then ((oY pl.toNat ps day l:Int),(lP pl.toNat ps day l (oY pl.toNat ps day l):Int),false,0) else (0,0,true,0)
section
variable {P:Nat} {ps:List Psg} {xs:List Int} {day:List Hq} {l:List Prm} {h i:Nat}
theorem lQ {pl:Int} (he:keptE pl ps xs day l≠0):keptV pl ps xs day l=(0,0,false,keptE pl ps xs day l):=by unfold keptV;rw [if_pos he]
theorem Gi (he:keptE P ps xs day l=0) (hh:h<day.length) (hi:i<l.length) (h1:∀ q,q<h→∀ j,j<l.length→dT P ps (day.getD q Hq.zero) q (l.getD j Prm.zero)=false) (h2:∀ j,j<i→dT P ps (day.getD h Hq.zero) h (l.getD j Prm.zero)=false)
    (hb:dT P ps (day.getD h Hq.zero) h (l.getD i Prm.zero)=true):keptV P ps xs day l=((h:Int),(i:Int),false,0):=by
  have e1:lP P ps day l h=i:=vW h2 hb hi
  have e2:oY P ps day l=h:=vW (fun q hq=>decide_eq_false (by unfold lP;rw [iE (h1 q hq)];omega)) (decide_eq_true (by rw [e1];exact hi)) hh
  unfold keptV
  rw [if_neg (by omega),Int.toNat_natCast,e2,if_pos hh,e1]
theorem Dq (he:keptE P ps xs day l=0) (h1:∀ q,q<day.length→∀ j,j<l.length→dT P ps (day.getD q Hq.zero) q (l.getD j Prm.zero)=false):keptV P ps xs day l=(0,0,true,0):=by
  have e2:oY P ps day l=day.length:=iE (fun q hq=>decide_eq_false (by unfold lP;rw [iE (h1 q hq)];omega))
  unfold keptV
  rw [if_neg (by omega),Int.toNat_natCast,e2,if_neg (by omega)]
theorem oZ {pl:Int} {k:Nat} (hk:k<day.length) (hx:hqOk pl (day.getD k Hq.zero)=false):dayOk pl day=false:=by unfold dayOk;rw [eI hk hx];rfl
theorem tZ {pl:Int} (h1:allN (fun k=>hqOk pl (day.getD k Hq.zero)) day.length=true):dayOk pl day=decide (day.length≤48):=by unfold dayOk;rw [h1];rfl
theorem zR (h1:∀ q,q<h→∀ j,j<l.length→dT P ps (day.getD q Hq.zero) q (l.getD j Prm.zero)=false) (h2:∀ j,j<i→dT P ps (day.getD h Hq.zero) h (l.getD j Prm.zero)=false) (hi:l.length≤i) :
    ∀ q,q<h+1→∀ j,j<l.length→dT P ps (day.getD q Hq.zero) q (l.getD j Prm.zero)=false:=fun q hq j hj=>by
  by_cases e:q=h
  · subst e;exact h2 j (by omega)
  · exact h1 q (by omega) j hj
theorem Gj {f:Nat→Bool} (h:∀ j,j<i→f j=false) (hi:f i=false):∀ j,j<i+1→f j=false:=fun j hj=>by
  by_cases e:j=i
  · subst e;exact hi
  · exact h j (by omega)
end
section
variable {w w0:World} {F0:Nat→Prop} {R:List Mem} {e sz i k:Nat} {A:Nat→Option Addr} {n c:Nat→Nat} {cell:Nat→Nat→Nat→Value}
theorem ragM.none (S:St w0 F0 R w) (e sz:Nat) (A:Nat→Option Addr) (n c:Nat→Nat) (cell:Nat→Nat→Nat→Value):St w0 F0 (ragM e sz (fun q=>q<0) A n c cell::R) w:=
  S.new (Keeps.refl _ _) ⟨fun q hq=>absurd hq (Nat.not_lt_zero q),fun q _ hq=>absurd hq (Nat.not_lt_zero q)⟩ (fun b ⟨q,hq,_⟩=>absurd hq (Nat.not_lt_zero q))
theorem ragM.add {A':Option Addr} {n' c':Nat} {cell':Nat→Nat→Value} (S:St w0 F0 (ownM e sz A' n' c' cell'::R) w) (hi:R[i]?=some (ragM e sz (fun q=>q<k) A n c cell)) :
    St w0 F0 (R.set i (ragM e sz (fun q=>q<k+1) (upd A k A') (upd n k n') (upd c k c') (upd cell k cell'))) w:=by
  have e1:(fun q=>q<k)=(fun q=>q<k+1∧q≠k):=by funext q;exact propext ⟨fun h=>by omega,fun h=>by omega⟩
  rw [e1] at hi
  exact ragM.put (D:=fun q=>q<k+1) S hi (by omega)
theorem ragM.recell {n':Nat→Nat} {A':Nat→Option Addr} {c':Nat→Nat} {cell':Nat→Nat→Nat→Value} {D:Nat→Prop} (S:St w0 F0 R w) (hi:R[i]?=some (ragM e sz D A n c cell)) (h:∀ q,D q→A q=A' q∧n q=n' q∧c q=c' q∧cell q=cell' q):St w0 F0 (R.set i (ragM e sz D A' n' c' cell')) w:=by
  have hrow:∀ q,D q→ownM e sz (A' q) (n' q) (c' q) (cell' q)=ownM e sz (A q) (n q) (c q) (cell q):=fun q hq=>by obtain ⟨h1,h2,h3,h4⟩:=h q hq;rw [h1,h2,h3,h4]
  refine S.imp hi (fun ⟨h1,h2⟩=>⟨fun q hq=>by rw [hrow q hq];exact h1 q hq,fun q r hq hr hqr b hb hb'=>?_⟩) ?_
  · rw [hrow q hq] at hb;rw [hrow r hr] at hb';exact h2 q r hq hr hqr b hb hb'
  · rintro b ⟨q,hq,hb⟩;rw [hrow q hq] at hb;exact ⟨q,hq,hb⟩
end
end
section
theorem uA {pl a b:Int}:plOk pl [a,b]=true↔(0≤a∧a≤pl-1)∧(0≤b∧b≤pl-1):=by
  unfold plOk
  rw [bX]
  constructor
  · intro h
    have h0:=h 0 (show 0<2 by omega)
    have h1:=h 1 (show 1<2 by omega)
    exact ⟨of_decide_eq_true h0,of_decide_eq_true h1⟩
  · rintro ⟨h0,h1⟩ k hk
    match k,hk with
    | 0,_=>exact decide_eq_true h0
    | 1,_=>exact decide_eq_true h1
theorem wF {pl a b:Int} (h:plOk pl [a,b]=false):¬ ((0≤a∧a≤pl-1)∧(0≤b∧b≤pl-1)):=fun h2=>by rw [uA.2 h2] at h;cases h
section
variable {pl:Int} {ps:List Psg} {xs:List Int} {day:List Hq} {l:List Prm}
theorem uB (h:stE pl ps xs≠0):keptE pl ps xs day l=stE pl ps xs:=by
  have:dayE pl ps xs day=stE pl ps xs:=by unfold dayE;rw [if_pos h]
  unfold keptE;rw [this,if_pos h]
theorem qJ (h:stE pl ps xs=0) (hd:dayOk pl day=false):keptE pl ps xs day l=81:=by
  have:dayE pl ps xs day=81:=by unfold dayE;rw [if_neg (by omega),if_neg (by rw [hd];simp)]
  unfold keptE;rw [this];rfl
theorem mO (h:stE pl ps xs=0) (hd:dayOk pl day=true):dayE pl ps xs day=0:=by unfold dayE;rw [if_neg (by omega),if_pos hd]
theorem kB (h:dayE pl ps xs day=0) (hd:prsOk pl l=false):keptE pl ps xs day l=82:=by unfold keptE;rw [if_neg (by omega),if_neg (by rw [hd];simp)]
theorem pB (h:dayE pl ps xs day=0) (hd:prsOk pl l=true):keptE pl ps xs day l=0:=by unfold keptE;rw [if_neg (by omega),if_pos hd]
theorem uC (h:¬ l.length≤40):prsOk pl l=false:=by unfold prsOk;rw [decide_eq_false h,Bool.and_false]
theorem xQ {k:Nat} (hk:k<l.length) (h:prmOk pl (l.getD k Prm.zero)=false):prsOk pl l=false:=by unfold prsOk;rw [eI hk h];rfl
theorem xR (h:allN (fun k=>prmOk pl (l.getD k Prm.zero)) l.length=true) (h2:l.length≤40):prsOk pl l=true:=by unfold prsOk;rw [h,decide_eq_true h2];rfl
theorem Dr {p:Prm} (h:¬ (0≤p.fr∧p.fr≤pl-1∧0≤p.to∧p.to≤pl-1∧0≤p.first∧p.first≤p.last∧p.last<48)):prmOk pl p=false:=by unfold prmOk;exact decide_eq_false h
theorem Ds {P:Nat} {h:Hq} {n:Nat} {p:Prm} (h1:p.first≤(n:Int)∧(n:Int)≤p.last) (h2:dst P ps h.out (h.help&&p.helped) p.to.toNat p.fr.toNat<0):dT P ps h n p=true:=by
  unfold dT;rw [decide_eq_true h1.1,decide_eq_true h1.2,decide_eq_true h2];rfl
theorem zS {P:Nat} {h:Hq} {n:Nat} {p:Prm} (h1:¬ (p.first≤(n:Int)∧(n:Int)≤p.last)):dT P ps h n p=false:=by
  unfold dT
  by_cases h2:p.first≤(n:Int)
  · rw [decide_eq_false (p:=(n:Int)≤p.last) (by omega),Bool.and_false];rfl
  · rw [decide_eq_false h2];rfl
theorem zT {P:Nat} {h:Hq} {n:Nat} {p:Prm} (h2:¬ dst P ps h.out (h.help&&p.helped) p.to.toNat p.fr.toNat<0):dT P ps h n p=false:=by
  unfold dT;rw [decide_eq_false h2,Bool.and_false]
end
theorem pD (pl:Int) (ps:List Psg) (PA:Option Addr) (pc:Nat) (xs:List Int) (XA:Option Addr) (xc:Nat) (day:List Hq) (HA:Option Addr) (hcp:Nat) (DA:Nat→Option Addr) (dc:Nat→Nat) (w:World) (hps:InS w noF 7 PA ps.length (pcell ps)) (hpn:ps.length≤9223372036854775807) (hxs:InS w noF 1 XA xs.length (icl xs)) (hxn:xs.length≤9223372036854775807) (hday:InS w noF 3 HA day.length (hcl day DA dc)) (hdn:day.length≤9223372036854775807) (hdp:∀ k,k<day.length→InS w noF 1 (DA k) (day.getD k Hq.zero).pe.length (icl (day.getD k Hq.zero).pe)) (hdl:∀ k,k<day.length→(day.getD k Hq.zero).pe.length≤9223372036854775807) :
    Calls Try.prog 40 [.agg [.int .i64 pl,.slice PA ps.length pc,.slice XA xs.length xc].toArray,.slice HA day.length hcp].toArray w (Ret (fun v w'=>v = .bool (dayOk pl day)∧St w noF [] w')):=by
 refine enter Try.func40 rfl Try.ntmps40 rfl (fun a H=>?_)
 have S:=St.start w
 refine aB fun K1 k1=>?_
 refine aS H rfl S G G ?_;clear H a S;intro b2 _ a hb2 hbw2 S H
 refine ls 1 H<|sr 1 rfl<|sE ?_;clear H a;intro a H
 refine k1 _ _ ?_;clear k1 K1
 refine wp_seq_k fun K2 k2=>?_
 refine sS H fun K3 k3=>sr 1 rfl<|sL gO rfl<|sr 1 rfl<|sE ?_;clear H a;intro a H
 refine k3 _ ?_;clear k3 K3
 refine wp_block ?_
 refine loop_st (X:=Nat) (R0:=_) [1,2,7,8] H rfl (fun k=>[(9,.int .i64 (k:Int))]) (fun k=>[]) (fun g k=>k≤day.length∧g+k=day.length∧allN (fun k=>hqOk pl (day.getD k Hq.zero)) k=true) (day.length) 0 ?_ (S.sel [0] G G) (H.keep [9,1,2,7,8] rfl) ?_
 · exact ⟨by omega,by omega,rfl⟩
 clear H S a
 intro g1 x1 a w1 hp S H K4 k4
 obtain ⟨k,rfl⟩:∃ y,y=x1:=⟨_,rfl⟩
 refine sS H fun K5 k5=>sr 1 rfl<|sE ?_;clear H a;intro a H
 refine k5 _ ?_;clear k5 K5
 refine wp_seq_k fun K6 k6=>?_
 refine condL H rfl (fun hc1=>?_) (fun hc1=>?_)
 ·skip
  refine wp_skip ?_
  refine k6 _ _ ?_
  refine wp_seq_k fun K7 k7=>?_
  refine wp_block ?_
  refine aB fun K8 k8=>?_
  refine ls 2 H<|si gO gL G G (hday.adr (by omega)) (by omega)<|sd ((bG vE gL rfl S hday (by omega) (by omega)))<|sE ?_;clear H a;intro a H
  refine aJ H rfl S pX ?_;clear H a S;intro b6 _ a hb6 hbw6 S H
  refine aD H S (i:=0) G G G G gL G G ?_
  clear H a S;intro _ a S H
  refine k8 _ _ ?_;clear k8 K8
  replace H:=H.keep [1,2,6,7,8,9] rfl
  refine aB fun K9 k9=>?_
  refine ls 2 H<|sf lG rfl<|sl S 0 aF G G G<|sE ?_;clear H a;intro a H
  refine aA H G G Try.func41 G G (bS _ _ _ _) ?_;clear H a
  rintro _ _ a ⟨rfl,rfl⟩ H
  refine ls 2 H<|sr 2 rfl<|sE ?_;clear H a;intro a H
  apply bP (i:=4) (g:=17) (t:=22) (b:=false) 5 H S G G (by kernel_rfl) (by kernel_rfl) G G
  case h1=>
   intro hg5
   have hq5:=hg5;try simp only [o1,o2,o3,o4,o5,o6,o7,o8,o9,oa] at hq5
   refine ls 3 H<|sy hg5<|sd ((aC cN dI rfl S (i:=1) G G))<|sy hg5<|sf rE rfl<|sy hg5<|sl S 0 aZ G G G<|sE ?_;intro a H
   refine cC H G G (by assumption) ?_
   refine aA H G G Try.func60 G G (wD pl ps PA pc xs XA xc (day.getD k Hq.zero).pe (DA k) (dc k) _ ((hdp k (by omega)).now S) (hdl k (by omega))) ?_
   rintro _ _ a ⟨rfl,S2⟩ H
   replace S:=S.call S2;clear S2
   refine ls 1 H<|sy hg5<|sr 1 rfl<|sE ?_;intro a H
   exact wpList_nil ⟨H.strip 5 G G,(S.sel [0,1] G G)⟩
  clear H a S;intro a _ H S
  refine ls 1 H<|so G G G<|sE ?_;clear H a;intro a H
  refine k9 _ _ ?_;clear k9 K9
  refine aQ H rfl (fun hc2=>?_) (fun hc2=>?_)
  ·skip
   try simp only [o1,o2,o3,o4,o5,o6,o7,o8,o9,oa] at hc2
   replace H:=H.keep [] rfl
   refine sS H fun K10 k10=>sr 1 rfl<|sE ?_;clear H a;intro a H
   refine k10 _ ?_;clear k10 K10
   refine wp_ret ?_
   refine ret1 (fn:=Try.f40) rfl H rfl ?_
   exact ⟨congrArg Value.bool (oZ (k:=k) (by omega) (by unfold hqOk;rcases hc2 with h|h;(rw [decide_eq_false (by omega)];rfl);(rw [h,Bool.and_false]))).symm,(S.sel [] rfl rfl)⟩
  try simp only [o1,o2,o3,o4,o5,o6,o7,o8,o9,oa] at hc2
  refine wp_skip ?_
  refine k7 _ _ ?_
  refine sO H<|sd (aH G G (by unfold i64ok;omega))<|sr 1 rfl<|sE ?_;clear H a;intro a H
  exact k4 (g1-1) (k+1) a _ (by omega) (⟨by omega,by omega,bT hp.2.2 (by unfold hqOk;rw [decide_eq_true (by omega),hc2.2];rfl)⟩) (S.sel [1] G G) (H.keep [9,1,2,7,8] rfl)
 refine wp_exit ?_
 refine k2 _ _ ?_
 refine sS H fun K12 k12=>sr 1 rfl<|sL gO rfl<|sr 2 rfl<|sE ?_;clear H a;intro a H
 refine k12 _ ?_;clear k12 K12
 refine wp_ret ?_
 refine ret1 (fn:=Try.f40) rfl H rfl ?_
 obtain rfl:k=day.length:=by omega
 refine ⟨congrArg Value.bool ?_,(S.sel [] G G)⟩
 rw [tZ hp.2.2]
 exact decide_eq_decide.2 (by omega)
theorem zU (pl:Int) (ps:List Psg) (PA:Option Addr) (pc:Nat) (xs:List Int) (XA:Option Addr) (xc:Nat) (day:List Hq) (HA:Option Addr) (hcp:Nat) (DA:Nat→Option Addr) (dc:Nat→Nat) (l:List Prm) (LA:Option Addr) (lc:Nat) (w:World) (hps:InS w noF 7 PA ps.length (pcell ps)) (hpn:ps.length≤9223372036854775807) (hxs:InS w noF 1 XA xs.length (icl xs)) (hxn:xs.length≤9223372036854775807) (hday:InS w noF 3 HA day.length (hcl day DA dc)) (hdn:day.length≤9223372036854775807) (hdp:∀ k,k<day.length→InS w noF 1 (DA k) (day.getD k Hq.zero).pe.length (icl (day.getD k Hq.zero).pe)) (hdl:∀ k,k<day.length→(day.getD k Hq.zero).pe.length≤9223372036854775807) (hl:InS w noF 5 LA l.length (jN l)) (hln:l.length≤9223372036854775807) :
    Calls Try.prog 24 [.agg [.int .i64 pl,.slice PA ps.length pc,.slice XA xs.length xc].toArray,.slice HA day.length hcp,.slice LA l.length lc].toArray w (Ret (fun u w'=>u = .tuple #[.int .i64 (keptV pl ps xs day l).1,.int .i64 (keptV pl ps xs day l).2.1,.bool (keptV pl ps xs day l).2.2.1,.int .i64 (keptV pl ps xs day l).2.2.2]∧St w noF [] w')):=by
 refine enter Try.func24 rfl Try.ntmps24 rfl (fun a H=>?_)
 have S:=St.start w
 refine aB fun K1 k1=>?_
 refine aS H rfl S G G ?_;clear H a S;intro b3 _ a hb3 hbw3 S H
 refine ls 4 H<|sr 4 rfl<|sE ?_;clear H a;intro a H
 refine k1 _ _ ?_;clear k1 K1
 refine wp_seq_k fun K2 k2=>?_
 refine aB fun K3 k3=>?_
 refine ls 1 H<|sd ((aC cN dI rfl S (i:=0) G G))<|sE ?_;clear H a;intro a H
 refine aA H G G Try.func39 G G (oW pl ps PA pc xs XA xc _ (hps.now S) hpn (hxs.now S) hxn) ?_;clear H a
 rintro _ _ a ⟨rfl,S2⟩ H
 replace S:=S.call S2;clear S2
 refine ls 1 H<|sr 1 rfl<|sE ?_;clear H a;intro a H
 refine k3 _ _ ?_;clear k3 K3
 replace H:=H.keep [1,2,3,9] rfl
 refine sS H fun K4 k4=>sr 2 rfl<|sE ?_;clear H a;intro a H
 refine k4 _ ?_;clear k4 K4
 refine condN H rfl (fun hc1=>?_) (fun hc1=>?_)
 ·skip
  refine sS H fun K5 k5=>sr 5 rfl<|sE ?_;clear H a;intro a H
  refine k5 _ ?_;clear k5 K5
  refine wp_ret ?_
  refine ret4 (fn:=Try.f24) rfl H G G G G ?_
  rw [lQ (by rw [uB hc1];exact hc1),uB hc1]
  exact ⟨rfl,(S.sel [] G G)⟩
 have hst:stE pl ps xs=0:=by omega
 have hV0:=oI hst
 obtain ⟨P,rfl⟩:∃ P:Nat,pl=P:=⟨pl.toNat,by have:=hV0.size;omega⟩
 have hV:=hV0
 have hP10:=hV.size
 refine wp_skip ?_
 refine k2 _ _ ?_
 refine wp_seq_k fun K6 k6=>?_
 replace H:=H.keep [1,2,3] rfl
 refine aB fun K7 k7=>?_
 refine ls 2 H<|sd ((aC cN dI rfl S (i:=0) G G))<|sr 1 rfl<|sE ?_;clear H a;intro a H
 refine aA H G G Try.func40 G G (pD P ps PA pc xs XA xc day HA hcp DA dc _ (hps.now S) hpn (hxs.now S) hxn (hday.now S) hdn (fun k hk=>(hdp k hk).now S) hdl) ?_;clear H a
 rintro _ _ a ⟨rfl,S2⟩ H
 replace S:=S.call S2;clear S2
 refine ls 1 H<|sr 1 rfl<|sE ?_;clear H a;intro a H
 refine k7 _ _ ?_;clear k7 K7
 refine aQ H rfl (fun hc2=>?_) (fun hc2=>?_)
 ·skip
  try simp only [o1,o2,o3,o4,o5,o6,o7,o8,o9,oa] at hc2
  refine sS H fun K8 k8=>sr 4 rfl<|sE ?_;clear H a;intro a H
  refine k8 _ ?_;clear k8 K8
  refine wp_ret ?_
  refine ret4 (fn:=Try.f24) rfl H G G G G ?_
  rw [lQ (by rw [qJ hst hc2];decide),qJ hst hc2]
  exact ⟨rfl,(S.sel [] G G)⟩
 try simp only [o1,o2,o3,o4,o5,o6,o7,o8,o9,oa] at hc2
 have hdE:=mO hst hc2
 have hdk:=oX hc2
 refine wp_skip ?_
 refine k6 _ _ ?_
 refine wp_seq_k fun K9 k9=>?_
 replace H:=H.keep [1,2,3] rfl
 refine sS H fun K10 k10=>sr 1 rfl<|sL lD rfl<|sr 1 rfl<|sE ?_;clear H a;intro a H
 refine k10 _ ?_;clear k10 K10
 refine condL H rfl (fun hc3=>?_) (fun hc3=>?_)
 ·skip
  refine sS H fun K11 k11=>sr 4 rfl<|sE ?_;clear H a;intro a H
  refine k11 _ ?_;clear k11 K11
  refine wp_ret ?_
  refine ret4 (fn:=Try.f24) rfl H G G G G ?_
  have e9:=kB hdE (uC (l:=l) (by omega))
  rw [lQ (by rw [e9];decide),e9]
  exact ⟨rfl,(S.sel [] G G)⟩
 refine wp_skip ?_
 refine k9 _ _ ?_
 refine wp_seq_k fun K12 k12=>?_
 replace H:=H.keep [1,2,3] rfl
 refine sS H fun K13 k13=>sr 1 rfl<|sL lD rfl<|sr 1 rfl<|sE ?_;clear H a;intro a H
 refine k13 _ ?_;clear k13 K13
 refine wp_block ?_
 refine loop_st (X:=Nat) (R0:=_) [1,2,3,28,29] H rfl (fun k=>[(30,.int .i64 (k:Int))]) (fun k=>[]) (fun g k=>k≤l.length∧g+k=l.length∧allN (fun k=>prmOk P (l.getD k Prm.zero)) k=true) (l.length) 0 ?_ (S.sel [0] G G) (H.keep [30,1,2,3,28,29] rfl) ?_
 · exact ⟨by omega,by omega,rfl⟩
 clear H S a
 intro g1 x1 a w1 hp S H K14 k14
 obtain ⟨k,rfl⟩:∃ y,y=x1:=⟨_,rfl⟩
 refine sS H fun K15 k15=>sr 1 rfl<|sE ?_;clear H a;intro a H
 refine k15 _ ?_;clear k15 K15
 refine wp_seq_k fun K16 k16=>?_
 refine condL H rfl (fun hc4=>?_) (fun hc4=>?_)
 ·skip
  refine wp_skip ?_
  refine k16 _ _ ?_
  refine wp_seq_k fun K17 k17=>?_
  refine wp_block ?_
  refine aB fun K18 k18=>?_
  refine ls 2 H<|si lD lC G G (hl.adr (by omega)) (by omega)<|sd ((bG vF lC rfl S hl (by omega) (by omega)))<|sE ?_;clear H a;intro a H
  refine aJ H rfl S Bz ?_;clear H a S;intro b11 _ a hb11 hbw11 S H
  refine aD H S (i:=0) G G G G lC G G ?_
  clear H a S;intro _ a S H
  refine k18 _ _ ?_;clear k18 K18
  replace H:=H.keep [1,2,3,11,28,29,30] rfl
  refine aB fun K19 k19=>?_
  refine ls 5 H<|sd ((aC cN dI rfl S (i:=1) G G))<|sf rF rfl<|sl S 0 aF G G G<|sf rG rfl<|sl S 0 aF G G G<|sE ?_;clear H a;intro a H
  refine aY H rfl S aN aX eF G G G G G G G G G ?_;clear H a S;intro A1 _ a hA1 S H
  refine aA H G G Try.func43 G G (wE P ps PA pc xs XA xc [(l.getD k Prm.zero).fr,(l.getD k Prm.zero).to] _ _ _ ((ownM.inS S (i:=0) rfl).congr (fun k j hk hj=>zF k j hk hj)) (show 2≤9223372036854775807 by omega) (by omega)) ?_;clear H a
  rintro _ _ a ⟨rfl,S2⟩ H
  replace S:=S.call S2;clear S2
  refine ls 18 H<|sr 2 rfl<|sg 3 8 42 45 false G G (fun hg9=>by
      have hq9:=hg9;try simp only [o1,o2,o3,o4,o5,o6,o7,o8,o9,oa] at hq9
      exact sy hg9<|sf nJ rfl<|sy hg9<|sl S 1 aF G G G<|sy hg9<|sr 1 rfl<|sz 3 G G G)<|so G G G<|sr 1 rfl<|sg 5 13 47 52 false G G (fun hg14=>by
      have hq14:=hg14;try simp only [o1,o2,o3,o4,o5,o6,o7,o8,o9,oa] at hq14
      exact sy hg14<|sf lH rfl<|sy hg14<|sl S 1 aF G G G<|sy hg14<|sf nJ rfl<|sy hg14<|sl S 1 aF G G G<|sy hg14<|sr 1 rfl<|sz 5 G G G)<|so G G G<|sr 1 rfl<|sg 3 20 54 57 false G G (fun hg21=>by
      have hq21:=hg21;try simp only [o1,o2,o3,o4,o5,o6,o7,o8,o9,oa] at hq21
      exact sy hg21<|sf lH rfl<|sy hg21<|sl S 1 aF G G G<|sy hg21<|sr 1 rfl<|sz 3 G G G)<|so G G G<|sE ?_;clear H a;intro a H
  refine k19 _ _ ?_;clear k19 K19
  refine aQ H rfl (fun hc5=>?_) (fun hc5=>?_)
  ·skip
   try simp only [o1,o2,o3,o4,o5,o6,o7,o8,o9,oa] at hc5
   replace H:=H.keep [] rfl
   refine sS H fun K20 k20=>sr 4 rfl<|sE ?_;clear H a;intro a H
   refine k20 _ ?_;clear k20 K20
   refine wp_ret ?_
   refine ret4 (fn:=Try.f24) rfl H G G G G ?_
   have e9:=kB hdE (xQ (l:=l) (k:=k) (by omega) (Dr (by rcases hc5 with ((h|h)|h)|h;(have:=wF h;omega);omega;omega;omega)))
   rw [lQ (by rw [e9];decide),e9]
   exact ⟨rfl,(S.sel [] G G)⟩
  try simp only [o1,o2,o3,o4,o5,o6,o7,o8,o9,oa] at hc5
  refine wp_skip ?_
  refine k17 _ _ ?_
  refine sO H<|sd (aH G G (by unfold i64ok;omega))<|sr 1 rfl<|sE ?_;clear H a;intro a H
  exact k14 (g1-1) (k+1) a _ (by omega) (⟨by omega,by omega,bT hp.2.2 (mN.2 (by have h9:=uA.1 hc5.1.1.1;omega))⟩) (S.sel [2] G G) (H.keep [30,1,2,3,28,29] rfl)
 refine wp_exit ?_
 refine k12 _ _ ?_
 refine wp_seq_k fun K22 k22=>?_
 refine sS H fun K23 k23=>sr 1 rfl<|sL gO rfl<|sr 1 rfl<|sE ?_;clear H a;intro a H
 refine k23 _ ?_;clear k23 K23
 refine wp_block ?_
 have hpr:allN (fun k=>prmOk P (l.getD k Prm.zero)) l.length=true:=by rw [show l.length=k by omega];exact hp.2.2
 have hkE:=pB hdE (xR hpr (by omega))
 refine loop_st (X:=Nat) (R0:=_) [2,3,60,61] H rfl (fun h=>[(62,.int .i64 (h:Int))]) (fun h=>[]) (fun g h=>h≤day.length∧g+h=day.length∧∀ q,q<h→∀ j,j<l.length→dT P ps (day.getD q Hq.zero) q (l.getD j Prm.zero)=false) (day.length) 0 ?_ (S.sel [0] G G) (H.keep [62,2,3,60,61] rfl) ?_
 · exact ⟨by omega,by omega,fun q hq=>absurd hq (Nat.not_lt_zero q)⟩
 clear H S a
 intro g2 x2 a w2 hp S H K24 k24
 obtain ⟨h,rfl⟩:∃ y,y=x2:=⟨_,rfl⟩
 obtain ⟨hhl,hgh,hB⟩:=hp
 refine sS H fun K25 k25=>sr 1 rfl<|sE ?_;clear H a;intro a H
 refine k25 _ ?_;clear k25 K25
 refine wp_seq_k fun K26 k26=>?_
 refine condL H rfl (fun hc6=>?_) (fun hc6=>?_)
 ·skip
  have hdo:=hdk.2 h (by omega)
  refine wp_skip ?_
  refine k26 _ _ ?_
  refine wp_seq_k fun K27 k27=>?_
  refine wp_block ?_
  refine aB fun K28 k28=>?_
  refine ls 3 H<|sr 1 rfl<|si gO gL G G (hday.adr (by omega)) (by omega)<|sd ((bG vE gL rfl S hday (by omega) (by omega)))<|sE ?_;clear H a;intro a H
  refine aJ H rfl S pX ?_;clear H a S;intro b13 _ a hb13 hbw13 S H
  refine ls 1 H<|sr 1 rfl<|sE ?_;clear H a;intro a H
  refine aD H S (i:=0) G G G G gL G G ?_
  clear H a S;intro _ a S H
  refine k28 _ _ ?_;clear k28 K28
  replace H:=H.keep [2,3,12,13,60,61,62] rfl
  refine sS H fun K29 k29=>sr 1 rfl<|sL lD rfl<|sr 1 rfl<|sE ?_;clear H a;intro a H
  refine k29 _ ?_;clear k29 K29
  refine wp_block ?_
  refine loop_st (X:=Nat) (R0:=_) [2,3,12,13,60,61,62,67,68] H rfl (fun i=>[(69,.int .i64 (i:Int))]) (fun i=>[]) (fun g i=>i≤l.length∧g+i=l.length∧∀ j,j<i→dT P ps (day.getD h Hq.zero) h (l.getD j Prm.zero)=false) (l.length) 0 ?_ (S.sel [0,1] G G) (H.keep [69,2,3,12,13,60,61,62,67,68] rfl) ?_
  · exact ⟨by omega,by omega,fun q hq=>absurd hq (Nat.not_lt_zero q)⟩
  clear H S a
  intro g3 x3 a w3 hp S H K30 k30
  obtain ⟨i,rfl⟩:∃ y,y=x3:=⟨_,rfl⟩
  refine sS H fun K31 k31=>sr 1 rfl<|sE ?_;clear H a;intro a H
  refine k31 _ ?_;clear k31 K31
  refine wp_seq_k fun K32 k32=>?_
  refine condL H rfl (fun hc7=>?_) (fun hc7=>?_)
  ·skip
   have hpi:=mN.1 (bX.1 hpr i (by omega))
   refine wp_skip ?_
   refine k32 _ _ ?_
   refine wp_seq_k fun K33 k33=>?_
   refine wp_block ?_
   refine aB fun K34 k34=>?_
   refine ls 3 H<|sr 1 rfl<|si lD lC G G (hl.adr (by omega)) (by omega)<|sd ((bG vF lC rfl S hl (by omega) (by omega)))<|sE ?_;clear H a;intro a H
   refine aJ H rfl S Bz ?_;clear H a S;intro b15 _ a hb15 hbw15 S H
   refine ls 1 H<|sr 1 rfl<|sE ?_;clear H a;intro a H
   refine aD H S (i:=0) G G G G lC G G ?_
   clear H a S;intro _ a S H
   refine k34 _ _ ?_;clear k34 K34
   replace H:=H.keep [2,3,12,13,14,15,60,61,62,67,68,69] rfl
   refine aB fun K35 k35=>?_
   refine ls 5 H<|sr 1 rfl<|sf nJ rfl<|sl S 0 aF G G G<|sf lH rfl<|sl S 0 aF G G G<|sE ?_;clear H a;intro a H
   refine aA H G G Try.func41 G G (bS _ _ _ _) ?_;clear H a
   rintro _ _ a ⟨rfl,rfl⟩ H
   refine ls 1 H<|sr 1 rfl<|sE ?_;clear H a;intro a H
   apply bP (i:=6) (g:=80) (t:=96) (b:=true) 16 H S G G (by kernel_rfl) (by kernel_rfl) G G
   case h1=>
    intro hg7
    have hq7:=hg7;try simp only [o1,o2,o3,o4,o5,o6,o7,o8,o9,oa] at hq7
    refine ls 14 H<|sy hg7<|sd ((aC cN dI rfl S (i:=2) G G))<|sy hg7<|sf lG rfl<|sy hg7<|sl S 1 aF G G G<|sy hg7<|sf Fh rfl<|sy hg7<|sl S 1 lB G G G<|sy hg7<|sr 1 rfl<|sg 2 12 86 88 true G G (fun hg13=>by
        have hq13:=hg13;try simp only [o1,o2,o3,o4,o5,o6,o7,o8,o9,oa] at hq13
        exact sy hg13<|sf Fi rfl<|sy hg13<|sl S 0 lB G G G<|sz 2 G G G)<|sy hg7<|sa G G G<|sy hg7<|sd (aO Ih G G)<|sy hg7<|sf rF rfl<|sy hg7<|sl S 0 aF G G G<|sy hg7<|sf rG rfl<|sy hg7<|sl S 0 aF G G G<|sE ?_;intro a H
    refine cC H G G (by assumption) ?_
    refine aA H G G Try.func44 G G (rW P ps PA pc xs XA xc (day.getD h Hq.zero).out ((day.getD h Hq.zero).help&&(l.getD i Prm.zero).helped) (l.getD i Prm.zero).fr (l.getD i Prm.zero).to _ (hps.now S) hpn (hxs.now S) hxn hV hdo.1.1 (by omega) (by omega)) ?_
    rintro _ _ a ⟨rfl,hdj,S2⟩ H
    replace S:=S.call S2;clear S2
    refine ls 1 H<|sy hg7<|sr 1 rfl<|sE ?_;intro a H
    exact wpList_nil ⟨H.strip 15 G G,(S.sel [0,1,2] G G)⟩
   clear H a S;intro a _ H S
   refine ls 1 H<|sa G G G<|sE ?_;clear H a;intro a H
   refine k35 _ _ ?_;clear k35 K35
   refine aQ H rfl (fun hc8=>?_) (fun hc8=>?_)
   ·skip
    try simp only [o1,o2,o3,o4,o5,o6,o7,o8,o9,oa] at hc8
    replace H:=H.keep [12,14] rfl
    refine sS H fun K36 k36=>sr 6 rfl<|sE ?_;clear H a;intro a H
    refine k36 _ ?_;clear k36 K36
    refine wp_ret ?_
    refine ret4 (fn:=Try.f24) rfl H G G G G ?_
    rw [Gi hkE (by omega) (by omega) hB hp.2.2 (Ds hc8.1 (by omega))]
    exact ⟨rfl,(S.sel [] G G)⟩
   try simp only [o1,o2,o3,o4,o5,o6,o7,o8,o9,oa] at hc8
   refine wp_skip ?_
   refine k33 _ _ ?_
   refine sO H<|sd (aH G G (by unfold i64ok;omega))<|sr 1 rfl<|sE ?_;clear H a;intro a H
   exact k30 (g3-1) (i+1) a _ (by omega) (⟨by omega,by omega,Gj hp.2.2 (by rcases hc8 with h9|h9;exact zS (by omega);exact zT (by omega))⟩) (S.sel [1,2] rfl rfl) (H.keep [69,2,3,12,13,60,61,62,67,68] rfl)
  refine wp_exit ?_
  refine k27 _ _ ?_
  replace H:=H.keep [2,3,60,61,62] rfl
  refine sO H<|sd (aH G G (by unfold i64ok;omega))<|sr 1 rfl<|sE ?_;clear H a;intro a H
  exact k24 (g2-1) (h+1) a _ (by omega) (⟨by omega,by omega,zR hB hp.2.2 (by omega)⟩) (S.sel [1] G G) (H.keep [62,2,3,60,61] rfl)
 refine wp_exit ?_
 refine k22 _ _ ?_
 refine sS H fun K39 k39=>sr 4 rfl<|sE ?_;clear H a;intro a H
 refine k39 _ ?_;clear k39 K39
 refine wp_ret ?_
 refine ret4 (fn:=Try.f24) rfl H G G G G ?_
 obtain rfl:h=day.length:=by omega
 rw [Dq hkE hB]
 exact ⟨rfl,(S.sel [] G G)⟩
end
section
theorem xS {l:List Int} (h:∀ k,k<l.length→0≤l.getD k 0∧l.getD k 0≤1000):∀ k,k≤l.length→0≤sumI l k∧sumI l k≤1000*k:=by
  intro k
  induction k with
  | zero=>intro _;simp [sumI,sm]
  | succ k ih=>
    intro hk
    have h1:=ih (by omega)
    have h2:=h k (by omega)
    unfold sumI at *
    rw [sm]
    push_cast
    omega
theorem zV (P T:Nat) (ps:List Psg) (PA:Option Addr) (pc:Nat) (xs:List Int) (XA:Option Addr) (xc:Nat) (out:Int) (pe:List Int) (BA:Option Addr) (bc:Nat) (w:World) (hps:InS w noF 7 PA ps.length (pcell ps)) (hpn:ps.length≤9223372036854775807) (hxs:InS w noF 1 XA xs.length (icl xs)) (hxn:xs.length≤9223372036854775807) (hpe:InS w noF 1 BA pe.length (icl pe)) (hpl:pe.length=P) (hV:StV P ps xs) (hou:0≤out∧out≤4095) (hpp:∀ k,k<pe.length→0≤pe.getD k 0∧pe.getD k 0≤1000) (hT:T≤60) :
    Calls Try.prog 61 [.agg [.int .i64 (P:Int),.slice PA ps.length pc,.slice XA xs.length xc].toArray,.int .i64 out,.slice BA pe.length bc,.int .i64 (T:Int)].toArray w (Ret fun u w'=>∃ b31 EA A' c',u = .pointer (some ⟨b31,0,none⟩)∧St w noF [boxM b31 141 [.int .i64 (P:Int),.slice PA ps.length pc,.slice XA xs.length xc,.int .i64 (T:Int),.slice EA (layN P T pe xs (hds out xs ps)).k (layN P T pe xs (hds out xs ps)).k,.int .i64 (((P*(T+1)):Nat):Int),.int .i64 (((P*(T+1))+1:Nat):Int)],ownM 155 1 EA (layN P T pe xs (hds out xs ps)).k (layN P T pe xs (hds out xs ps)).k (hdc A' (layN P T pe xs (hds out xs ps)).n c'),ragM 157 7 (fun q=>q<(layN P T pe xs (hds out xs ps)).k) A' (layN P T pe xs (hds out xs ps)).n c' (edgeC (layN P T pe xs (hds out xs ps)) (layT P T pe xs (hds out xs ps)).room (layT P T pe xs (hds out xs ps)).mv)] w'):=by
  have h:=Dm P T ps PA pc xs XA xc out pe BA bc w hps hpn hxs hxn (fun k hk h3=>by have:=cO.1 (hV.pas k hk);omega) hou.1 hpe hpl (by have:=hV.size;omega) hT hV.size.2.2 (vT hV)
  refine mM h fun u w' ⟨b31,EA,A',c',h1,S⟩=>⟨b31,EA,A',c',h1,?_⟩
  rw [vQ (joins (jAll P T pe xs (hds out xs ps))) (P*(T+1)+2)] at S
  exact S
theorem Dt (pe:List Int) (BA:Option Addr) (bc:Nat) (w:World) (hpe:InS w noF 1 BA pe.length (icl pe)) (hpp:∀ k,k<pe.length→0≤pe.getD k 0∧pe.getD k 0≤1000) (hpn:pe.length≤1000) :
    Calls Try.prog 63 [.slice BA pe.length bc].toArray w (Ret (fun v w'=>v = .int .i64 (sumI pe pe.length)∧St w noF [] w')):=by
 refine enter Try.func63 rfl Try.ntmps63 rfl (fun a H=>?_)
 have S:=St.start w
 refine sS H fun K1 k1=>sr 1 rfl<|sE ?_;clear H a;intro a H
 refine k1 _ ?_;clear k1 K1
 refine sS H fun K2 k2=>sr 1 rfl<|sE ?_;clear H a;intro a H
 refine k2 _ ?_;clear k2 K2
 refine wp_seq_k fun K3 k3=>?_
 refine sS H fun K4 k4=>sr 1 rfl<|sL aN rfl<|sr 1 rfl<|sE ?_;clear H a;intro a H
 refine k4 _ ?_;clear k4 K4
 refine wp_block ?_
 refine loop_st (X:=Nat) (R0:=_) [6,7] H rfl (fun k=>[(3,.int .i64 (sumI pe k)),(8,.int .i64 (k:Int))]) (fun k=>[]) (fun g k=>k≤pe.length∧g+k=pe.length) (pe.length) 0 ?_ (S.sel [] G G) (H.keep [3,8,6,7] rfl) ?_
 · exact ⟨by omega,by omega⟩
 clear H S a
 intro g1 x1 a w1 hp S H K5 k5
 obtain ⟨k,rfl⟩:∃ y,y=x1:=⟨_,rfl⟩
 refine sS H fun K6 k6=>sr 1 rfl<|sE ?_;clear H a;intro a H
 refine k6 _ ?_;clear k6 K6
 refine wp_seq_k fun K7 k7=>?_
 refine condL H rfl (fun hc1=>?_) (fun hc1=>?_)
 ·skip
  refine wp_skip ?_
  refine k7 _ _ ?_
  refine wp_seq_k fun K8 k8=>?_
  refine wp_block ?_
  refine sS H fun K9 k9=>si aN aX G G (hpe.adr (by omega)) (by omega)<|slm aF rfl (hpe.rd S (by omega) (by omega))<|sr 1 rfl<|sE ?_;clear H a;intro a H
  refine k9 _ ?_;clear k9 K9
  have hsb:=xS hpp k (by omega);have hsk:=hpp k (by omega)
  refine sO H<|sr 2 rfl<|sd (aH G G (by unfold i64ok;omega))<|sr 1 rfl<|sE ?_;clear H a;intro a H
  refine k8 _ _ ?_
  replace H:=H.keep [3,6,7,8] rfl
  refine sO H<|sd (aH G G (by unfold i64ok;omega))<|sr 1 rfl<|sE ?_;clear H a;intro a H
  exact k5 (g1-1) (k+1) a _ (by omega) (⟨by omega,by omega⟩) (S.sel [] G G) (H.keep [3,8,6,7] rfl)
 refine wp_exit ?_
 refine k3 _ _ ?_
 refine sS H fun K12 k12=>sr 2 rfl<|sE ?_;clear H a;intro a H
 refine k12 _ ?_;clear k12 K12
 refine wp_ret ?_
 refine ret1 (fn:=Try.f63) rfl H rfl ?_
 have hk9:k=pe.length:=by omega
 subst hk9
 exact ⟨rfl,(S.sel [] G G)⟩
theorem Du (P T:Nat) (ps:List Psg) (PA:Option Addr) (pc:Nat) (xs:List Int) (XA:Option Addr) (xc:Nat) (out:Int) (pe:List Int) (BA:Option Addr) (bc:Nat) (w:World) (hps:InS w noF 7 PA ps.length (pcell ps)) (hpn:ps.length≤9223372036854775807) (hxs:InS w noF 1 XA xs.length (icl xs)) (hxn:xs.length≤9223372036854775807) (hpe:InS w noF 1 BA pe.length (icl pe)) (hpl:pe.length=P) (hV:StV P ps xs) (hou:0≤out∧out≤4095) (hpp:∀ k,k<pe.length→0≤pe.getD k 0∧pe.getD k 0≤1000) (hT:T≤60) :
    Calls Try.prog 42 [.agg [.int .i64 (P:Int),.slice PA ps.length pc,.slice XA xs.length xc].toArray,.int .i64 out,.slice BA pe.length bc,.int .i64 (T:Int)].toArray w (Ret (fun u w'=>u = .bool (decide (mfv P T pe xs (hds out xs ps)=sumI pe pe.length))∧St w noF [] w')):=by
 have hO9:=Im (T:=T) (out:=out) hV hpp
 have hC:P*(T+1)≤10*61:=Nat.mul_le_mul (by have:=hV.size;omega) (by omega)
 refine enter Try.func42 rfl Try.ntmps42 rfl (fun a H=>?_)
 have S:=St.start w
 refine aB fun K1 k1=>?_
 refine aS H rfl S G G ?_;clear H a S;intro b4 _ a hb4 hbw4 S H
 refine ls 1 H<|sr 1 rfl<|sE ?_;clear H a;intro a H
 refine k1 _ _ ?_;clear k1 K1
 replace H:=H.keep [1,2,3,4] rfl
 refine aB fun K2 k2=>?_
 refine ls 4 H<|sd ((aC cN dI rfl S (i:=0) G G))<|sr 3 rfl<|sE ?_;clear H a;intro a H
 refine aA H G G Try.func61 G G (zV P T ps PA pc xs XA xc out pe BA bc _ (hps.now S) hpn (hxs.now S) hxn (hpe.now S) hpl hV hou hpp hT) ?_;clear H a
 rintro _ _ a ⟨b31,EA,A',c',rfl,S2⟩ H
 replace S:=S.call S2;clear S2
 have S1:=(S.sel [0,1,2] G G)
 refine aA H G G Try.func62 G G (De (layN P T pe xs (hds out xs ps)) (layT P T pe xs (hds out xs ps)).room (layT P T pe xs (hds out xs ps)).mv b31 (P:Int) (T:Int) _ _ EA A' c' (P*(T+1)) ((P*(T+1))+1) _ _ S1.startR hO9.wf hO9.ok (by show _<P*(T+1)+2;omega) (by show _<P*(T+1)+2;omega) (by omega) (by show P*(T+1)+2≤_;omega) (by have:=hO9.beg;have:=hV.size;omega)) ?_;clear H a
 rintro _ _ a ⟨v,r,rfl,hF,h0v,⟨L,hLv,hLx⟩,S2⟩ H
 replace S:=(S.sel [0,1,2,3] G G).callR (M:=[_,_,_]) S2;clear S1 S2
 refine ls 1 H<|sr 1 rfl<|sE ?_;clear H a;intro a H
 refine aA H G G Try.func63 G G (Dt pe BA bc _ (hpe.now S) hpp (by have:=hV.size;omega)) ?_;clear H a
 rintro _ _ a ⟨rfl,S2⟩ H
 replace S:=S.call S2;clear S2
 refine ls 2 H<|sr 2 rfl<|sE ?_;clear H a;intro a H
 refine k2 _ _ ?_;clear k2 K2
 refine wp_ret ?_
 refine ret1 (fn:=Try.f42) rfl H rfl ?_
 have hE:EndP P T pe xs (hds out xs ps) v r L:=⟨hF,h0v,hLv,hLx⟩
 rw [Io hO9 hE]
 exact ⟨rfl,(S.sel [] G G)⟩
end
section
noncomputable def allB (P T:Nat) (ps:List Psg) (xs:List Int) (out:Int) (pe:List Int):Bool:=decide (mfv P T pe xs (hds out xs ps)=sumI pe pe.length)
noncomputable def safeN (P T:Nat) (ps:List Psg) (xs:List Int) (day:List Hq):Nat:=fstB (fun k=>!allB P T ps xs (day.getD k Hq.zero).out (day.getD k Hq.zero).pe) day.length
noncomputable def safeV (pl:Int) (ps:List Psg) (xs:List Int) (day:List Hq) (T0:Int):Int×Bool×Int:=
  if dayE pl ps xs day≠0 then (0,false,dayE pl ps xs day) else if ¬ (0≤T0∧T0≤60) then (0,false,1)
  else if safeN pl.toNat T0.toNat ps xs day<day.length then ((safeN pl.toNat T0.toNat ps xs day:Int),false,0) else (0,true,0)
section
variable {P T:Nat} {ps:List Psg} {xs:List Int} {day:List Hq} {h:Nat}
theorem uD {pl T0:Int} (he:dayE pl ps xs day≠0):safeV pl ps xs day T0=(0,false,dayE pl ps xs day):=by unfold safeV;rw [if_pos he]
theorem Dv {pl T0:Int} (he:dayE pl ps xs day=0) (hT:¬ (0≤T0∧T0≤60)):safeV pl ps xs day T0=(0,false,1):=by unfold safeV;rw [if_neg (by omega),if_pos hT]
theorem Gk (he:dayE P ps xs day=0) (hT:T≤60) (hh:h<day.length) (h1:∀ q,q<h→allB P T ps xs (day.getD q Hq.zero).out (day.getD q Hq.zero).pe=true) (h2:allB P T ps xs (day.getD h Hq.zero).out (day.getD h Hq.zero).pe=false):safeV P ps xs day T=((h:Int),false,0):=by
  have e2:safeN P T ps xs day=h:=vW (fun q hq=>by rw [h1 q hq];rfl) (by rw [h2];rfl) hh
  unfold safeV
  rw [if_neg (by omega),if_neg (by omega),Int.toNat_natCast,Int.toNat_natCast,e2,if_pos hh]
theorem Dw (he:dayE P ps xs day=0) (hT:T≤60) (h1:∀ q,q<day.length→allB P T ps xs (day.getD q Hq.zero).out (day.getD q Hq.zero).pe=true):safeV P ps xs day T=(0,true,0):=by
  have e2:safeN P T ps xs day=day.length:=iE (fun q hq=>by rw [h1 q hq];rfl)
  unfold safeV
  rw [if_neg (by omega),if_neg (by omega),Int.toNat_natCast,Int.toNat_natCast,e2,if_neg (by omega)]
theorem zW {f:Nat→Bool} (h1:∀ q,q<h→f q=true) (h2:f h=true):∀ q,q<h+1→f q=true:=fun q hq=>by
  by_cases e:q=h
  · subst e;exact h2
  · exact h1 q (by omega)
end
section
variable {P:Nat} {ps:List Psg} {xs:List Int} {out:Int} {f:Nat→Bool}
end
end
section
theorem zX (pl:Int) (ps:List Psg) (PA:Option Addr) (pc:Nat) (xs:List Int) (XA:Option Addr) (xc:Nat) (day:List Hq) (HA:Option Addr) (hcp:Nat) (DA:Nat→Option Addr) (dc:Nat→Nat) (T0:Int) (w:World) (hps:InS w noF 7 PA ps.length (pcell ps)) (hpn:ps.length≤9223372036854775807) (hxs:InS w noF 1 XA xs.length (icl xs)) (hxn:xs.length≤9223372036854775807) (hday:InS w noF 3 HA day.length (hcl day DA dc)) (hdn:day.length≤9223372036854775807) (hdp:∀ k,k<day.length→InS w noF 1 (DA k) (day.getD k Hq.zero).pe.length (icl (day.getD k Hq.zero).pe)) (hdl:∀ k,k<day.length→(day.getD k Hq.zero).pe.length≤9223372036854775807) :
    Calls Try.prog 23 [.agg [.int .i64 pl,.slice PA ps.length pc,.slice XA xs.length xc].toArray,.slice HA day.length hcp,.int .i64 T0].toArray w (Ret (fun u w'=>u = .tuple #[.int .i64 (safeV pl ps xs day T0).1,.bool (safeV pl ps xs day T0).2.1,.int .i64 (safeV pl ps xs day T0).2.2]∧St w noF [] w')):=by
 refine enter Try.func23 rfl Try.ntmps23 rfl (fun a H=>?_)
 have S:=St.start w
 refine aB fun K1 k1=>?_
 refine aS H rfl S G G ?_;clear H a S;intro b3 _ a hb3 hbw3 S H
 refine ls 3 H<|sr 3 rfl<|sE ?_;clear H a;intro a H
 refine k1 _ _ ?_;clear k1 K1
 refine wp_seq_k fun K2 k2=>?_
 refine aB fun K3 k3=>?_
 refine ls 1 H<|sd ((aC cN dI rfl S (i:=0) G G))<|sE ?_;clear H a;intro a H
 refine aA H G G Try.func39 G G (oW pl ps PA pc xs XA xc _ (hps.now S) hpn (hxs.now S) hxn) ?_;clear H a
 rintro _ _ a ⟨rfl,S2⟩ H
 replace S:=S.call S2;clear S2
 refine ls 1 H<|sr 1 rfl<|sE ?_;clear H a;intro a H
 refine k3 _ _ ?_;clear k3 K3
 refine sS H fun K4 k4=>sr 2 rfl<|sE ?_;clear H a;intro a H
 refine k4 _ ?_;clear k4 K4
 refine condN H rfl (fun hc1=>?_) (fun hc1=>?_)
 ·skip
  replace H:=H.keep [8] rfl
  refine sS H fun K5 k5=>sr 4 rfl<|sE ?_;clear H a;intro a H
  refine k5 _ ?_;clear k5 K5
  refine wp_ret ?_
  refine ret3 (fn:=Try.f23) rfl H G G G ?_
  have e9:dayE pl ps xs day=stE pl ps xs:=by unfold dayE;rw [if_pos hc1]
  rw [uD (by rw [e9];exact hc1),e9]
  exact ⟨rfl,(S.sel [] G G)⟩
 have hst:stE pl ps xs=0:=by omega
 have hV0:=oI hst
 obtain ⟨P,rfl⟩:∃ P:Nat,pl=P:=⟨pl.toNat,by have:=hV0.size;omega⟩
 have hV:=hV0
 have hP10:=hV.size
 refine wp_skip ?_
 refine k2 _ _ ?_
 refine wp_seq_k fun K6 k6=>?_
 refine aB fun K7 k7=>?_
 refine ls 2 H<|sd ((aC cN dI rfl S (i:=0) G G))<|sr 1 rfl<|sE ?_;clear H a;intro a H
 refine aA H G G Try.func40 G G (pD P ps PA pc xs XA xc day HA hcp DA dc _ (hps.now S) hpn (hxs.now S) hxn (hday.now S) hdn (fun k hk=>(hdp k hk).now S) hdl) ?_;clear H a
 rintro _ _ a ⟨rfl,S2⟩ H
 replace S:=S.call S2;clear S2
 refine ls 1 H<|sr 1 rfl<|sE ?_;clear H a;intro a H
 refine k7 _ _ ?_;clear k7 K7
 refine aQ H rfl (fun hc2=>?_) (fun hc2=>?_)
 ·skip
  try simp only [o1,o2,o3,o4,o5,o6,o7,o8,o9,oa] at hc2
  replace H:=H.keep [] rfl
  refine sS H fun K8 k8=>sr 3 rfl<|sE ?_;clear H a;intro a H
  refine k8 _ ?_;clear k8 K8
  refine wp_ret ?_
  refine ret3 (fn:=Try.f23) rfl H G G G ?_
  have e9:dayE P ps xs day=81:=by unfold dayE;rw [if_neg (by omega),if_neg (by rw [hc2];simp)]
  rw [uD (by rw [e9];decide),e9]
  exact ⟨rfl,(S.sel [] G G)⟩
 try simp only [o1,o2,o3,o4,o5,o6,o7,o8,o9,oa] at hc2
 have hdE:=mO hst hc2
 have hdk:=oX hc2
 refine wp_skip ?_
 refine k6 _ _ ?_
 refine wp_seq_k fun K9 k9=>?_
 refine sS H fun K10 k10=>sr 1 rfl<|sc rfl Try.func41 G G (bS _ _ _ _)<|sr 1 rfl<|sE ?_;clear H a;intro a H
 refine k10 _ ?_;clear k10 K10
 refine aQ H rfl (fun hc3=>?_) (fun hc3=>?_)
 ·skip
  try simp only [o1,o2,o3,o4,o5,o6,o7,o8,o9,oa] at hc3
  refine sS H fun K11 k11=>sr 3 rfl<|sE ?_;clear H a;intro a H
  refine k11 _ ?_;clear k11 K11
  refine wp_ret ?_
  refine ret3 (fn:=Try.f23) rfl H G G G ?_
  rw [Dv hdE (by omega)]
  exact ⟨rfl,(S.sel [] G G)⟩
 try simp only [o1,o2,o3,o4,o5,o6,o7,o8,o9,oa] at hc3
 obtain ⟨T,rfl⟩:∃ T:Nat,T0=T:=⟨T0.toNat,by omega⟩
 have hT:T≤60:=by omega
 refine wp_skip ?_
 refine k9 _ _ ?_
 refine wp_seq_k fun K12 k12=>?_
 replace H:=H.keep [1,2,3] rfl
 refine sS H fun K13 k13=>sr 1 rfl<|sL gO rfl<|sr 1 rfl<|sE ?_;clear H a;intro a H
 refine k13 _ ?_;clear k13 K13
 refine wp_block ?_
 refine loop_st (X:=Nat) (R0:=_) [2,3,23,24] H rfl (fun k=>[(25,.int .i64 (k:Int))]) (fun k=>[]) (fun g k=>k≤day.length∧g+k=day.length∧∀ q,q<k→allB P T ps xs (day.getD q Hq.zero).out (day.getD q Hq.zero).pe=true) (day.length) 0 ?_ (S.sel [0] G G) (H.keep [25,2,3,23,24] rfl) ?_
 · exact ⟨by omega,by omega,fun q hq=>absurd hq (Nat.not_lt_zero q)⟩
 clear H S a
 intro g1 x1 a w1 hp S H K14 k14
 obtain ⟨k,rfl⟩:∃ y,y=x1:=⟨_,rfl⟩
 refine sS H fun K15 k15=>sr 1 rfl<|sE ?_;clear H a;intro a H
 refine k15 _ ?_;clear k15 K15
 refine wp_seq_k fun K16 k16=>?_
 refine condL H rfl (fun hc4=>?_) (fun hc4=>?_)
 ·skip
  refine wp_skip ?_
  refine k16 _ _ ?_
  refine wp_seq_k fun K17 k17=>?_
  refine wp_block ?_
  refine aB fun K18 k18=>?_
  refine ls 3 H<|sr 1 rfl<|si gO gL G G (hday.adr (by omega)) (by omega)<|sd ((bG vE gL rfl S hday (by omega) (by omega)))<|sE ?_;clear H a;intro a H
  refine aJ H rfl S pX ?_;clear H a S;intro b10 _ a hb10 hbw10 S H
  refine ls 1 H<|sr 1 rfl<|sE ?_;clear H a;intro a H
  refine aD H S (i:=0) G G G G gL G G ?_
  clear H a S;intro _ a S H
  refine k18 _ _ ?_;clear k18 K18
  have hdo:=hdk.2 k (by omega)
  obtain ⟨hpp,hpl⟩:=tP hdo.2
  replace H:=H.keep [2,3,9,10,23,24,25] rfl
  refine aB fun K19 k19=>?_
  refine ls 6 H<|sd ((aC cN dI rfl S (i:=1) G G))<|sf lG rfl<|sl S 0 aF G G G<|sf rE rfl<|sl S 0 aZ G G G<|sr 1 rfl<|sE ?_;clear H a;intro a H
  refine aA H G G Try.func42 G G (Du P T ps PA pc xs XA xc (day.getD k Hq.zero).out (day.getD k Hq.zero).pe (DA k) (dc k) _ (hps.now S) hpn (hxs.now S) hxn ((hdp k (by omega)).now S) (by omega) hV hdo.1 hpp hT) ?_;clear H a
  rintro _ _ a ⟨rfl,S2⟩ H
  replace S:=S.call S2;clear S2
  refine ls 1 H<|sr 1 rfl<|sE ?_;clear H a;intro a H
  refine k19 _ _ ?_;clear k19 K19
  refine aQ H rfl (fun hc5=>?_) (fun hc5=>?_)
  ·skip
   try simp only [o1,o2,o3,o4,o5,o6,o7,o8,o9,oa] at hc5
   replace H:=H.keep [9] rfl
   refine sS H fun K20 k20=>sr 4 rfl<|sE ?_;clear H a;intro a H
   refine k20 _ ?_;clear k20 K20
   refine wp_ret ?_
   refine ret3 (fn:=Try.f23) rfl H G G G ?_
   rw [Gk hdE hT (by omega) hp.2.2 (decide_eq_false hc5)]
   exact ⟨rfl,(S.sel [] G G)⟩
  try simp only [o1,o2,o3,o4,o5,o6,o7,o8,o9,oa] at hc5
  refine wp_skip ?_
  refine k17 _ _ ?_
  refine sO H<|sd (aH G G (by unfold i64ok;omega))<|sr 1 rfl<|sE ?_;clear H a;intro a H
  exact k14 (g1-1) (k+1) a _ (by omega) (⟨by omega,by omega,zW (f:=fun q=>allB P T ps xs (day.getD q Hq.zero).out (day.getD q Hq.zero).pe) hp.2.2 (decide_eq_true hc5)⟩) (S.sel [1] G G) (H.keep [25,2,3,23,24] rfl)
 refine wp_exit ?_
 refine k12 _ _ ?_
 refine sS H fun K22 k22=>sr 3 rfl<|sE ?_;clear H a;intro a H
 refine k22 _ ?_;clear k22 K22
 refine wp_ret ?_
 refine ret3 (fn:=Try.f23) rfl H G G G ?_
 obtain rfl:k=day.length:=by omega
 rw [Dw hdE hT hp.2.2]
 exact ⟨rfl,(S.sel [] G G)⟩
end
section
def MList (ps:List Psg) (k:Nat) (ml:List Int):Prop:=ml.length≤k∧∀ m,0≤m→(hasI ml m=true↔¬ cntM ps m k=0)
theorem MList.nil {ps:List Psg}:MList ps 0 []:=⟨Nat.le_refl 0,fun m _=>by
  constructor
  · intro h;cases h
  · intro h;exact absurd rfl h⟩
theorem qL {ps:List Psg} {m:Int} {k:Nat}:cntM ps m (k+1)=cntM ps m k+(if bO ps k=m then 1 else 0):=rfl
theorem zY {l:List Int} {x m:Int}:hasI (l++[x]) m=(hasI l m||decide (m=x)):=by unfold hasI;rw [List.any_append];simp
theorem MList.add {ps:List Psg} {k:Nat} {ml:List Int} (h:MList ps k ml):MList ps (k+1) (ml++[bO ps k]):=⟨by rw [List.length_append];have:=h.1;simp;omega,fun m hm=>by
  have h1:=h.2 m hm
  have h2:=xA (ps:=ps) (m:=m) (k:=k)
  rw [zY,qL,Bool.or_eq_true,decide_eq_true_eq,h1]
  by_cases e:bO ps k=m
  · rw [if_pos e];exact ⟨fun _=>by omega,fun _ => .inr e.symm⟩
  · rw [if_neg e,Int.add_zero];exact ⟨fun g=>g.resolve_right (fun g=>e g.symm),.inl⟩⟩
theorem MList.skip {ps:List Psg} {k:Nat} {ml:List Int} (h:MList ps k ml) (hk:bO ps k<0):MList ps (k+1) ml:=⟨by have:=h.1;omega,fun m hm=>by
  rw [qL,if_neg (by omega),Int.add_zero]
  exact h.2 m hm⟩
theorem MList.fresh {ps:List Psg} {k:Nat} {ml:List Int} (h:MList ps k ml) (h0:0≤(ps.getD k Psg.zero).mach) (hh:hasI ml (ps.getD k Psg.zero).mach=false):cntM ps (bO ps k) k=0:=by
  have h9:=h.2 _ h0
  rw [hh] at h9
  have h8:bO ps k=(ps.getD k Psg.zero).mach:=rfl
  rw [h8]
  simp only [Bool.false_eq_true,false_iff] at h9
  omega
theorem lR {pl:Int} {ps:List Psg} {k:Nat} (h:psgOk pl (ps.getD k Psg.zero)=true) (hz:cntM ps (bO ps k) k=0):pasOk pl ps k=true:=by unfold pasOk;rw [h,decide_eq_true (.inr hz)];rfl
theorem lS {pl:Int} {ps:List Psg} {k:Nat} (h:psgOk pl (ps.getD k Psg.zero)=true) (hz:(ps.getD k Psg.zero).mach<0):pasOk pl ps k=true:=by unfold pasOk;rw [h,decide_eq_true (.inl hz)];rfl
theorem Gl {pl:Int} {ps:List Psg} {k:Nat} {ml:List Int} (hM:MList ps k ml) (hc:((ps.getD k Psg.zero).mach<0∨11<(ps.getD k Psg.zero).mach)∨hasI ml (ps.getD k Psg.zero).mach=true) (hk:(ps.getD k Psg.zero).kind=3∨(ps.getD k Psg.zero).kind=4):pasOk pl ps k=false:=by
  unfold pasOk
  rw [Bool.and_eq_false_iff]
  by_cases h0:0≤(ps.getD k Psg.zero).mach∧(ps.getD k Psg.zero).mach≤11
  · refine .inr (decide_eq_false ?_)
    have h9:=hM.2 _ h0.1
    have h8:bO ps k=(ps.getD k Psg.zero).mach:=rfl
    rw [h8]
    rcases hc with h7|h7
    · omega
    · rw [h7] at h9
      simp only [true_iff] at h9
      omega
  · exact .inl (dQ (by omega))
theorem Gm {pl:Int} {xs:List Int} {k:Nat} (h:(0≤xs.getD k 0∧xs.getD k 0≤pl-1)∧(k=0∨xs.getD (k-1) 0<xs.getD k 0)):exOk pl xs k=true:=by unfold exOk;rw [decide_eq_true_eq];omega
theorem Gn {pl:Int} {xs:List Int} {k:Nat} (h:¬ ((0≤xs.getD k 0∧xs.getD k 0≤pl-1)∧(k=0∨xs.getD (k-1) 0<xs.getD k 0))):exOk pl xs k=false:=by unfold exOk;rw [decide_eq_false_iff_not];omega
theorem wG {l:List Int} {x:Int} {v:Value} (hv:v = .int .i64 x):∀ k j,k<l.length+1→j<1→capp l.length (icl l) (fun k' j=>([[v]].getD k' []).getD j undef) k j=icl (l++[x]) k j:=by
  intro k j hk hj
  have:j=0:=by omega
  subst this
  subst hv
  unfold capp icl
  by_cases h:k<l.length
  · rw [if_pos h,List.getD_eq_getElem?_getD,List.getD_eq_getElem?_getD,List.getElem?_append_left h]
  · have e:k=l.length:=by omega
    subst e
    rw [if_neg h,Nat.sub_self,List.getD_eq_getElem?_getD,List.getElem?_append_right (Nat.le_refl _),Nat.sub_self]
    rfl
theorem bQ (n lo hi:Int) (w:World) :
    Calls Try.prog 16 [.int .i64 n,.int .i64 lo,.int .i64 hi].toArray w (Ret (fun v w'=>v = .bool (decide (lo≤n)&&decide (n≤hi))∧w'=w)):=by
 refine enter Try.func16 rfl Try.ntmps16 rfl (fun a H=>?_)
 have S:=St.start w
 refine sS H fun K1 k1=>sr 1 rfl<|sE ?_;clear H a;intro a H
 refine k1 _ ?_;clear k1 K1
 replace H:=H.keep [0,1,2] rfl
 refine sS H fun K2 k2=>sr 4 rfl<|sg 3 3 10 13 true G G (fun hg4=>sy hg4<|sr 1 rfl<|sy hg4<|sr 1 rfl<|sy hg4<|sr 1 rfl<|sz 3 G G G)<|sa G G G<|sr 1 rfl<|sE ?_;clear H a;intro a H
 refine k2 _ ?_;clear k2 K2
 refine wp_ret ?_
 refine ret1 (fn:=Try.f16) rfl H rfl ?_
 exact ⟨rfl,rfl⟩
theorem rX (n:Int) (w:World) :
    Calls Try.prog 14 [.int .i64 n].toArray w (Ret (fun v w'=>v = .bool (decide (0≤n)&&decide (n≤4095))∧w'=w)):=by
 refine enter Try.func14 rfl Try.ntmps14 rfl (fun a H=>?_)
 have S:=St.start w
 refine sS H fun K1 k1=>sr 1 rfl<|sE ?_;clear H a;intro a H
 refine k1 _ ?_;clear k1 K1
 refine sS H fun K2 k2=>sr 1 rfl<|sc rfl Try.func16 G G (bQ _ _ _ _)<|sr 1 rfl<|sE ?_;clear H a;intro a H
 refine k2 _ ?_;clear k2 K2
 refine wp_ret ?_
 refine ret1 (fn:=Try.f14) rfl H rfl ?_
 exact ⟨rfl,rfl⟩
theorem Gp (l:List Int) (A:Option Addr) (cp:Nat) (x:Int) (w:World) (hl:InS w noF 1 A l.length (icl l)) (hn:l.length≤9223372036854775807) :
    Calls Try.prog 33 [.slice A l.length cp,.int .i64 x].toArray w (Ret (fun u w'=>u = .bool (hasI l x)∧St w noF [] w')):=by
 refine enter Try.func33 rfl Try.ntmps33 rfl (fun a H=>?_)
 have S:=St.start w
 refine sS H fun K1 k1=>sr 1 rfl<|sE ?_;clear H a;intro a H
 refine k1 _ ?_;clear k1 K1
 refine wp_seq_k fun K2 k2=>?_
 refine sS H fun K3 k3=>sr 1 rfl<|sE ?_;clear H a;intro a H
 refine k3 _ ?_;clear k3 K3
 refine wp_block ?_
 refine loop_st (X:=Nat) (R0:=_) [0,1] H rfl (fun k=>[(5,.int .i64 (k:Int))]) (fun k=>[]) (fun g k=>k≤l.length∧g+k=l.length∧(l.take k).any (fun y=>decide (x=y))=false) (l.length) 0 ?_ (S.sel [] G G) (H.keep [5,0,1] rfl) ?_
 · exact ⟨by omega,by omega,rfl⟩
 clear H S a
 intro g1 x1 a w1 hp S H K4 k4
 obtain ⟨k,rfl⟩:∃ y,y=x1:=⟨_,rfl⟩
 refine wp_seq_k fun K5 k5=>?_
 refine sS H fun K6 k6=>sr 2 rfl<|sL aN rfl<|sr 1 rfl<|sE ?_;clear H a;intro a H
 refine k6 _ ?_;clear k6 K6
 refine condL H rfl (fun hc1=>?_) (fun hc1=>?_)
 ·skip
  refine wp_skip ?_
  refine k5 _ _ ?_
  refine wp_seq_k fun K7 k7=>?_
  refine wp_block ?_
  replace H:=H.keep [0,1,5] rfl
  refine sS H fun K8 k8=>sr 2 rfl<|si aN aX G G (hl.adr (by omega)) (by omega)<|slm aF rfl (hl.rd S (by omega) (by omega))<|sr 2 rfl<|sE ?_;clear H a;intro a H
  refine k8 _ ?_;clear k8 K8
  refine condE H rfl (fun hc2=>?_) (fun hc2=>?_)
  ·skip
   refine sS H fun K9 k9=>sr 1 rfl<|sE ?_;clear H a;intro a H
   refine k9 _ ?_;clear k9 K9
   refine wp_ret ?_
   refine ret1 (fn:=Try.f33) rfl H rfl ?_
   exact ⟨by rw [Dh (k:=k) (by omega) (by omega)],(S.sel [] G G)⟩
  refine wp_skip ?_
  refine k7 _ _ ?_
  replace H:=H.keep [0,1,5] rfl
  refine sO H<|sr 1 rfl<|sd (aH G G (by unfold i64ok;omega))<|sr 1 rfl<|sE ?_;clear H a;intro a H
  exact k4 (g1-1) (k+1) a _ (by omega) (⟨by omega,by omega,tX (by omega) hp.2.2 (by omega)⟩) (S.sel [] G G) (H.keep [5,0,1] rfl)
 refine wp_exit ?_
 refine k2 _ _ ?_
 refine sS H fun K11 k11=>sr 1 rfl<|sE ?_;clear H a;intro a H
 refine k11 _ ?_;clear k11 K11
 refine wp_ret ?_
 refine ret1 (fn:=Try.f33) rfl H rfl ?_
 exact ⟨by unfold hasI;rw [←List.take_of_length_le (l:=l) (i:=k) (by omega),hp.2.2],(S.sel [] G G)⟩
theorem mZ (pl:Int) (ps:List Psg) (PA:Option Addr) (pc:Nat) (xs:List Int) (XA:Option Addr) (xc:Nat) (w:World) (hps:InS w noF 7 PA ps.length (pcell ps)) (hpn:ps.length≤9223372036854775807) (hxs:InS w noF 1 XA xs.length (icl xs)) (hxn:xs.length≤9223372036854775807) :
    Calls Try.prog 13 [.agg [.int .i64 pl,.slice PA ps.length pc,.slice XA xs.length xc].toArray].toArray w (Ret (fun v w'=>v = .int .i64 (stE pl ps xs)∧St w noF [] w')):=by
 refine enter Try.func13 rfl Try.ntmps13 rfl (fun a H=>?_)
 have S:=St.start w
 refine aB fun K1 k1=>?_
 refine aS H rfl S G G ?_;clear H a S;intro b1 _ a hb1 hbw1 S H
 refine ls 1 H<|sr 1 rfl<|sE ?_;clear H a;intro a H
 refine k1 _ _ ?_;clear k1 K1
 refine wp_seq_k fun K2 k2=>?_
 replace H:=H.keep [1] rfl
 refine sS H fun K3 k3=>sf cS rfl<|sl S 0 aF G G G<|sc rfl Try.func16 G G (bQ _ _ _ _)<|sr 2 rfl<|sg 4 4 11 15 false G G (fun hg5=>by
     have hq5:=hg5;try simp only [o1,o2,o3,o4,o5,o6,o7,o8,o9,oa] at hq5
     exact sy hg5<|sf fU rfl<|sy hg5<|sl S 0 iO G G G<|sy hg5<|sL iU rfl<|sy hg5<|sr 1 rfl<|sz 4 G G G)<|so G G G<|sE ?_;clear H a;intro a H
 refine k3 _ ?_;clear k3 K3
 refine aQ H rfl (fun hc1=>?_) (fun hc1=>?_)
 ·skip
  try simp only [o1,o2,o3,o4,o5,o6,o7,o8,o9,oa] at hc1
  replace H:=H.keep [] rfl
  refine sS H fun K4 k4=>sr 1 rfl<|sE ?_;clear H a;intro a H
  refine k4 _ ?_;clear k4 K4
  refine wp_ret ?_
  refine ret1 (fn:=Try.f13) rfl H rfl ?_
  exact ⟨congrArg _ (xB (by omega)).symm,(S.sel [] G G)⟩
 try simp only [o1,o2,o3,o4,o5,o6,o7,o8,o9,oa] at hc1
 refine wp_skip ?_
 refine k2 _ _ ?_
 refine sS H fun K5 k5=>sr 1 rfl<|sE ?_;clear H a;intro a H
 refine k5 _ ?_;clear k5 K5
 refine wp_seq_k fun K6 k6=>?_
 refine sS H fun K7 k7=>sr 1 rfl<|sE ?_;clear H a;intro a H
 refine k7 _ ?_;clear k7 K7
 refine wp_block ?_
 replace S:=S.newNil 3 1 (icl [])
 refine loop_st (X:=Nat×List Int×Option Addr×Nat) (R0:=_) [1] H rfl (fun ⟨k,ml,A9,c9⟩=>[(3,.slice A9 ml.length c9),(4,.int .i64 (k:Int))]) (fun ⟨k,ml,A9,c9⟩=>[ownM 3 1 A9 ml.length c9 (icl ml)]) (fun g ⟨k,ml,A9,c9⟩=>k≤ps.length∧g+k=ps.length∧allN (pasOk pl ps) k=true∧MList ps k ml) (ps.length) (0,[],none,0) ?_ (S.sel [0,1] G G) (H.keep [3,4,1] rfl) ?_
 · exact ⟨by omega,by omega,rfl,MList.nil⟩
 clear H S a
 intro g1 x1 a w1 hp S H K8 k8
 obtain ⟨k,ml,A9,c9⟩:=x1
 dsimp only at hp S H
 obtain ⟨hkl,hgk,hA,hM⟩:=hp
 refine wp_seq_k fun K9 k9=>?_
 refine sS H fun K10 k10=>sr 1 rfl<|sf fU rfl<|sl S 1 iO G G G<|sL iU rfl<|sr 1 rfl<|sE ?_;clear H a;intro a H
 refine k10 _ ?_;clear k10 K10
 refine condL H rfl (fun hc2=>?_) (fun hc2=>?_)
 ·skip
  refine wp_skip ?_
  refine k9 _ _ ?_
  refine wp_seq_k fun K11 k11=>?_
  refine wp_block ?_
  replace H:=H.keep [1,3,4] rfl
  refine aB fun K12 k12=>?_
  refine ls 5 H<|sf fU rfl<|sl S 1 iO G G G<|sr 1 rfl<|si iU gM G G (hps.adr (by omega)) (by omega)<|sd ((bG mF gM rfl S hps (by omega) (by omega)))<|sE ?_;clear H a;intro a H
  refine aJ H rfl S wX ?_;clear H a S;intro b5 _ a hb5 hbw5 S H
  refine aD H S (i:=0) G G G G gM G G ?_
  clear H a S;intro _ a S H
  refine k12 _ _ ?_;clear k12 K12
  refine wp_seq_k fun K13 k13=>?_
  replace H:=H.keep [1,3,4,5] rfl
  refine sS H fun K14 k14=>sf fL rfl<|sl S 0 aF G G G<|sf cS rfl<|sl S 2 aF G G G<|sd (bK G G (by unfold i64ok;omega))<|sc rfl Try.func16 G G (bQ _ _ _ _)<|sr 2 rfl<|sg 7 7 36 43 false G G (fun hg8=>by
      have hq8:=hg8;try simp only [o1,o2,o3,o4,o5,o6,o7,o8,o9,oa] at hq8
      exact sy hg8<|sf fM rfl<|sy hg8<|sl S 0 aF G G G<|sy hg8<|sf cS rfl<|sy hg8<|sl S 2 aF G G G<|sy hg8<|sd (bK G G (by unfold i64ok;omega))<|sy hg8<|sc rfl Try.func16 G G (bQ _ _ _ _)<|sy hg8<|sr 1 rfl<|sz 7 G G G)<|so G G G<|sr 1 rfl<|sg 5 16 45 50 false G G (fun hg17=>by
      have hq17:=hg17;try simp only [o1,o2,o3,o4,o5,o6,o7,o8,o9,oa] at hq17
      exact sy hg17<|sf fL rfl<|sy hg17<|sl S 0 aF G G G<|sy hg17<|sf fM rfl<|sy hg17<|sl S 0 aF G G G<|sy hg17<|sr 1 rfl<|sz 5 G G G)<|so G G G<|sr 1 rfl<|sg 4 23 52 56 false G G (fun hg24=>by
      have hq24:=hg24;try simp only [o1,o2,o3,o4,o5,o6,o7,o8,o9,oa] at hq24
      exact sy hg24<|sf nL rfl<|sy hg24<|sl S 0 aF G G G<|sy hg24<|sc rfl Try.func16 G G (bQ _ _ _ _)<|sy hg24<|sr 1 rfl<|sz 4 G G G)<|so G G G<|sr 1 rfl<|sg 4 29 58 62 false G G (fun hg30=>by
      have hq30:=hg30;try simp only [o1,o2,o3,o4,o5,o6,o7,o8,o9,oa] at hq30
      exact sy hg30<|sf nM rfl<|sy hg30<|sl S 0 aF G G G<|sy hg30<|sc rfl Try.func16 G G (bQ _ _ _ _)<|sy hg30<|sr 1 rfl<|sz 4 G G G)<|so G G G<|sr 1 rfl<|sg 4 35 64 68 false G G (fun hg36=>by
      have hq36:=hg36;try simp only [o1,o2,o3,o4,o5,o6,o7,o8,o9,oa] at hq36
      exact sy hg36<|sf dY rfl<|sy hg36<|sl S 0 aF G G G<|sy hg36<|sc rfl Try.func16 G G (bQ _ _ _ _)<|sy hg36<|sr 1 rfl<|sz 4 G G G)<|so G G G<|sE ?_;clear H a;intro a H
  refine k14 _ ?_;clear k14 K14
  refine aQ H rfl (fun hc3=>?_) (fun hc3=>?_)
  ·skip
   try simp only [o1,o2,o3,o4,o5,o6,o7,o8,o9,oa] at hc3
   replace H:=H.keep [] rfl
   refine sS H fun K15 k15=>sr 1 rfl<|sE ?_;clear H a;intro a H
   refine k15 _ ?_;clear k15 K15
   refine wp_ret ?_
   refine ret1 (fn:=Try.f13) rfl H rfl ?_
   exact ⟨congrArg _ (iR (k:=k) (by omega) (by unfold pasOk;rw [Bool.and_eq_false_iff];exact .inl (dQ (by omega)))).symm,(S.sel [] G G)⟩
  try simp only [o1,o2,o3,o4,o5,o6,o7,o8,o9,oa] at hc3
  refine wp_skip ?_
  refine k13 _ _ ?_
  refine wp_seq_k fun K16 k16=>?_
  refine sS H fun K17 k17=>sf dY rfl<|sl S 0 aF G G G<|sr 2 rfl<|sg 3 3 73 76 false G G (fun hg4=>by
      have hq4:=hg4;try simp only [o1,o2,o3,o4,o5,o6,o7,o8,o9,oa] at hq4
      exact sy hg4<|sf dY rfl<|sy hg4<|sl S 0 aF G G G<|sy hg4<|sr 1 rfl<|sz 3 G G G)<|so G G G<|sE ?_;clear H a;intro a H
  refine k17 _ ?_;clear k17 K17
  refine aQ H rfl (fun hc4=>?_) (fun hc4=>?_)
  ·skip
   try simp only [o1,o2,o3,o4,o5,o6,o7,o8,o9,oa] at hc4
   refine wp_seq_k fun K18 k18=>?_
   replace H:=H.keep [1,3,4,5] rfl
   refine aB fun K19 k19=>?_
   refine ls 2 H<|sf dZ rfl<|sl S 0 aF G G G<|sE ?_;clear H a;intro a H
   refine aA H G G Try.func16 G G (bQ _ _ _ _) ?_;clear H a
   rintro _ _ a ⟨rfl,rfl⟩ H
   refine ls 2 H<|sr 2 rfl<|sE ?_;clear H a;intro a H
   apply bP (i:=4) (g:=82) (t:=86) (b:=false) 4 H S G G (by kernel_rfl) (by kernel_rfl) G G
   case h1=>
    intro hg5
    have hq5:=hg5;try simp only [o1,o2,o3,o4,o5,o6,o7,o8,o9,oa] at hq5
    refine ls 3 H<|sy hg5<|sr 1 rfl<|sy hg5<|sf dZ rfl<|sy hg5<|sl S 0 aF G G G<|sE ?_;intro a H
    refine cC H G G (by assumption) ?_
    refine aA H G G Try.func33 G G (Gp ml A9 c9 _ _ (ownM.inS S (i:=1) rfl) (by have:=hM.1;omega)) ?_
    rintro _ _ a ⟨rfl,S2⟩ H
    replace S:=S.call S2;clear S2
    exact wpList_nil ⟨H.strip 4 G G,(S.sel [0,1,2] G G)⟩
   clear H a S;intro a _ H S
   refine ls 1 H<|so G G G<|sE ?_;clear H a;intro a H
   refine k19 _ _ ?_;clear k19 K19
   refine aQ H rfl (fun hc5=>?_) (fun hc5=>?_)
   ·skip
    try simp only [o1,o2,o3,o4,o5,o6,o7,o8,o9,oa] at hc5
    replace H:=H.keep [] rfl
    refine sS H fun K20 k20=>sr 1 rfl<|sE ?_;clear H a;intro a H
    refine k20 _ ?_;clear k20 K20
    refine wp_ret ?_
    refine ret1 (fn:=Try.f13) rfl H rfl ?_
    exact ⟨congrArg _ (iR (k:=k) (by omega) (Gl hM hc5 hc4)).symm,(S.sel [] G G)⟩
   try simp only [o1,o2,o3,o4,o5,o6,o7,o8,o9,oa] at hc5
   have hz:=hM.fresh hc5.1.1 hc5.2
   refine wp_skip ?_
   refine k18 _ _ ?_
   refine bY ?_
   refine ls 3 H<|sr 1 rfl<|sf dZ rfl<|sl S 0 aF G G G<|sE ?_;clear H a;intro a H
   refine aY H rfl S aN aX eF G G G G G G G G G ?_;clear H a S;intro A1 _ a hA1 S H
   refine cI H rfl S aN aX eF lL G G (i:=2) G G G (ownM.inS S (i:=0) rfl) (oP (w8one rfl)) (by have:=hM.1;omega) (by have:=hM.1;omega) ?_;clear H a S;intro A2 c2 _ a S H
   replace S:=S.recell (i:=2) rfl (cell':=icl (ml++[bO ps k])) (fun q j hq hj=>wG rfl q j hq hj)
   rw [show ml.length+1=(ml++[bO ps k]).length by simp] at H S
   refine ls 1 H<|sr 1 rfl<|sE ?_;clear H a;intro a H
   refine k16 _ _ ?_
   replace H:=H.keep [1,3,4,5] rfl
   refine sS H fun K22 k22=>sf dY rfl<|sl S 1 aF G G G<|sr 1 rfl<|sE ?_;clear H a;intro a H
   refine k22 _ ?_;clear k22 K22
   refine condE H rfl (fun hc6=>?_) (fun hc6=>?_)
   ·skip
    refine sS H fun K23 k23=>sf gR rfl<|sl S 1 aF G G G<|sc rfl Try.func16 G G (bQ _ _ _ _)<|sr 1 rfl<|sE ?_;clear H a;intro a H
    refine k23 _ ?_;clear k23 K23
    refine aQ H rfl (fun hc7=>?_) (fun hc7=>?_)
    ·skip
     try simp only [o1,o2,o3,o4,o5,o6,o7,o8,o9,oa] at hc7
     refine sS H fun K24 k24=>sr 1 rfl<|sE ?_;clear H a;intro a H
     refine k24 _ ?_;clear k24 K24
     refine wp_ret ?_
     refine ret1 (fn:=Try.f13) rfl H rfl ?_
     exact ⟨congrArg _ (iR (k:=k) (by omega) (by unfold pasOk;rw [Bool.and_eq_false_iff];exact .inl (dQ (by omega)))).symm,(S.sel [] G G)⟩
    try simp only [o1,o2,o3,o4,o5,o6,o7,o8,o9,oa] at hc7
    refine wp_skip ?_
    refine k11 _ _ ?_
    replace H:=H.keep [1,3,4] rfl
    refine sO H<|sr 1 rfl<|sd (aH G G (by unfold i64ok;omega))<|sr 1 rfl<|sE ?_;clear H a;intro a H
    exact k8 (g1-1) (k+1,_,_,_) a _ (by omega) (by first|exact ⟨by omega,by omega,bT hA (lR (cO.2 (by omega)) hz),hM.add⟩|exact ⟨by omega,by omega,bT hA (lS (cO.2 (by omega)) (by omega)),hM.skip (by unfold bO;omega)⟩) (S.sel [2,3] G G) (H.keep [3,4,1] rfl)
   refine sS H fun K26 k26=>sf gR rfl<|sl S 1 aF G G G<|sr 1 rfl<|sE ?_;clear H a;intro a H
   refine k26 _ ?_;clear k26 K26
   refine condN H rfl (fun hc8=>?_) (fun hc8=>?_)
   ·skip
    refine sS H fun K27 k27=>sr 1 rfl<|sE ?_;clear H a;intro a H
    refine k27 _ ?_;clear k27 K27
    refine wp_ret ?_
    refine ret1 (fn:=Try.f13) rfl H rfl ?_
    exact ⟨congrArg _ (iR (k:=k) (by omega) (by unfold pasOk;rw [Bool.and_eq_false_iff];exact .inl (dQ (by omega)))).symm,(S.sel [] G G)⟩
   refine wp_skip ?_
   refine k11 _ _ ?_
   replace H:=H.keep [1,3,4] rfl
   refine sO H<|sr 1 rfl<|sd (aH G G (by unfold i64ok;omega))<|sr 1 rfl<|sE ?_;clear H a;intro a H
   exact k8 (g1-1) (k+1,_,_,_) a _ (by omega) (by first|exact ⟨by omega,by omega,bT hA (lR (cO.2 (by omega)) hz),hM.add⟩|exact ⟨by omega,by omega,bT hA (lS (cO.2 (by omega)) (by omega)),hM.skip (by unfold bO;omega)⟩) (S.sel [2,3] G G) (H.keep [3,4,1] rfl)
  try simp only [o1,o2,o3,o4,o5,o6,o7,o8,o9,oa] at hc4
  refine sS H fun K29 k29=>sf dZ rfl<|sl S 0 aF G G G<|sr 1 rfl<|sE ?_;clear H a;intro a H
  refine k29 _ ?_;clear k29 K29
  refine condN H rfl (fun hc9=>?_) (fun hc9=>?_)
  ·skip
   refine sS H fun K30 k30=>sr 1 rfl<|sE ?_;clear H a;intro a H
   refine k30 _ ?_;clear k30 K30
   refine wp_ret ?_
   refine ret1 (fn:=Try.f13) rfl H rfl ?_
   exact ⟨congrArg _ (iR (k:=k) (by omega) (by unfold pasOk;rw [Bool.and_eq_false_iff];exact .inl (dQ (by omega)))).symm,(S.sel [] G G)⟩
  refine wp_skip ?_
  refine k16 _ _ ?_
  replace H:=H.keep [1,3,4,5] rfl
  refine sS H fun K31 k31=>sf dY rfl<|sl S 0 aF G G G<|sr 1 rfl<|sE ?_;clear H a;intro a H
  refine k31 _ ?_;clear k31 K31
  refine condE H rfl (fun hc10=>?_) (fun hc10=>?_)
  ·skip
   refine sS H fun K32 k32=>sf gR rfl<|sl S 0 aF G G G<|sc rfl Try.func16 G G (bQ _ _ _ _)<|sr 1 rfl<|sE ?_;clear H a;intro a H
   refine k32 _ ?_;clear k32 K32
   refine aQ H rfl (fun hc11=>?_) (fun hc11=>?_)
   ·skip
    try simp only [o1,o2,o3,o4,o5,o6,o7,o8,o9,oa] at hc11
    refine sS H fun K33 k33=>sr 1 rfl<|sE ?_;clear H a;intro a H
    refine k33 _ ?_;clear k33 K33
    refine wp_ret ?_
    refine ret1 (fn:=Try.f13) rfl H rfl ?_
    exact ⟨congrArg _ (iR (k:=k) (by omega) (by unfold pasOk;rw [Bool.and_eq_false_iff];exact .inl (dQ (by omega)))).symm,(S.sel [] G G)⟩
   try simp only [o1,o2,o3,o4,o5,o6,o7,o8,o9,oa] at hc11
   refine wp_skip ?_
   refine k11 _ _ ?_
   replace H:=H.keep [1,3,4] rfl
   refine sO H<|sr 1 rfl<|sd (aH G G (by unfold i64ok;omega))<|sr 1 rfl<|sE ?_;clear H a;intro a H
   exact k8 (g1-1) (k+1,_,_,_) a _ (by omega) (by first|exact ⟨by omega,by omega,bT hA (lR (cO.2 (by omega)) hz),hM.add⟩|exact ⟨by omega,by omega,bT hA (lS (cO.2 (by omega)) (by omega)),hM.skip (by unfold bO;omega)⟩) (S.sel [1,2] G G) (H.keep [3,4,1] rfl)
  refine sS H fun K35 k35=>sf gR rfl<|sl S 0 aF G G G<|sr 1 rfl<|sE ?_;clear H a;intro a H
  refine k35 _ ?_;clear k35 K35
  refine condN H rfl (fun hc12=>?_) (fun hc12=>?_)
  ·skip
   refine sS H fun K36 k36=>sr 1 rfl<|sE ?_;clear H a;intro a H
   refine k36 _ ?_;clear k36 K36
   refine wp_ret ?_
   refine ret1 (fn:=Try.f13) rfl H rfl ?_
   exact ⟨congrArg _ (iR (k:=k) (by omega) (by unfold pasOk;rw [Bool.and_eq_false_iff];exact .inl (dQ (by omega)))).symm,(S.sel [] G G)⟩
  refine wp_skip ?_
  refine k11 _ _ ?_
  replace H:=H.keep [1,3,4] rfl
  refine sO H<|sr 1 rfl<|sd (aH G G (by unfold i64ok;omega))<|sr 1 rfl<|sE ?_;clear H a;intro a H
  exact k8 (g1-1) (k+1,_,_,_) a _ (by omega) (by first|exact ⟨by omega,by omega,bT hA (lR (cO.2 (by omega)) hz),hM.add⟩|exact ⟨by omega,by omega,bT hA (lS (cO.2 (by omega)) (by omega)),hM.skip (by unfold bO;omega)⟩) (S.sel [1,2] G G) (H.keep [3,4,1] rfl)
 refine wp_exit ?_
 refine k6 _ _ ?_
 refine wp_seq_k fun K38 k38=>?_
 refine sS H fun K39 k39=>sr 1 rfl<|sE ?_;clear H a;intro a H
 refine k39 _ ?_;clear k39 K39
 refine wp_block ?_
 refine loop_st (X:=Nat) (R0:=_) [1] H rfl (fun k2=>[(6,.int .i64 (k2:Int))]) (fun k2=>[]) (fun g k2=>k2≤xs.length∧g+k2=xs.length∧allN (exOk pl xs) k2=true) (xs.length) 0 ?_ (S.sel [0,1] G G) (H.keep [6,1] rfl) ?_
 · exact ⟨by omega,by omega,rfl⟩
 clear H S a
 intro g2 x2 a w2 hp S H K40 k40
 obtain ⟨k2,rfl⟩:∃ y,y=x2:=⟨_,rfl⟩
 refine wp_seq_k fun K41 k41=>?_
 refine sS H fun K42 k42=>sr 1 rfl<|sf fJ rfl<|sl S 1 aZ G G G<|sL aN rfl<|sr 1 rfl<|sE ?_;clear H a;intro a H
 refine k42 _ ?_;clear k42 K42
 refine condL H rfl (fun hc13=>?_) (fun hc13=>?_)
 ·skip
  refine wp_skip ?_
  refine k41 _ _ ?_
  refine wp_seq_k fun K43 k43=>?_
  refine wp_block ?_
  replace H:=H.keep [1,6] rfl
  replace S:=S.drew
  refine sD H fun K44 k44=>sf fJ rfl<|sl S 1 aZ G G G<|sr 1 rfl<|si aN aX G G (hxs.adr (by omega)) (by omega)<|slm aF rfl (hxs.rd S (by omega) (by omega))<|sf cS rfl<|sl S 1 aF G G G<|sd (bK G G (by unfold i64ok;omega))<|sc rfl Try.func16 G G (bQ _ _ _ _)<|sr 2 rfl<|sg 16 10 123 139 false G G (fun hg11=>by
      have hq11:=hg11;try simp only [o1,o2,o3,o4,o5,o6,o7,o8,o9,oa] at hq11
      exact sy hg11<|sr 1 rfl<|sy hg11<|sr 1 rfl<|sy hg11<|sr 1 rfl<|sg 12 13 126 138 true G G (fun hg14=>by
           have hq14:=hg14;try simp only [o1,o2,o3,o4,o5,o6,o7,o8,o9,oa] at hq14
           exact sy hg14<|sf fJ rfl<|sy hg14<|sl S 1 aZ G G G<|sy hg14<|sr 1 rfl<|sy hg14<|si aN aX G G (hxs.adr (by omega)) (by omega)<|sy hg14<|slm aF rfl (hxs.rd S (by omega) (by omega))<|sy hg14<|sf fJ rfl<|sy hg14<|sl S 1 aZ G G G<|sy hg14<|sr 1 rfl<|sy hg14<|sd (bK G G (by unfold i64ok;omega))<|sy hg14<|sI aN aX G G (hxs.adr (by omega)) (by omega) (by omega)<|sy hg14<|slm aF rfl (hxs.rd S (by omega) (by omega))<|sy hg14<|sr 1 rfl<|sz 12 G G G)<|sy hg11<|sa G G G<|sz 5 G G G)<|so G G G<|sE ?_;clear H a;intro a H
  refine k44 _ ?_;clear k44 K44
  refine aQ H rfl (fun hc14=>?_) (fun hc14=>?_)
  ·skip
   try simp only [o1,o2,o3,o4,o5,o6,o7,o8,o9,oa] at hc14
   rw [show ((k2:Int)-1).toNat=k2-1 by omega] at hc14
   replace H:=H.keep [] rfl
   refine sS H fun K45 k45=>sr 1 rfl<|sE ?_;clear H a;intro a H
   refine k45 _ ?_;clear k45 K45
   refine wp_ret ?_
   refine ret1 (fn:=Try.f13) rfl H rfl ?_
   exact ⟨congrArg _ (Hn (k:=k2) (by omega) (Gn (by omega))).symm,(S.sel [] G G)⟩
  try simp only [o1,o2,o3,o4,o5,o6,o7,o8,o9,oa] at hc14
  rw [show ((k2:Int)-1).toNat=k2-1 by omega] at hc14
  refine wp_skip ?_
  refine k43 _ _ ?_
  refine sO H<|sr 1 rfl<|sd (aH G G (by unfold i64ok;omega))<|sr 1 rfl<|sE ?_;clear H a;intro a H
  exact k40 (g2-1) (k2+1) a _ (by omega) (⟨by omega,by omega,bT hp.2.2 (Gm (by omega))⟩) (S.sel [0,1] G G) (H.keep [6,1] rfl)
 refine wp_exit ?_
 refine k38 _ _ ?_
 refine sS H fun K47 k47=>sr 1 rfl<|sE ?_;clear H a;intro a H
 refine k47 _ ?_;clear k47 K47
 refine wp_ret ?_
 refine ret1 (fn:=Try.f13) rfl H rfl ?_
 have hk9:k=ps.length:=by omega
 have hk8:k2=xs.length:=by omega
 exact ⟨congrArg _ (Ho (by omega) (hk9 ▸ hA) (hk8 ▸ hp.2.2)).symm,(S.sel [] G G)⟩
end
section
structure EndN (N:Net) (r0:RM) (b x:Nat) (v:Int) (r:RM) (L:Nat→Int):Prop where
  fl:Fl N r0 r b x v
  nn:0≤v
  lev:LevOk N r b L
  full:L x<0
section
variable {N:Net} {r r0 r1 r2:RM} {b x u:Nat} {v v' m B:Int} {L L':Nat→Int}
theorem uE {S:Nat→Bool} (h:∀ i,i<N.k→∀ j,j<N.n i→r2 i j=r1 i j):resid N r2 S=resid N r1 S:=hY fun i hi=>hY fun j hj=>by rw [h i hi j hj]
theorem Fl.congr (W:N.Wf) (h:Fl N r r1 u x m) (e:∀ i,i<N.k→∀ j,j<N.n i→r2 i j=r1 i j):Fl N r r2 u x m:=
  ⟨fun S=>by rw [uE e];exact h.cut S,fun i hi j hj=>by rw [e i hi j hj,e _ (W.to_lt i hi j hj) _ (W.bk_lt i hi j hj)];exact h.pair i hi j hj,fun i hi j hj=>by rw [e i hi j hj];exact h.nn i hi j hj⟩
theorem Dx {S:Nat→Bool} (hb:S b=true) (hx:S x=false):ind S b-ind S x=1:=by unfold ind;rw [hb,hx];rfl
theorem EndN.bound (O:Ok N r0 B) (h:EndN N r0 b x v r L) {S:Nat→Bool} (hb:S b=true) (hx:S x=false):v≤resid N r0 S:=by
  have h1:=kZ (S:=S) (h.fl.ok O)
  rw [h.fl.cut,Dx hb hx] at h1
  omega
theorem EndN.inside (h:EndN N r0 b x v r L) {S:Nat→Bool} (hb:S b=true) (hx:S x=false) (hc:resid N r0 S=v):∀ u,u<N.k→0≤L u→S u=true:=by
  have h0:resid N r S=0:=by rw [h.fl.cut,Dx hb hx];omega
  exact h.lev.least hb (oK h.fl.nn h0)
end
structure Eg where
  f:Nat
  t:Nat
  pas:Int
  tick:Int
def Eg.zero:Eg:=⟨0,0,0,0⟩
def Jn.zero:Jn:=⟨0,0,0,Mv.none⟩
def ixs (E:List Eg) (i:Nat):List Nat:=(List.range E.length).filter fun e=>decide ((E.getD e Eg.zero).f=i)
def tw (e:Nat):Nat:=if e%2=0 then e+1 else e-1
structure Lk (N:Net) (E:List Eg):Prop where
  len:∀ i,i<N.k→(ixs E i).length=N.n i
  lt:∀ i,i<N.k→∀ q,q<N.n i→(ixs E i).getD q 0<E.length
  ef:∀ i,i<N.k→∀ q,q<N.n i→(E.getD ((ixs E i).getD q 0) Eg.zero).f=i
  et:∀ i,i<N.k→∀ q,q<N.n i→(E.getD ((ixs E i).getD q 0) Eg.zero).t=N.to i q
  tw:∀ i,i<N.k→∀ q,q<N.n i→(ixs E (N.to i q)).getD (N.back i q) 0=tw ((ixs E i).getD q 0)
  inj:∀ i,i<N.k→∀ q q',q<N.n i→q'<N.n i→(ixs E i).getD q 0=(ixs E i).getD q' 0→q=q'
  evn:E.length%2=0
def rmE (E:List Eg) (r:Nat→Int):RM:=fun i q=>r ((ixs E i).getD q 0)
theorem Le {e:Nat}:tw e≠e:=by unfold tw;split <;> omega
def pushE (r:Nat→Int) (e:Nat) (m:Int):Nat→Int:=upd (upd r e (r e-m)) (tw e) (r (tw e)+m)
section
variable {N:Net} {E:List Eg} {r:Nat→Int} {u j:Nat} {m B:Int}
theorem Dy:pushE r u m u=r u-m:=by unfold pushE;rw [bI _ _ (fun e=>Le e.symm),bH]
theorem Dz:pushE r u m (tw u)=r (tw u)+m:=bH _ _ _
theorem Ea {e:Nat} (h1:e≠u) (h2:e≠tw u):pushE r u m e=r e:=by unfold pushE;rw [bI _ _ h2,bI _ _ h1]
theorem Lk.push (K:Lk N E) (W:N.Wf) (hu:u<N.k) (hj:j<N.n u):∀ i,i<N.k→∀ q,q<N.n i→rmE E (pushE r ((ixs E u).getD j 0) m) i q=along N (rmE E r) u j m i q:=by
  intro i hi q hq
  have htk:=W.to_lt u hu j hj
  have hbk:=W.bk_lt u hu j hj
  have same:∀ {i q i' q'},i<N.k→q<N.n i→i'<N.k→q'<N.n i'→(ixs E i).getD q 0=(ixs E i').getD q' 0→i=i'∧q=q':=by
    intro i q i' q' hi hq hi' hq' e
    have e1:i=i':=by rw [←K.ef i hi q hq,e,K.ef i' hi' q' hq']
    subst e1
    exact ⟨rfl,K.inj i hi q q' hq hq' e⟩
  show pushE r ((ixs E u).getD j 0) m ((ixs E i).getD q 0)=_
  by_cases h1:i=u∧q=j
  · obtain ⟨rfl,rfl⟩:=h1
    rw [Dy,jD W hi hq];rfl
  · by_cases h2:i=N.to u j∧q=N.back u j
    · obtain ⟨rfl,rfl⟩:=h2
      rw [jE,K.tw u hu j hj,Dz]
      show _=r ((ixs E (N.to u j)).getD (N.back u j) 0)+m
      rw [K.tw u hu j hj]
    · rw [hZ h1 h2,Ea (fun e=>h1 (same hi hq hu hj e)) (fun e=>h2 (same hi hq htk hbk (by rw [K.tw u hu j hj];exact e)))];rfl
structure Rch (N:Net) (E:List Eg) (r:Nat→Int) (b:Nat) (L:Nat→Int) (by_:Nat→Nat):Prop where
  from_:∀ v,v<N.k→0≤L v→v=b∨∃ u,u<N.k∧∃ j,j<N.n u∧0≤L u∧0<rmE E r u j∧N.to u j=v∧L v=L u+1∧by_ v=(ixs E u).getD j 0
theorem Rch.start {b:Nat} (hb:b<N.k) {L:Nat→Int} (hL:∀ v,v<N.k→L v=if v=b then 0 else -1) {by_:Nat→Nat}:Rch N E r b L by_:=⟨fun v hv h0=>by
  rw [hL v hv] at h0
  split at h0
  · rename_i e;exact .inl e
  · omega⟩
theorem Rch.visit {b:Nat} {L:Nat→Int} {by_:Nat→Nat} (h:Rch N E r b L by_) (hu:u<N.k) (hj:j<N.n u) (h0:0≤L u) (hr:0<rmE E r u j) (hv:L (N.to u j)<0) :
    Rch N E r b (upd L (N.to u j) (L u+1)) (upd by_ (N.to u j) ((ixs E u).getD j 0)):=⟨fun v hv' h0'=>by
  have hne:∀ v,0≤L v→v≠N.to u j:=fun v h0 e=>by subst e;omega
  by_cases e:v=N.to u j
  · subst e
    rw [bH,bH]
    exact .inr ⟨u,hu,j,hj,by rw [bI _ _ (hne u h0)];exact h0,hr,rfl,by rw [bI _ _ (hne u h0)],rfl⟩
  · rw [bI _ _ e] at h0'
    rcases h.from_ v hv' h0' with h1|⟨u',hu',j',hj',g1,g2,g3,g4,g5⟩
    · exact .inl h1
    · refine .inr ⟨u',hu',j',hj',?_,g2,g3,?_,?_⟩
      · rw [bI _ _ (hne u' g1)];exact g1
      · rw [bI _ _ e,bI _ _ (hne u' g1)];exact g4
      · rw [bI _ _ e];exact g5⟩
end
def goneI (out:Int) (p:Psg) (place:Int):Int:=
  if othr p place<0∨p.kind=4 then -1 else if p.kind=3∧bitI out p.mach=1 then p.still else if p.kind=3∧place=p.b then -1 else p.ticks
def endI (p:Psg) (k:Nat):Int:=if k=0 then p.a else p.b
def cr (S:Nat→Bool) (f t:Nat) (c:Int):Int:=if S f=true∧S t=false then c else 0
def hC (U:Nat→Nat→Bool) (T:Nat) (f t:Nat) (d:Int) (c:Int) (tick:Nat):Int:=if (tick:Int)+d≤T∧U f tick=true∧U t (tick+d.toNat)=false then c else 0
def pC (U:Nat→Nat→Bool) (T:Nat) (xs:List Int) (out:Int) (p:Psg) (tick k:Nat):Int:=if 0≤goneI out p (endI p k)∧hasI xs (endI p k)=false then hC U T (endI p k).toNat (endI p (1-k)).toNat (goneI out p (endI p k)) p.wide tick else 0
section
variable {P T:Nat} {pe xs:List Int} {out:Int} {ps:List Psg} {S:Nat→Bool}
end
section
variable {P T:Nat} {pe xs:List Int} {out:Int} {ps:List Psg} {S:Nat→Bool}
end
section
variable {P T:Nat} {pe xs:List Int} {out:Int} {ps:List Psg} {S:Nat→Bool} {v v':Int} {r r':RM} {L L':Nat→Int}
end
section
variable {N:Net} {E:List Eg} {r r2:Nat→Int} {b x:Nat} {L:Nat→Int} {by_:Nat→Nat} {m B:Int}
end
section
variable {P T:Nat} {pe xs:List Int} {out:Int} {ps:List Psg}
end
section
variable {P T:Nat} {ps:List Psg} {xs:List Int} {out:Int} {pe bl:List Int} {k:Nat}
end
section
variable {P T:Nat} {ps:List Psg} {xs:List Int} {out:Int} {pe pe' bl:List Int}
end
section
variable (ps:List Psg) (xs:List Int) (out:Int) (pe:List Int) (l:List Mv)
def mvIn (m:Mv):Prop:=(0≤m.pas∧m.pas<ps.length)∧(0≤m.at_∧m.at_≤60)∧(1≤m.many∧m.many≤1000)
instance (m:Mv):Decidable (mvIn ps m):=by unfold mvIn;exact inferInstance
end
section
variable {P T:Nat} {ps:List Psg} {xs:List Int} {out:Int} {pe bl:List Int} {l:List Mv} {m:Mv}
end
end
section
theorem lT (pl:Int) (ps:List Psg) (PA:Option Addr) (pc:Nat) (xs:List Int) (XA:Option Addr) (xc:Nat) (pe:List Int) (BA:Option Addr) (bc:Nat) (w:World) (hpe:InS w noF 1 BA pe.length (icl pe)) (hpen:pe.length≤9223372036854775807) :
    Calls Try.prog 15 [.agg [.int .i64 pl,.slice PA ps.length pc,.slice XA xs.length xc].toArray,.slice BA pe.length bc].toArray w (Ret (fun v w'=>v = .bool (eA pl pe)∧St w noF [] w')):=by
 refine enter Try.func15 rfl Try.ntmps15 rfl (fun a H=>?_)
 have S:=St.start w
 refine aB fun K1 k1=>?_
 refine aS H rfl S G G ?_;clear H a S;intro b2 _ a hb2 hbw2 S H
 refine ls 1 H<|sr 1 rfl<|sE ?_;clear H a;intro a H
 refine k1 _ _ ?_;clear k1 K1
 refine wp_seq_k fun K2 k2=>?_
 refine sS H fun K3 k3=>sr 1 rfl<|sE ?_;clear H a;intro a H
 refine k3 _ ?_;clear k3 K3
 refine wp_block ?_
 refine loop_st (X:=Nat) (R0:=_) [1,2] H rfl (fun k=>[(5,.int .i64 (k:Int))]) (fun k=>[]) (fun g k=>k≤pe.length∧g+k=pe.length∧allN (fun k=>decide (0≤pe.getD k 0∧pe.getD k 0≤1000)) k=true) (pe.length) 0 ?_ (S.sel [0] G G) (H.keep [5,1,2] rfl) ?_
 · exact ⟨by omega,by omega,rfl⟩
 clear H S a
 intro g1 x1 a w1 hp S H K4 k4
 obtain ⟨k,rfl⟩:∃ y,y=x1:=⟨_,rfl⟩
 refine wp_seq_k fun K5 k5=>?_
 refine sS H fun K6 k6=>sr 2 rfl<|sL aN rfl<|sr 1 rfl<|sE ?_;clear H a;intro a H
 refine k6 _ ?_;clear k6 K6
 refine condL H rfl (fun hc1=>?_) (fun hc1=>?_)
 ·skip
  refine wp_skip ?_
  refine k5 _ _ ?_
  refine wp_seq_k fun K7 k7=>?_
  refine wp_block ?_
  replace H:=H.keep [1,2,5] rfl
  refine sS H fun K8 k8=>sr 2 rfl<|si aN aX G G (hpe.adr (by omega)) (by omega)<|slm aF rfl (hpe.rd S (by omega) (by omega))<|sc rfl Try.func16 G G (bQ _ _ _ _)<|sr 1 rfl<|sE ?_;clear H a;intro a H
  refine k8 _ ?_;clear k8 K8
  refine aQ H rfl (fun hc2=>?_) (fun hc2=>?_)
  ·skip
   try simp only [o1,o2,o3,o4,o5,o6,o7,o8,o9,oa] at hc2
   refine sS H fun K9 k9=>sr 1 rfl<|sE ?_;clear H a;intro a H
   refine k9 _ ?_;clear k9 K9
   refine wp_ret ?_
   refine ret1 (fn:=Try.f15) rfl H rfl ?_
   refine ⟨congrArg Value.bool ?_,(S.sel [] G G)⟩;unfold eA;rw [eI (k:=k) (by omega) (by rw [decide_eq_false_iff_not];omega)];rfl
  try simp only [o1,o2,o3,o4,o5,o6,o7,o8,o9,oa] at hc2
  refine wp_skip ?_
  refine k7 _ _ ?_
  replace H:=H.keep [1,2,5] rfl
  refine sO H<|sr 1 rfl<|sd (aH G G (by unfold i64ok;omega))<|sr 1 rfl<|sE ?_;clear H a;intro a H
  exact k4 (g1-1) (k+1) a _ (by omega) (⟨by omega,by omega,bT hp.2.2 (by rw [decide_eq_true_eq];omega)⟩) (S.sel [0] G G) (H.keep [5,1,2] rfl)
 refine wp_exit ?_
 refine k2 _ _ ?_
 refine sS H fun K11 k11=>sr 1 rfl<|sL aN rfl<|sf cS rfl<|sl S 0 aF G G G<|sr 2 rfl<|sE ?_;clear H a;intro a H
 refine k11 _ ?_;clear k11 K11
 refine wp_ret ?_
 refine ret1 (fn:=Try.f15) rfl H rfl ?_
 refine ⟨congrArg Value.bool ?_,(S.sel [] G G)⟩;unfold eA;rw [show pe.length=k by omega,hp.2.2,Bool.true_and]
theorem rY (pl:Int) (ps:List Psg) (PA:Option Addr) (pc:Nat) (xs:List Int) (XA:Option Addr) (xc:Nat) (day:List Hq) (HA:Option Addr) (hcp:Nat) (DA:Nat→Option Addr) (dc:Nat→Nat) (w:World) (hps:InS w noF 7 PA ps.length (pcell ps)) (hpn:ps.length≤9223372036854775807) (hxs:InS w noF 1 XA xs.length (icl xs)) (hxn:xs.length≤9223372036854775807) (hday:InS w noF 3 HA day.length (hcl day DA dc)) (hdn:day.length≤9223372036854775807) (hdp:∀ k,k<day.length→InS w noF 1 (DA k) (day.getD k Hq.zero).pe.length (icl (day.getD k Hq.zero).pe)) (hdl:∀ k,k<day.length→(day.getD k Hq.zero).pe.length≤9223372036854775807) :
    Calls Try.prog 18 [.agg [.int .i64 pl,.slice PA ps.length pc,.slice XA xs.length xc].toArray,.slice HA day.length hcp].toArray w (Ret (fun v w'=>v = .int .i64 (dayE pl ps xs day)∧St w noF [] w')):=by
 refine enter Try.func18 rfl Try.ntmps18 rfl (fun a H=>?_)
 have S:=St.start w
 refine aB fun K1 k1=>?_
 refine aS H rfl S G G ?_;clear H a S;intro b2 _ a hb2 hbw2 S H
 refine ls 1 H<|sr 1 rfl<|sE ?_;clear H a;intro a H
 refine k1 _ _ ?_;clear k1 K1
 refine aB fun K2 k2=>?_
 refine ls 1 H<|sd ((aC cN dI rfl S (i:=0) G G))<|sE ?_;clear H a;intro a H
 refine aA H G G Try.func13 G G (mZ pl ps PA pc xs XA xc _ (hps.now S) hpn (hxs.now S) hxn) ?_;clear H a
 rintro _ _ a ⟨rfl,S2⟩ H
 replace S:=S.call S2;clear S2
 refine ls 1 H<|sr 1 rfl<|sE ?_;clear H a;intro a H
 refine k2 _ _ ?_;clear k2 K2
 refine wp_seq_k fun K3 k3=>?_
 refine sS H fun K4 k4=>sr 2 rfl<|sE ?_;clear H a;intro a H
 refine k4 _ ?_;clear k4 K4
 refine condN H rfl (fun hc1=>?_) (fun hc1=>?_)
 ·skip
  refine sS H fun K5 k5=>sr 2 rfl<|sE ?_;clear H a;intro a H
  refine k5 _ ?_;clear k5 K5
  refine wp_ret ?_
  refine ret1 (fn:=Try.f18) rfl H rfl ?_
  refine ⟨congrArg (Value.int .i64) ?_,(S.sel [] G G)⟩;unfold dayE;rw [if_pos hc1]
 have hst:stE pl ps xs=0:=by omega
 refine wp_skip ?_
 refine k3 _ _ ?_
 refine wp_seq_k fun K6 k6=>?_
 replace H:=H.keep [1,2] rfl
 refine sS H fun K7 k7=>sr 1 rfl<|sL gO rfl<|sr 1 rfl<|sE ?_;clear H a;intro a H
 refine k7 _ ?_;clear k7 K7
 refine condL H rfl (fun hc2=>?_) (fun hc2=>?_)
 ·skip
  refine sS H fun K8 k8=>sr 1 rfl<|sE ?_;clear H a;intro a H
  refine k8 _ ?_;clear k8 K8
  refine wp_ret ?_
  refine ret1 (fn:=Try.f18) rfl H rfl ?_
  refine ⟨congrArg (Value.int .i64) ?_,(S.sel [] G G)⟩;unfold dayE;rw [if_neg (by omega),if_neg];unfold dayOk;rw [decide_eq_false (p:=day.length≤48) (by omega),Bool.and_false];simp
 refine wp_skip ?_
 refine k6 _ _ ?_
 refine wp_seq_k fun K9 k9=>?_
 refine sS H fun K10 k10=>sr 1 rfl<|sE ?_;clear H a;intro a H
 refine k10 _ ?_;clear k10 K10
 refine wp_block ?_
 refine loop_st (X:=Nat) (R0:=_) [1,2] H rfl (fun k=>[(6,.int .i64 (k:Int))]) (fun k=>[]) (fun g k=>k≤day.length∧g+k=day.length∧allN (fun k=>hqOk pl (day.getD k Hq.zero)) k=true) (day.length) 0 ?_ (S.sel [0] G G) (H.keep [6,1,2] rfl) ?_
 · exact ⟨by omega,by omega,rfl⟩
 clear H S a
 intro g1 x1 a w1 hp S H K11 k11
 obtain ⟨k,rfl⟩:∃ y,y=x1:=⟨_,rfl⟩
 refine wp_seq_k fun K12 k12=>?_
 refine sS H fun K13 k13=>sr 2 rfl<|sL gO rfl<|sr 1 rfl<|sE ?_;clear H a;intro a H
 refine k13 _ ?_;clear k13 K13
 refine condL H rfl (fun hc3=>?_) (fun hc3=>?_)
 ·skip
  refine wp_skip ?_
  refine k12 _ _ ?_
  refine wp_seq_k fun K14 k14=>?_
  refine wp_block ?_
  by_cases hB:0≤(day.getD k Hq.zero).out∧(day.getD k Hq.zero).out≤4095
  ·skip
   replace H:=H.keep [1,2,6] rfl
   replace S:=S.drew
   refine cD [(0,true),(1,true),(2,true),(3,true),(4,true),(5,false),(6,true),(7,true),(8,true),(9,true),(10,true),(11,true),(12,true),(13,true),(14,false),(15,true),(16,true)] (by kernel_rfl) (by kernel_rfl) (S.sel [0] G G) fun K15 k15=>?_
   refine qF H<|qr 2 rfl<|qd rfl (fun _ S=>cH gO gL G G (hday.adr (by omega)) (by omega))<|qd rfl (fun _ S=>(fH lG rfl))<|qd rfl (fun _ S=>aG aF rfl (hday.rd S (by omega) (by omega)))<|qK ?_;clear H a;intro a H
   refine aU rfl ?_
   refine aA H G G Try.func14 G G (rX _ _) ?_;clear H a
   rintro _ _ a ⟨rfl,rfl⟩ H
   rw [decide_eq_true hB.1,decide_eq_true hB.2,Bool.and_self] at H
   refine wpList_nil (And.intro (S.sel [0] G G) ?_)
   refine qF H<|qr 2 rfl<|qK ?_;clear H a;intro a H
   refine aI H G G G G (fun _ S=>(aC cN dI rfl S (i:=0) G G)) ?_;clear H a;intro a H
   refine aI H G G G G (fun _ S=>aT rfl) ?_;clear H a;intro a H
   refine aI H G G G G (fun _ S=>aT rfl) ?_;clear H a;intro a H
   refine aI H G G G G (fun _ S=>cH gO gL G G (hday.adr (by omega)) (by omega)) ?_;clear H a;intro a H
   refine aI H G G G G (fun _ S=>(fH rE rfl)) ?_;clear H a;intro a H
   refine aI H G G G G (fun _ S=>aG aZ rfl (hday.rd S (by omega) (by omega))) ?_;clear H a;intro a H
   refine aU rfl ?_
   refine bC H G G ?_
   refine aA H G G Try.func15 G G (lT pl ps PA pc xs XA xc (day.getD k Hq.zero).pe (DA k) (dc k) _ ((hdp k (by omega)).now S) (hdl k (by omega))) ?_;clear H a
   rintro _ _ a ⟨rfl,S2⟩ H
   replace S:=S.call S2;clear S2
   refine wpList_nil (And.intro (S.sel [0] G G) ?_)
   refine aI H G G G G (fun _ S=>cL rfl) ?_;clear H a;intro a H
   refine qF H<|qd rfl (fun _ S=>(bB G G G))<|qK ?_;clear H a;intro a H
   refine bV ?_
   refine k15 _ _ ?_
   clear k15 K15
   refine aQ H rfl (fun hc4=>?_) (fun hc4=>?_)
   ·skip
    try simp only [o1,o2,o3,o4,o5,o6,o7,o8,o9,oa] at hc4
    replace H:=H.keep [] rfl
    refine sS H fun K16 k16=>sr 1 rfl<|sE ?_;clear H a;intro a H
    refine k16 _ ?_;clear k16 K16
    refine wp_ret ?_
    refine ret1 (fn:=Try.f18) rfl H rfl ?_
    refine ⟨congrArg (Value.int .i64) ?_,(S.sel [] G G)⟩;unfold dayE;rw [if_neg (by omega),oZ (k:=k) (by omega) (by unfold hqOk;rw [hc4.resolve_left (by simp),Bool.and_false])];rfl
   try simp only [o1,o2,o3,o4,o5,o6,o7,o8,o9,oa] at hc4
   refine wp_skip ?_
   refine k14 _ _ ?_
   refine sO H<|sr 1 rfl<|sd (aH G G (by unfold i64ok;omega))<|sr 1 rfl<|sE ?_;clear H a;intro a H
   exact k11 (g1-1) (k+1) a _ (by omega) (⟨by omega,by omega,bT hp.2.2 (by unfold hqOk;rw [decide_eq_true hB,hc4.2];rfl)⟩) (S.sel [0] G G) (H.keep [6,1,2] rfl)
  replace H:=H.keep [1,2,6] rfl
  replace S:=S.drew
  refine cD [(0,true),(1,true),(2,true),(3,true),(4,true),(5,false),(6,true),(7,true),(8,true),(9,true),(10,true),(11,true),(12,true),(13,true),(14,true),(15,true),(16,true)] (by kernel_rfl) (by kernel_rfl) (S.sel [0] G G) fun K18 k18=>?_
  refine qF H<|qr 2 rfl<|qd rfl (fun _ S=>cH gO gL G G (hday.adr (by omega)) (by omega))<|qd rfl (fun _ S=>(fH lG rfl))<|qd rfl (fun _ S=>aG aF rfl (hday.rd S (by omega) (by omega)))<|qK ?_;clear H a;intro a H
  refine aU rfl ?_
  refine aA H G G Try.func14 G G (rX _ _) ?_;clear H a
  rintro _ _ a ⟨rfl,rfl⟩ H
  rw [Bool.and_eq_false_iff.2 (by simp only [decide_eq_false_iff_not];omega)] at H
  refine wpList_nil (And.intro (S.sel [0] G G) ?_)
  refine qF H<|qr 2 rfl<|qK ?_;clear H a;intro a H
  refine aL H G G G G G ?_;clear H a;intro a H
  refine aL H G G G G G ?_;clear H a;intro a H
  refine aL H G G G G G ?_;clear H a;intro a H
  refine aL H G G G G G ?_;clear H a;intro a H
  refine aL H G G G G G ?_;clear H a;intro a H
  refine aL H G G G G G ?_;clear H a;intro a H
  refine aL H G G G G G ?_;clear H a;intro a H
  refine aL H G G G G G ?_;clear H a;intro a H
  refine qF H<|qd rfl (fun _ S=>(aV G G G))<|qK ?_;clear H a;intro a H
  refine bV ?_
  refine k18 _ _ ?_
  clear k18 K18
  refine aQ H rfl (fun hc5=>?_) (fun hc5=>?_)
  ·skip
   skip
   replace H:=H.keep [] rfl
   refine sS H fun K19 k19=>sr 1 rfl<|sE ?_;clear H a;intro a H
   refine k19 _ ?_;clear k19 K19
   refine wp_ret ?_
   refine ret1 (fn:=Try.f18) rfl H rfl ?_
   refine ⟨congrArg (Value.int .i64) ?_,(S.sel [] G G)⟩;unfold dayE;rw [if_neg (by omega),oZ (k:=k) (by omega) (by unfold hqOk;rw [decide_eq_false hB];rfl)];rfl
  skip
  cases hc5
 refine wp_exit ?_
 refine k9 _ _ ?_
 refine sS H fun K20 k20=>sr 1 rfl<|sE ?_;clear H a;intro a H
 refine k20 _ ?_;clear k20 K20
 refine wp_ret ?_
 refine ret1 (fn:=Try.f18) rfl H rfl ?_
 obtain rfl:k=day.length:=by omega
 exact ⟨congrArg (Value.int .i64) (mO hst (by rw [tZ hp.2.2];exact decide_eq_true (by omega))).symm,(S.sel [] G G)⟩
theorem lU (pl:Int) (ps:List Psg) (PA:Option Addr) (pc:Nat) (xs:List Int) (XA:Option Addr) (xc:Nat) (day:List Hq) (HA:Option Addr) (hcp:Nat) (DA:Nat→Option Addr) (dc:Nat→Nat) (l:List Prm) (LA:Option Addr) (lc:Nat) (w:World) (hps:InS w noF 7 PA ps.length (pcell ps)) (hpn:ps.length≤9223372036854775807) (hxs:InS w noF 1 XA xs.length (icl xs)) (hxn:xs.length≤9223372036854775807) (hday:InS w noF 3 HA day.length (hcl day DA dc)) (hdn:day.length≤9223372036854775807) (hdp:∀ k,k<day.length→InS w noF 1 (DA k) (day.getD k Hq.zero).pe.length (icl (day.getD k Hq.zero).pe)) (hdl:∀ k,k<day.length→(day.getD k Hq.zero).pe.length≤9223372036854775807) (hl:InS w noF 5 LA l.length (jN l)) (hln:l.length≤9223372036854775807) :
    Calls Try.prog 8 [.agg [.int .i64 pl,.slice PA ps.length pc,.slice XA xs.length xc].toArray,.slice HA day.length hcp,.slice LA l.length lc].toArray w (Ret (fun v w'=>v = .int .i64 (keptE pl ps xs day l)∧St w noF [] w')):=by
 refine enter Try.func8 rfl Try.ntmps8 rfl (fun a H=>?_)
 have S:=St.start w
 refine aB fun K1 k1=>?_
 refine aS H rfl S G G ?_;clear H a S;intro b3 _ a hb3 hbw3 S H
 refine ls 1 H<|sr 1 rfl<|sE ?_;clear H a;intro a H
 refine k1 _ _ ?_;clear k1 K1
 refine aB fun K2 k2=>?_
 refine ls 2 H<|sd ((aC cN dI rfl S (i:=0) G G))<|sr 1 rfl<|sE ?_;clear H a;intro a H
 refine aA H G G Try.func18 G G (rY pl ps PA pc xs XA xc day HA hcp DA dc _ (hps.now S) hpn (hxs.now S) hxn (hday.now S) hdn (fun k hk=>(hdp k hk).now S) hdl) ?_;clear H a
 rintro _ _ a ⟨rfl,S2⟩ H
 replace S:=S.call S2;clear S2
 refine ls 1 H<|sr 1 rfl<|sE ?_;clear H a;intro a H
 refine k2 _ _ ?_;clear k2 K2
 refine wp_seq_k fun K3 k3=>?_
 refine sS H fun K4 k4=>sr 2 rfl<|sE ?_;clear H a;intro a H
 refine k4 _ ?_;clear k4 K4
 refine condN H rfl (fun hc1=>?_) (fun hc1=>?_)
 ·skip
  replace H:=H.keep [7] rfl
  refine sS H fun K5 k5=>sr 2 rfl<|sE ?_;clear H a;intro a H
  refine k5 _ ?_;clear k5 K5
  refine wp_ret ?_
  refine ret1 (fn:=Try.f8) rfl H rfl ?_
  refine ⟨congrArg (Value.int .i64) ?_,(S.sel [] G G)⟩;unfold keptE;rw [if_pos hc1]
 have hdE:dayE pl ps xs day=0:=by omega
 have hV:=oI (xP hdE).1
 have hP10:=hV.size
 refine wp_skip ?_
 refine k3 _ _ ?_
 refine wp_seq_k fun K6 k6=>?_
 refine sS H fun K7 k7=>sr 1 rfl<|sL lD rfl<|sr 1 rfl<|sE ?_;clear H a;intro a H
 refine k7 _ ?_;clear k7 K7
 refine condL H rfl (fun hc2=>?_) (fun hc2=>?_)
 ·skip
  refine sS H fun K8 k8=>sr 1 rfl<|sE ?_;clear H a;intro a H
  refine k8 _ ?_;clear k8 K8
  refine wp_ret ?_
  refine ret1 (fn:=Try.f8) rfl H rfl ?_
  exact ⟨congrArg (Value.int .i64) (kB hdE (uC (by omega))).symm,(S.sel [] G G)⟩
 refine wp_skip ?_
 refine k6 _ _ ?_
 refine wp_seq_k fun K9 k9=>?_
 refine sS H fun K10 k10=>sr 1 rfl<|sE ?_;clear H a;intro a H
 refine k10 _ ?_;clear k10 K10
 refine wp_block ?_
 refine loop_st (X:=Nat) (R0:=_) [2,3] H rfl (fun k=>[(8,.int .i64 (k:Int))]) (fun k=>[]) (fun g k=>k≤l.length∧g+k=l.length∧allN (fun k=>prmOk pl (l.getD k Prm.zero)) k=true) (l.length) 0 ?_ (S.sel [0] G G) (H.keep [8,2,3] rfl) ?_
 · exact ⟨by omega,by omega,rfl⟩
 clear H S a
 intro g1 x1 a w1 hp S H K11 k11
 obtain ⟨k,rfl⟩:∃ y,y=x1:=⟨_,rfl⟩
 refine wp_seq_k fun K12 k12=>?_
 refine sS H fun K13 k13=>sr 2 rfl<|sL lD rfl<|sr 1 rfl<|sE ?_;clear H a;intro a H
 refine k13 _ ?_;clear k13 K13
 refine condL H rfl (fun hc3=>?_) (fun hc3=>?_)
 ·skip
  refine wp_skip ?_
  refine k12 _ _ ?_
  refine wp_seq_k fun K14 k14=>?_
  refine wp_block ?_
  replace H:=H.keep [2,3,8] rfl
  refine aB fun K15 k15=>?_
  refine ls 4 H<|sr 2 rfl<|si lD lC G G (hl.adr (by omega)) (by omega)<|sd ((bG vF lC rfl S hl (by omega) (by omega)))<|sE ?_;clear H a;intro a H
  refine aJ H rfl S Bz ?_;clear H a S;intro b9 _ a hb9 hbw9 S H
  refine aD H S (i:=0) G G G G lC G G ?_
  clear H a S;intro _ a S H
  refine k15 _ _ ?_;clear k15 K15
  replace H:=H.keep [2,3,8,9] rfl
  refine sS H fun K16 k16=>sf rF rfl<|sl S 0 aF G G G<|sf cS rfl<|sl S 1 aF G G G<|sd (bK G G (by unfold i64ok;omega))<|sc rfl Try.func16 G G (bQ _ _ _ _)<|sr 2 rfl<|sg 7 7 36 43 false G G (fun hg8=>by
      have hq8:=hg8;try simp only [o1,o2,o3,o4,o5,o6,o7,o8,o9,oa] at hq8
      exact sy hg8<|sf rG rfl<|sy hg8<|sl S 0 aF G G G<|sy hg8<|sf cS rfl<|sy hg8<|sl S 1 aF G G G<|sy hg8<|sd (bK G G (by unfold i64ok;omega))<|sy hg8<|sc rfl Try.func16 G G (bQ _ _ _ _)<|sy hg8<|sr 1 rfl<|sz 7 G G G)<|so G G G<|sr 1 rfl<|sg 6 16 45 51 false G G (fun hg17=>by
      have hq17:=hg17;try simp only [o1,o2,o3,o4,o5,o6,o7,o8,o9,oa] at hq17
      exact sy hg17<|sf nJ rfl<|sy hg17<|sl S 0 aF G G G<|sy hg17<|sf lH rfl<|sy hg17<|sl S 0 aF G G G<|sy hg17<|sc rfl Try.func16 G G (bQ _ _ _ _)<|sy hg17<|sr 1 rfl<|sz 6 G G G)<|so G G G<|sr 1 rfl<|sg 3 24 53 56 false G G (fun hg25=>by
      have hq25:=hg25;try simp only [o1,o2,o3,o4,o5,o6,o7,o8,o9,oa] at hq25
      exact sy hg25<|sf lH rfl<|sy hg25<|sl S 0 aF G G G<|sy hg25<|sr 1 rfl<|sz 3 G G G)<|so G G G<|sE ?_;clear H a;intro a H
  refine k16 _ ?_;clear k16 K16
  refine aQ H rfl (fun hc4=>?_) (fun hc4=>?_)
  ·skip
   try simp only [o1,o2,o3,o4,o5,o6,o7,o8,o9,oa] at hc4
   replace H:=H.keep [] rfl
   refine sS H fun K17 k17=>sr 1 rfl<|sE ?_;clear H a;intro a H
   refine k17 _ ?_;clear k17 K17
   refine wp_ret ?_
   refine ret1 (fn:=Try.f8) rfl H rfl ?_
   exact ⟨congrArg (Value.int .i64) (kB hdE (xQ (k:=k) (by omega) (Dr (by omega)))).symm,(S.sel [] G G)⟩
  try simp only [o1,o2,o3,o4,o5,o6,o7,o8,o9,oa] at hc4
  refine wp_skip ?_
  refine k14 _ _ ?_
  refine sO H<|sr 1 rfl<|sd (aH G G (by unfold i64ok;omega))<|sr 1 rfl<|sE ?_;clear H a;intro a H
  exact k11 (g1-1) (k+1) a _ (by omega) (⟨by omega,by omega,bT hp.2.2 (mN.2 (by omega))⟩) (S.sel [1] G G) (H.keep [8,2,3] rfl)
 refine wp_exit ?_
 refine k9 _ _ ?_
 refine sS H fun K19 k19=>sr 1 rfl<|sE ?_;clear H a;intro a H
 refine k19 _ ?_;clear k19 K19
 refine wp_ret ?_
 refine ret1 (fn:=Try.f8) rfl H rfl ?_
 obtain rfl:k=l.length:=by omega
 exact ⟨congrArg (Value.int .i64) (pB hdE (xR hp.2.2 (by omega))).symm,(S.sel [] G G)⟩
end
section
theorem jO (pl:Int) (ps:List Psg) (PA:Option Addr) (pc:Nat) (xs:List Int) (XA:Option Addr) (xc:Nat) (out:Int) (pe:List Int) (BA:Option Addr) (bc:Nat) (T:Int) (w:World) (hps:InS w noF 7 PA ps.length (pcell ps)) (hpn:ps.length≤9223372036854775807) (hxs:InS w noF 1 XA xs.length (icl xs)) (hxn:xs.length≤9223372036854775807) (hpe:InS w noF 1 BA pe.length (icl pe)) (hpen:pe.length≤9223372036854775807) :
    Calls Try.prog 6 [.agg [.int .i64 pl,.slice PA ps.length pc,.slice XA xs.length xc].toArray,.int .i64 out,.slice BA pe.length bc,.int .i64 T].toArray w (Ret (fun v w'=>v = .int .i64 (jL pl ps xs out pe T)∧St w noF [] w')):=by
 refine enter Try.func6 rfl Try.ntmps6 rfl (fun a H=>?_)
 have S:=St.start w
 refine aB fun K1 k1=>?_
 refine aS H rfl S G G ?_;clear H a S;intro b4 _ a hb4 hbw4 S H
 refine ls 1 H<|sr 1 rfl<|sE ?_;clear H a;intro a H
 refine k1 _ _ ?_;clear k1 K1
 refine aB fun K2 k2=>?_
 refine ls 1 H<|sd ((aC cN dI rfl S (i:=0) G G))<|sE ?_;clear H a;intro a H
 refine aA H G G Try.func13 G G (mZ pl ps PA pc xs XA xc _ (hps.now S) hpn (hxs.now S) hxn) ?_;clear H a
 rintro _ _ a ⟨rfl,S2⟩ H
 replace S:=S.call S2;clear S2
 refine ls 1 H<|sr 1 rfl<|sE ?_;clear H a;intro a H
 refine k2 _ _ ?_;clear k2 K2
 refine wp_seq_k fun K3 k3=>?_
 refine sS H fun K4 k4=>sr 2 rfl<|sE ?_;clear H a;intro a H
 refine k4 _ ?_;clear k4 K4
 refine condN H rfl (fun hc1=>?_) (fun hc1=>?_)
 ·skip
  refine sS H fun K5 k5=>sr 2 rfl<|sE ?_;clear H a;intro a H
  refine k5 _ ?_;clear k5 K5
  refine wp_ret ?_
  refine ret1 (fn:=Try.f6) rfl H rfl ?_
  refine ⟨?_,(S.sel [] G G)⟩;unfold jL;rw [if_pos hc1]
 refine wp_skip ?_
 refine k3 _ _ ?_
 refine wp_seq_k fun K6 k6=>?_
 replace H:=H.keep [1,2,3,4] rfl
 refine aB fun K7 k7=>?_
 refine ls 1 H<|sr 1 rfl<|sE ?_;clear H a;intro a H
 refine aA H G G Try.func14 G G (rX _ _) ?_;clear H a
 rintro _ _ a ⟨rfl,rfl⟩ H
 refine ls 2 H<|sr 2 rfl<|sE ?_;clear H a;intro a H
 apply bP (i:=3) (g:=18) (t:=22) (b:=false) 4 H S G G (by kernel_rfl) (by kernel_rfl) G G
 case h1=>
  intro hg4
  have hq4:=hg4;try simp only [o1,o2,o3,o4,o5,o6,o7,o8,o9,oa] at hq4
  refine ls 2 H<|sy hg4<|sd ((aC cN dI rfl S (i:=0) G G))<|sy hg4<|sr 1 rfl<|sE ?_;intro a H
  refine cC H G G (by assumption) ?_
  refine aA H G G Try.func15 G G (lT pl ps PA pc xs XA xc pe BA bc _ (hpe.now S) hpen) ?_
  rintro _ _ a ⟨rfl,S2⟩ H
  replace S:=S.call S2;clear S2
  refine ls 1 H<|sy hg4<|sr 1 rfl<|sE ?_;intro a H
  exact wpList_nil ⟨H.strip 4 G G,(S.sel [0] G G)⟩
 clear H a S;intro a _ H S
 refine ls 6 H<|so G G G<|sr 1 rfl<|sg 3 9 24 27 false G G (fun hg10=>by
     have hq10:=hg10;try simp only [o1,o2,o3,o4,o5,o6,o7,o8,o9,oa] at hq10
     exact sy hg10<|sr 1 rfl<|sy hg10<|sc rfl Try.func16 G G (bQ _ _ _ _)<|sy hg10<|sr 1 rfl<|sz 3 G G G)<|so G G G<|sE ?_;clear H a;intro a H
 refine k7 _ _ ?_;clear k7 K7
 refine aQ H rfl (fun hc2=>?_) (fun hc2=>?_)
 ·skip
  try simp only [o1,o2,o3,o4,o5,o6,o7,o8,o9,oa] at hc2
  replace H:=H.keep [] rfl
  refine sS H fun K8 k8=>sr 1 rfl<|sE ?_;clear H a;intro a H
  refine k8 _ ?_;clear k8 K8
  refine wp_ret ?_
  refine ret1 (fn:=Try.f6) rfl H rfl ?_
  refine ⟨?_,(S.sel [] rfl rfl)⟩;unfold jL;rw [if_neg (by omega),if_neg (by simp only [Bool.and_eq_true,decide_eq_true_eq];rcases hc2 with (h|h)|h <;> first|(intro h9;omega)|(rw [h];simp))]
 try simp only [o1,o2,o3,o4,o5,o6,o7,o8,o9,oa] at hc2
 refine wp_skip ?_
 refine k6 _ _ ?_
 refine sS H fun K9 k9=>sr 1 rfl<|sE ?_;clear H a;intro a H
 refine k9 _ ?_;clear k9 K9
 refine wp_ret ?_
 refine ret1 (fn:=Try.f6) rfl H rfl ?_
 refine ⟨?_,(S.sel [] G G)⟩;unfold jL;rw [if_neg (by omega),if_pos (by simp only [Bool.and_eq_true,decide_eq_true_eq];exact ⟨⟨by omega,hc2.1.2⟩,by omega⟩)]
end
section
theorem Jj {pe:List Int} (hpp:∀ k,k<pe.length→0≤pe.getD k 0∧pe.getD k 0≤1000) (hl:pe.length≤12) {k:Nat} (hk:k≤pe.length):0≤sumI pe k∧sumI pe k≤12000:=by
  have:=xS hpp k hk
  omega
theorem uF (pl:Int) (ps:List Psg) (PA:Option Addr) (pc:Nat) (xs:List Int) (XA:Option Addr) (xc:Nat) (pe:List Int) (BA:Option Addr) (bc:Nat) (T0:Int) (w:World) (hps:InS w noF 7 PA ps.length (pcell ps)) (hpn:ps.length≤9223372036854775807) (hxs:InS w noF 1 XA xs.length (icl xs)) (hxn:xs.length≤9223372036854775807) (hpe:InS w noF 1 BA pe.length (icl pe)) (hpen:pe.length≤9223372036854775807) :
    Calls Try.prog 4 [.agg [.int .i64 pl,.slice PA ps.length pc,.slice XA xs.length xc].toArray,.slice BA pe.length bc,.int .i64 T0].toArray w (Ret (fun u w'=>∃ b,u = .bool b∧(b=false→ps.length≤26∧pe.length≤12)∧St w noF [] w')):=by
 refine enter Try.func4 rfl Try.ntmps4 rfl (fun a H=>?_)
 have S:=St.start w
 refine aB fun K1 k1=>?_
 refine aS H rfl S G G ?_;clear H a S;intro b3 _ a hb3 hbw3 S H
 refine ls 1 H<|sr 1 rfl<|sE ?_;clear H a;intro a H
 refine k1 _ _ ?_;clear k1 K1
 refine wp_seq_k fun K2 k2=>?_
 replace H:=H.keep [1,2,3] rfl
 refine sS H fun K3 k3=>sf fU rfl<|sl S 0 iO G G G<|sL iU rfl<|sr 2 rfl<|sg 3 4 13 16 false G G (fun hg5=>sy hg5<|sr 1 rfl<|sy hg5<|sL aN rfl<|sy hg5<|sr 1 rfl<|sz 3 G G G)<|so G G G<|sE ?_;clear H a;intro a H
 refine k3 _ ?_;clear k3 K3
 refine aQ H rfl (fun hc1=>?_) (fun hc1=>?_)
 ·skip
  try simp only [o1,o2,o3,o4,o5,o6,o7,o8,o9,oa] at hc1
  replace H:=H.keep [] rfl
  refine sS H fun K4 k4=>sr 1 rfl<|sE ?_;clear H a;intro a H
  refine k4 _ ?_;clear k4 K4
  refine wp_ret ?_
  refine ret1 (fn:=Try.f4) rfl H rfl ?_
  exact ⟨_,rfl,(fun h=>by cases h),(S.sel [] G G)⟩
 try simp only [o1,o2,o3,o4,o5,o6,o7,o8,o9,oa] at hc1
 refine wp_skip ?_
 refine k2 _ _ ?_
 refine wp_seq_k fun K5 k5=>?_
 refine aB fun K6 k6=>?_
 refine ls 3 H<|sd ((aC cN dI rfl S (i:=0) G G))<|sr 2 rfl<|sE ?_;clear H a;intro a H
 refine aA H G G Try.func6 G G (jO pl ps PA pc xs XA xc 0 pe BA bc T0 _ (hps.now S) hpn (hxs.now S) hxn (hpe.now S) hpen) ?_;clear H a
 rintro _ _ a ⟨rfl,S2⟩ H
 replace S:=S.call S2;clear S2
 refine ls 1 H<|sr 1 rfl<|sE ?_;clear H a;intro a H
 refine k6 _ _ ?_;clear k6 K6
 refine condN H rfl (fun hc2=>?_) (fun hc2=>?_)
 ·skip
  refine sS H fun K7 k7=>sr 1 rfl<|sE ?_;clear H a;intro a H
  refine k7 _ ?_;clear k7 K7
  refine wp_ret ?_
  refine ret1 (fn:=Try.f4) rfl H rfl ?_
  exact ⟨_,rfl,fun _=>⟨by omega,by omega⟩,(S.sel [] G G)⟩
 obtain ⟨hst,hou,hcr,hti⟩:=mJ (show jL pl ps xs 0 pe T0=0 by omega)
 obtain ⟨hpp,hpl'⟩:=tP hcr
 refine wp_skip ?_
 refine k5 _ _ ?_
 refine sS H fun K8 k8=>sr 1 rfl<|sE ?_;clear H a;intro a H
 refine k8 _ ?_;clear k8 K8
 refine wp_seq_k fun K9 k9=>?_
 refine sS H fun K10 k10=>sr 1 rfl<|sE ?_;clear H a;intro a H
 refine k10 _ ?_;clear k10 K10
 refine wp_block ?_
 refine loop_st (X:=Nat) (R0:=_) [1,2,3] H rfl (fun k=>[(7,.int .i64 (sumI pe k)),(8,.int .i64 (k:Int))]) (fun k=>[]) (fun g k=>k≤pe.length∧g+k=pe.length) (pe.length) 0 ?_ (S.sel [0] G G) (H.keep [7,8,1,2,3] rfl) ?_
 · exact ⟨by omega,by omega⟩
 clear H S a
 intro g1 x1 a w1 hp S H K11 k11
 obtain ⟨k,rfl⟩:∃ y,y=x1:=⟨_,rfl⟩
 refine wp_seq_k fun K12 k12=>?_
 refine sS H fun K13 k13=>sr 2 rfl<|sL aN rfl<|sr 1 rfl<|sE ?_;clear H a;intro a H
 refine k13 _ ?_;clear k13 K13
 refine condL H rfl (fun hc3=>?_) (fun hc3=>?_)
 ·skip
  refine wp_skip ?_
  refine k12 _ _ ?_
  refine wp_seq_k fun K14 k14=>?_
  refine wp_block ?_
  have hsb:=Jj hpp (by omega) (k:=k) (by omega);have hsk:=hpp k (by omega)
  replace H:=H.keep [1,2,3,7,8] rfl
  refine sO H<|sr 3 rfl<|si aN aX G G (hpe.adr (by omega)) (by omega)<|slm aF rfl (hpe.rd S (by omega) (by omega))<|sd (aH G G (by unfold i64ok;omega))<|sr 1 rfl<|sE ?_;clear H a;intro a H
  refine k14 _ _ ?_
  replace H:=H.keep [1,2,3,7,8] rfl
  refine sO H<|sr 1 rfl<|sd (aH G G (by unfold i64ok;omega))<|sr 1 rfl<|sE ?_;clear H a;intro a H
  exact k11 (g1-1) (k+1) a _ (by omega) (⟨by omega,by omega⟩) (S.sel [0] G G) (H.keep [7,8,1,2,3] rfl)
 refine wp_exit ?_
 refine k9 _ _ ?_
 replace H:=H.keep [2,3,7] rfl
 refine sS H fun K17 k17=>sf fU rfl<|sl S 0 iO G G G<|sL iU rfl<|sr 2 rfl<|sg 2 4 39 41 false G G (fun hg5=>sy hg5<|sr 1 rfl<|sy hg5<|sr 1 rfl<|sz 2 G G G)<|so G G G<|sr 1 rfl<|sg 2 8 43 45 false G G (fun hg9=>sy hg9<|sr 1 rfl<|sy hg9<|sr 1 rfl<|sz 2 G G G)<|so G G G<|sr 1 rfl<|sE ?_;clear H a;intro a H
 refine k17 _ ?_;clear k17 K17
 refine wp_ret ?_
 refine ret1 (fn:=Try.f4) rfl H rfl ?_
 exact ⟨_,rfl,fun _=>⟨by omega,by omega⟩,(S.sel [] G G)⟩
end
section
theorem lowA_next {l:List Int} {lo:Int} {k:Nat}:lowA l lo (k+1)=l.getD k 0+1:=by unfold lowA;rw [if_neg (by omega)];rfl
theorem pwh {hz:Int} (h:0≤hz∧hz≤12):0≤(1:Int)*2^hz.toNat∧(1:Int)*2^hz.toNat≤4096:=by
  rw [Int.one_mul]
  have h8:2^hz.toNat≤4096:=Nat.le_trans (Nat.pow_le_pow_right (by omega) (show hz.toNat≤12 by omega)) (by decide)
  have e:(2:Int)^hz.toNat=((2^hz.toNat:Nat):Int):=(Int.natCast_pow 2 hz.toNat).symm
  rw [e]
  exact ⟨Int.natCast_nonneg _,Int.ofNat_le.2 h8⟩
def bcl (l:List Bool):Nat→Nat→Value:=fun k _ => .bool (l.getD k false)
theorem zZ {l:List Bool} {k:Nat} (hk:k<l.length) (h:(l.take k).all (fun b=>b)=true) (h2:l.getD k false=true):(l.take (k+1)).all (fun b=>b)=true:=by
  rw [List.getD_eq_getElem?_getD,List.getElem?_eq_getElem hk] at h2
  rw [List.take_succ_eq_append_getElem hk,List.all_append,h]
  simpa using h2
theorem Gq {l:List Bool} {k:Nat} (hk:k<l.length) (h:l.getD k false=false):l.all (fun b=>b)=false:=by
  rw [List.getD_eq_getElem?_getD,List.getElem?_eq_getElem hk] at h
  cases hb:l.all (fun b=>b) with
  | false=>rfl
  | true=>have:=List.all_eq_true.1 hb _ (List.getElem_mem hk);simp at h;rw [h] at this;cases this
theorem Aa (n many:Int) (w:World) (hm:0≤many∧many≤12) :
    Calls Try.prog 69 [.int .i64 n,.int .i64 many].toArray w (Ret (fun u w'=>u = .bool (setB n many)∧St w noF [] w')):=by
 have hpw:=pwh hm
 refine enter Try.func69 rfl Try.ntmps69 rfl (fun a H=>?_)
 have S:=St.start w
 refine sS H fun K1 k1=>sr 1 rfl<|sE ?_;clear H a;intro a H
 refine k1 _ ?_;clear k1 K1
 replace H:=H.keep [0,1] rfl
 refine sS H fun K2 k2=>sr 3 rfl<|sg 4 2 7 11 true G G (fun hg3=>sy hg3<|sr 1 rfl<|sy hg3<|sr 1 rfl<|sy hg3<|sd (dE G G (by omega) (by omega) (by unfold i64ok;omega))<|sy hg3<|sr 1 rfl<|sz 4 G G G)<|sa G G G<|sr 1 rfl<|sE ?_;clear H a;intro a H
 refine k2 _ ?_;clear k2 K2
 refine wp_ret ?_
 refine ret1 (fn:=Try.f69) rfl H rfl ?_
 exact ⟨rfl,(S.sel [] G G)⟩
theorem wH (n:Int) (w:World) :
    Calls Try.prog 71 [.int .i64 n].toArray w (Ret (fun u w'=>u = .bool (!decide (n=1))∧St w noF [] w')):=by
 refine enter Try.func71 rfl Try.ntmps71 rfl (fun a H=>?_)
 have S:=St.start w
 refine sS H fun K1 k1=>sr 1 rfl<|sE ?_;clear H a;intro a H
 refine k1 _ ?_;clear k1 K1
 refine sS H fun K2 k2=>sr 3 rfl<|sE ?_;clear H a;intro a H
 refine k2 _ ?_;clear k2 K2
 refine wp_ret ?_
 refine ret1 (fn:=Try.f71) rfl H rfl ?_
 exact ⟨rfl,(S.sel [] G G)⟩
theorem gW (l:List Int) (A:Option Addr) (cp:Nat) (lo hi:Int) (w:World) (hl:InS w noF 1 A l.length (icl l)) (hn:l.length≤9223372036854775807) (hlo:0≤lo∧lo≤1000) (hhi:0≤hi∧hi≤1000) :
    Calls Try.prog 70 [.slice A l.length cp,.int .i64 lo,.int .i64 hi].toArray w (Ret (fun u w'=>u = .bool (ascB l lo hi)∧St w noF [] w')):=by
 refine enter Try.func70 rfl Try.ntmps70 rfl (fun a H=>?_)
 have S:=St.start w
 refine sS H fun K1 k1=>sr 1 rfl<|sE ?_;clear H a;intro a H
 refine k1 _ ?_;clear k1 K1
 refine wp_seq_k fun K2 k2=>?_
 refine sS H fun K3 k3=>sr 1 rfl<|sL aN rfl<|sr 1 rfl<|sE ?_;clear H a;intro a H
 refine k3 _ ?_;clear k3 K3
 refine wp_block ?_
 refine loop_st (X:=Nat×Int) (R0:=_) [2,9,10] H rfl (fun ⟨k,lw⟩=>[(1,.int .i64 lw),(11,.int .i64 (k:Int))]) (fun ⟨k,lw⟩=>[]) (fun g ⟨k,lw⟩=>k≤l.length∧g+k=l.length∧(0≤lw∧lw≤1000)∧lw=lowA l lo k∧∀ q,q<k→ascP l lo hi q=true) (l.length) (0,lo) ?_ (S.sel [] G G) (H.keep [1,11,2,9,10] rfl) ?_
 · exact ⟨by omega,by omega,by omega,rfl,fun q hq=>absurd hq (Nat.not_lt_zero q)⟩
 clear H S a
 intro g1 x1 a w1 hp S H K4 k4
 obtain ⟨k,lw⟩:=x1
 dsimp only at hp S H
 refine sS H fun K5 k5=>sr 1 rfl<|sE ?_;clear H a;intro a H
 refine k5 _ ?_;clear k5 K5
 refine wp_seq_k fun K6 k6=>?_
 refine condL H rfl (fun hc1=>?_) (fun hc1=>?_)
 ·skip
  refine wp_skip ?_
  refine k6 _ _ ?_
  refine wp_seq_k fun K7 k7=>?_
  refine wp_block ?_
  refine sS H fun K8 k8=>si aN aX G G (hl.adr (by omega)) (by omega)<|slm aF rfl (hl.rd S (by omega) (by omega))<|sr 1 rfl<|sE ?_;clear H a;intro a H
  refine k8 _ ?_;clear k8 K8
  refine wp_seq_k fun K9 k9=>?_
  replace H:=H.keep [1,2,8,9,10,11] rfl
  refine sS H fun K10 k10=>sr 4 rfl<|sg 3 3 18 21 false G G (fun hg4=>sy hg4<|sr 1 rfl<|sy hg4<|sr 1 rfl<|sy hg4<|sr 1 rfl<|sz 3 G G G)<|so G G G<|sE ?_;clear H a;intro a H
  refine k10 _ ?_;clear k10 K10
  refine aQ H rfl (fun hc2=>?_) (fun hc2=>?_)
  ·skip
   try simp only [o1,o2,o3,o4,o5,o6,o7,o8,o9,oa] at hc2
   have hcx:=hc2
   refine sS H fun K11 k11=>sr 1 rfl<|sE ?_;clear H a;intro a H
   refine k11 _ ?_;clear k11 K11
   refine wp_ret ?_
   refine ret1 (fn:=Try.f70) rfl H rfl ?_
   rw [Fk (k:=k) (by omega) (by unfold ascP;rw [←hp.2.2.2.1];exact decide_eq_false (by simp at hcx;omega))];exact ⟨rfl,(S.sel [] G G)⟩
  try simp only [o1,o2,o3,o4,o5,o6,o7,o8,o9,oa] at hc2
  have hcx:=hc2
  refine wp_skip ?_
  refine k9 _ _ ?_
  simp at hcx
  replace H:=H.keep [2,8,9,10,11] rfl
  refine sO H<|sr 1 rfl<|sd (aH G G (by unfold i64ok;omega))<|sr 1 rfl<|sE ?_;clear H a;intro a H
  refine k7 _ _ ?_
  refine sO H<|sd (aH G G (by unfold i64ok;omega))<|sr 1 rfl<|sE ?_;clear H a;intro a H
  exact k4 (g1-1) (k+1,_) a _ (by omega) (⟨by omega,by omega,by omega,lowA_next.symm,fun q hq=>if h9:q<k then hp.2.2.2.2 q h9 else by
        obtain rfl:q=k:=by omega
        unfold ascP;rw [←hp.2.2.2.1];exact decide_eq_true (by omega)⟩) (S.sel [] G G) (H.keep [1,11,2,9,10] rfl)
 refine wp_exit ?_
 refine k2 _ _ ?_
 refine sS H fun K14 k14=>sr 1 rfl<|sE ?_;clear H a;intro a H
 refine k14 _ ?_;clear k14 K14
 refine wp_ret ?_
 refine ret1 (fn:=Try.f70) rfl H rfl ?_
 rw [Fj (fun q hq=>hp.2.2.2.2 q (by omega))];exact ⟨rfl,(S.sel [] G G)⟩
theorem wI (l:List Bool) (A:Option Addr) (cp:Nat) (w:World) (hl:InS w noF 1 A l.length (bcl l)) (hn:l.length≤9223372036854775807) :
    Calls Try.prog 82 [.slice A l.length cp,.bool false].toArray w (Ret (fun u w'=>∃ n:Int,u = .int .i64 n∧decide (0≤n)=!(l.all fun b=>b)∧St w noF [] w')):=by
 refine enter Try.func82 rfl Try.ntmps82 rfl (fun a H=>?_)
 have S:=St.start w
 refine sS H fun K1 k1=>sr 1 rfl<|sE ?_;clear H a;intro a H
 refine k1 _ ?_;clear k1 K1
 refine wp_seq_k fun K2 k2=>?_
 refine sS H fun K3 k3=>sr 1 rfl<|sL vK rfl<|sr 1 rfl<|sE ?_;clear H a;intro a H
 refine k3 _ ?_;clear k3 K3
 refine wp_block ?_
 refine loop_st (X:=Nat) (R0:=_) [0,1,7] H rfl (fun k=>[(8,.int .i64 (k:Int))]) (fun k=>[]) (fun g k=>k≤l.length∧g+k=l.length∧(l.take k).all (fun b=>b)=true) (l.length) 0 ?_ (S.sel [] G G) (H.keep [8,0,1,7] rfl) ?_
 · exact ⟨by omega,by omega,rfl⟩
 clear H S a
 intro g1 x1 a w1 hp S H K4 k4
 obtain ⟨k,rfl⟩:∃ y,y=x1:=⟨_,rfl⟩
 refine sS H fun K5 k5=>sr 1 rfl<|sE ?_;clear H a;intro a H
 refine k5 _ ?_;clear k5 K5
 refine wp_seq_k fun K6 k6=>?_
 refine condL H rfl (fun hc1=>?_) (fun hc1=>?_)
 ·skip
  refine wp_skip ?_
  refine k6 _ _ ?_
  refine wp_seq_k fun K7 k7=>?_
  refine wp_block ?_
  refine sS H fun K8 k8=>sr 2 rfl<|sE ?_;clear H a;intro a H
  refine k8 _ ?_;clear k8 K8
  refine sS H fun K9 k9=>sr 3 rfl<|si vK Bi G G (hl.adr (by omega)) (by omega)<|slm lB rfl (hl.rd S (by omega) (by omega))<|sd (yF Try.underlying4 G G)<|sE ?_;clear H a;intro a H
  refine k9 _ ?_;clear k9 K9
  refine aQ H rfl (fun hc2=>?_) (fun hc2=>?_)
  ·skip
   try simp only [o1,o2,o3,o4,o5,o6,o7,o8,o9,oa] at hc2
   replace H:=H.keep [5] rfl
   refine sS H fun K10 k10=>sr 2 rfl<|sE ?_;clear H a;intro a H
   refine k10 _ ?_;clear k10 K10
   refine wp_ret ?_
   refine ret1 (fn:=Try.f82) rfl H rfl ?_
   exact ⟨_,rfl,by rw [Gq (k:=k) (by omega) (by simpa using hc2)];exact decide_eq_true (by omega),(S.sel [] G G)⟩
  try simp only [o1,o2,o3,o4,o5,o6,o7,o8,o9,oa] at hc2
  refine wp_skip ?_
  refine k7 _ _ ?_
  refine sO H<|sd (aH G G (by unfold i64ok;omega))<|sr 1 rfl<|sE ?_;clear H a;intro a H
  exact k4 (g1-1) (k+1) a _ (by omega) (⟨by omega,by omega,zZ (by omega) hp.2.2 (by simpa using hc2)⟩) (S.sel [] G G) (H.keep [8,0,1,7] rfl)
 refine wp_exit ?_
 refine k2 _ _ ?_
 refine sS H fun K12 k12=>sr 1 rfl<|sE ?_;clear H a;intro a H
 refine k12 _ ?_;clear k12 K12
 refine wp_ret ?_
 refine ret1 (fn:=Try.f82) rfl H rfl ?_
 exact ⟨_,rfl,by rw [←List.take_of_length_le (l:=l) (i:=k) (by omega),hp.2.2];rfl,(S.sel [] G G)⟩
theorem pQ (l:List Bool) (A:Option Addr) (cp:Nat) (w:World) (hl:InS w noF 1 A l.length (bcl l)) (hn:l.length≤9223372036854775807) :
    Calls Try.prog 67 [.slice A l.length cp,.bool false].toArray w (Ret (fun u w'=>u = .bool (!(l.all fun b=>b))∧St w noF [] w')):=by
 refine enter Try.func67 rfl Try.ntmps67 rfl (fun a H=>?_)
 have S:=St.start w
 refine sS H fun K1 k1=>sr 1 rfl<|sE ?_;clear H a;intro a H
 refine k1 _ ?_;clear k1 K1
 refine aB fun K2 k2=>?_
 refine ls 2 H<|sr 2 rfl<|sE ?_;clear H a;intro a H
 refine aA H G G Try.func82 G G (wI l A cp _ (hl.now S) hn) ?_;clear H a
 rintro _ _ a ⟨n,rfl,hn2,S2⟩ H
 replace S:=S.call S2;clear S2
 refine ls 2 H<|sr 2 rfl<|sE ?_;clear H a;intro a H
 refine k2 _ _ ?_;clear k2 K2
 refine wp_ret ?_
 refine ret1 (fn:=Try.f67) rfl H rfl ?_
 exact ⟨congrArg Value.bool hn2,(S.sel [] G G)⟩
end
section
theorem Jk {b0 b1 b2:Bool} {v0 v1 v2:Value} (h0:v0 = .bool b0) (h1:v1 = .bool b1) (h2:v2 = .bool b2):∀ k j,k<3→j<1→([[v0],[v1],[v2]].getD k []).getD j undef=bcl [b0,b1,b2] k j:=by
  subst h0;subst h1;subst h2
  intro k j hk hj
  obtain rfl:j=0:=by omega
  rcases (show k=0∨k=1∨k=2 by omega) with rfl|rfl|rfl <;> rfl
theorem wJ (hz:Int) (sw:List Int) (SA:Option Addr) (sc:Nat) (ws:List Wr) (QA:Option Addr) (qc cb:Nat) (n:Int) (w:World) (F:Nat→Prop) (S:St w F [boxM cb 71 [.int .i64 hz,.slice SA sw.length sc,.slice QA ws.length qc]] w) (hhz:0≤hz∧hz≤12) :
    Calls Try.prog 68 [.int .i64 n,.pointer (some ⟨cb,0,none⟩)].toArray w (Ret (fun u w'=>u = .bool (!setB n hz)∧St w F [boxM cb 71 [.int .i64 hz,.slice SA sw.length sc,.slice QA ws.length qc]] w')):=by
 refine enter Try.func68 rfl Try.ntmps68 rfl (fun a H=>?_)
 skip
 refine sS H fun K1 k1=>sr 1 rfl<|sE ?_;clear H a;intro a H
 refine k1 _ ?_;clear k1 K1
 refine aB fun K2 k2=>?_
 refine ls 3 H<|sr 1 rfl<|sf nK rfl<|sl S 0 aF G G G<|sE ?_;clear H a;intro a H
 refine aA H G G Try.func69 G G (Aa n hz _ hhz) ?_;clear H a
 rintro _ _ a ⟨rfl,S2⟩ H
 replace S:=S.call S2;clear S2
 refine ls 2 H<|sr 2 rfl<|sE ?_;clear H a;intro a H
 refine k2 _ _ ?_;clear k2 K2
 refine wp_ret ?_
 refine ret1 (fn:=Try.f68) rfl H rfl ?_
 exact ⟨rfl,(S.sel [0] G G)⟩
theorem Gr (hz:Int) (sw:List Int) (SA:Option Addr) (sc:Nat) (ws:List Wr) (QA:Option Addr) (qc cb:Nat) (w:World) (F:Nat→Prop) (S:St w F [boxM cb 71 [.int .i64 hz,.slice SA sw.length sc,.slice QA ws.length qc]] w) (hsw:InS w F 1 SA sw.length (icl sw)) (hn:sw.length≤9223372036854775807) (hhz:0≤hz∧hz≤12):Calls Try.prog 30 #[.slice SA sw.length sc,.func (.func 68) #[] #[.pointer (some ⟨cb,0,none⟩)]] w (Ret fun u w'=>u = .bool (sw.any fun n=>!setB n hz)∧St w F [boxM cb 71 [.int .i64 hz,.slice SA sw.length sc,.slice QA ws.length qc]] w'):=by
  have hh:=cE sw SA sc 68 _ [] [.pointer (some ⟨cb,0,none⟩)] (fun n=>!setB n hz) _ w F S hsw hn Try.func68 G G (fun k w' hk S'=>wJ hz sw SA sc ws QA qc cb (sw.getD k 0) w' _ S'.startR hhz)
  exact hh
theorem Gs (l:List Int) (A:Option Addr) (cp:Nat) (w:World) (hl:InS w noF 1 A l.length (icl l)) (hn:l.length≤9223372036854775807):Calls Try.prog 30 #[.slice A l.length cp,.func (.func 71) #[] #[]] w (Ret fun u w'=>u = .bool (l.any fun n=>!decide (n=1))∧St w noF [] w'):=by
  have S0:=(St.start w).newNil 3 1 (icl [])
  have hh:=cE l A cp 71 _ [] [] (fun n=>!decide (n=1)) _ w noF S0 hl hn Try.func71 G G (fun k w' hk S'=>iD (wH (l.getD k 0) w') fun v w'' h=>⟨h.1,S'.startR.call h.2⟩)
  exact iD hh fun v w'' h=>⟨h.1,h.2.sel [] rfl rfl⟩
end
section
theorem Jl {hz:Int} {sw:List Int} {ws:List Wr}:([(decide (1≤hz)&&decide (hz≤8)),(decide (1≤(sw.length:Int))&&decide ((sw.length:Int)≤12)),(decide (1≤(ws.length:Int))&&decide ((ws.length:Int)≤24))].all fun b=>b)=cirSz hz sw ws:=by unfold cirSz;simp only [List.all_cons,List.all_nil,Bool.and_true]
section
variable {hz:Int} {sw:List Int} {ws:List Wr} {i:Nat}
theorem Eb (h:cirSz hz sw ws=false):circE hz sw ws=30:=jG (by unfold cirOk;rw [h];rfl)
theorem Ec (h:(sw.any fun n=>!setB n hz)=true):circE hz sw ws=30:=jG (by unfold cirOk;rw [h];simp)
theorem lV (hi:i<ws.length) (h:wrOk sw.length ws.length ws i=false):circE hz sw ws=30:=jG (by
  unfold cirOk
  cases hb:(List.range ws.length).all (wrOk sw.length ws.length ws) with
  | false=>simp
  | true=>rw [List.all_eq_true.1 hb i (List.mem_range.2 hi)] at h;cases h)
theorem Ed (h:¬ heldN ws 0 ws.length=0):circE hz sw ws=30:=jG (by unfold cirOk;rw [decide_eq_false h];simp)
theorem Ee (h:((List.range (ws.length-1)).any fun q=>!decide (heldN ws (q+1) ws.length=1))=true):circE hz sw ws=30:=jG (by unfold cirOk;rw [h];simp)
theorem Ef (h1:cirSz hz sw ws=true) (h2:(sw.any fun n=>!setB n hz)=false) (h3:∀ i,i<ws.length→wrOk sw.length ws.length ws i=true) (h4:heldN ws 0 ws.length=0) (h5:((List.range (ws.length-1)).any fun q=>!decide (heldN ws (q+1) ws.length=1))=false):circE hz sw ws=0:=yT (by
  unfold cirOk
  rw [h1,h2,decide_eq_true h4,h5,List.all_eq_true.2 (fun i hi=>h3 i (List.mem_range.1 hi))];rfl)
theorem Hs (h:cirSz hz sw ws=true):(1≤hz∧hz≤8)∧(1≤sw.length∧sw.length≤12)∧(1≤ws.length∧ws.length≤24):=by
  unfold cirSz at h
  simp only [Bool.and_eq_true,decide_eq_true_eq] at h
  omega
theorem rZ {l:List Int} {k:Nat}:∀ q,0≤cntO l k q∧cntO l k q≤q:=fun q=>by
  induction q with
  | zero=>exact ⟨Int.le_refl _,Int.le_refl _⟩
  | succ q ih=>
    have e:cntO l k (q+1)=cntO l k q+(if l.getD q 0=(k:Int) then 1 else 0):=rfl
    rw [e];split <;> omega
theorem kR {k i:Nat}:heldN ws k (i+1)=heldN ws k i+heldW (ws.getD i Wr.zero) k:=rfl
theorem xT (k:Nat):∀ i,(∀ q,q<i→wrOk sw.length ws.length ws q=true)→0≤heldN ws k i∧heldN ws k i≤8*i:=fun i=>by
  induction i with
  | zero=>intro _;exact ⟨Int.le_refl _,Int.le_refl _⟩
  | succ i ih=>
    intro h
    have h1:=ih fun q hq=>h q (by omega)
    have h2:=h i (by omega)
    rw [kR]
    unfold heldW
    split
    · omega
    · next hk=>
      unfold wrOk at h2
      rw [if_neg hk] at h2
      split at h2
      · simp only [Bool.and_eq_true,decide_eq_true_eq] at h2
        have:=rZ (l:=(ws.getD i Wr.zero).of) (k:=k) (ws.getD i Wr.zero).of.length
        omega
      · cases h2
end
section
variable {sw l:List Int} {ws:List Wr} {i k j q:Nat}
theorem wK (hk:(ws.getD i Wr.zero).kind=1) (h1:(ws.getD i Wr.zero).of.length=1) (h:ascB (ws.getD i Wr.zero).of 0 sw.length=true):wrOk sw.length ws.length ws i=true:=by
  unfold wrOk;rw [if_pos hk,h,decide_eq_true h1];rfl
theorem wL (hk:(ws.getD i Wr.zero).kind=1) (h:¬ ((ws.getD i Wr.zero).of.length:Int)=1∨ascB (ws.getD i Wr.zero).of 0 sw.length=false):wrOk sw.length ws.length ws i=false:=by
  unfold wrOk;rw [if_pos hk]
  rcases h with h|h
  · rw [decide_eq_false (by omega)];rfl
  · rw [h];simp
theorem kC (h1:¬ (ws.getD i Wr.zero).kind=1) (hk:(ws.getD i Wr.zero).kind=2∨(ws.getD i Wr.zero).kind=3) (h2:1≤(ws.getD i Wr.zero).of.length∧(ws.getD i Wr.zero).of.length≤8) (h:ascB (ws.getD i Wr.zero).of ((i:Int)+1) ws.length=true):wrOk sw.length ws.length ws i=true:=by
  unfold wrOk;rw [if_neg h1,if_pos hk,h,decide_eq_true h2];rfl
theorem nA (h1:¬ (ws.getD i Wr.zero).kind=1) (hk:(ws.getD i Wr.zero).kind=2∨(ws.getD i Wr.zero).kind=3) (h:(((ws.getD i Wr.zero).of.length:Int)<1∨8<((ws.getD i Wr.zero).of.length:Int))∨ascB (ws.getD i Wr.zero).of ((i:Int)+1) ws.length=false):wrOk sw.length ws.length ws i=false:=by
  unfold wrOk;rw [if_neg h1,if_pos hk]
  rcases h with h|h
  · rw [decide_eq_false (by omega)];rfl
  · rw [h];simp
theorem Gt (h1:¬ (ws.getD i Wr.zero).kind=1) (h2:¬ (ws.getD i Wr.zero).kind=2) (h3:¬ (ws.getD i Wr.zero).kind=3):wrOk sw.length ws.length ws i=false:=by
  unfold wrOk;rw [if_neg h1,if_neg (fun h=>h.elim h2 h3)]
theorem pE (h1:(ws.getD i Wr.zero).kind=1):heldN ws k i=heldN ws k (i+1):=by rw [kR];unfold heldW;rw [if_pos h1,Int.add_zero]
theorem mP (h1:¬ (ws.getD i Wr.zero).kind=1) (hq:q=(ws.getD i Wr.zero).of.length):heldN ws k i+cntO (ws.getD i Wr.zero).of k q=heldN ws k (i+1):=by rw [kR];unfold heldW;rw [if_neg h1,hq]
theorem uG (hx:0≤l.getD q 0) (hj:j<1):cput (fun k _ => .int .i64 (heldN ws k i+cntO l k q)) (l.getD q 0).toNat 0 (.int .i64 (heldN ws (l.getD q 0).toNat i+cntO l (l.getD q 0).toNat q+1)) k j = .int .i64 (heldN ws k i+cntO l k (q+1)):=by
  have e:cntO l k (q+1)=cntO l k q+(if l.getD q 0=(k:Int) then 1 else 0):=rfl
  unfold cput
  rw [e]
  by_cases h:k=(l.getD q 0).toNat
  · rw [if_pos ⟨h,by omega⟩,if_pos (by omega),←h,Int.add_assoc]
  · rw [if_neg (fun h9=>h h9.1),if_neg (by omega),Int.add_zero]
end
theorem kD {ws:List Wr}:((List.range (ws.length-1)).map fun q=>heldN ws (q+1) ws.length).length=ws.length-1:=by rw [List.length_map,List.length_range]
theorem qM {ws:List Wr}:(((List.range (ws.length-1)).map fun q=>heldN ws (q+1) ws.length).any fun n=>!decide (n=1))=(List.range (ws.length-1)).any fun q=>!decide (heldN ws (q+1) ws.length=1):=by rw [List.any_map];rfl
theorem Eh {ws:List Wr} {q:Nat} (h:q<ws.length-1):((List.range (ws.length-1)).map fun q=>heldN ws (q+1) ws.length).getD q 0=heldN ws (q+1) ws.length:=by
  rw [List.getD_eq_getElem?_getD,List.getElem?_eq_getElem (by rw [kD];exact h),Option.getD_some,List.getElem_map,List.getElem_range]
theorem Ei {ws:List Wr} {w:World} {A:Option Addr} (h:InS w noF 1 A ws.length (fun k _ => .int .i64 (heldN ws k ws.length))) (hw:1≤ws.length):InS w noF 1 (cutA A ws.length 1 1) ((List.range (ws.length-1)).map fun q=>heldN ws (q+1) ws.length).length (icl ((List.range (ws.length-1)).map fun q=>heldN ws (q+1) ws.length)):=by
  rw [kD]
  refine (h.cut (lo:=1) (hi:=ws.length) hw (Nat.le_refl _) (Nat.le_refl _)).congr fun k j hk hj=>?_
  unfold icl
  rw [Eh hk,Nat.add_comm 1 k]
theorem Ab (hz:Int) (sw:List Int) (SA:Option Addr) (sc:Nat) (ws:List Wr) (QA:Option Addr) (qc:Nat) (OA:Nat→Option Addr) (oc:Nat→Nat) (w:World) (hsw:InS w noF 1 SA sw.length (icl sw)) (hws:InS w noF 2 QA ws.length (eG ws OA oc)) (hof:∀ k,k<ws.length→InS w noF 1 (OA k) (ws.getD k Wr.zero).of.length (icl (ws.getD k Wr.zero).of)) (hsn:sw.length≤9223372036854775807) (hwn:ws.length≤9223372036854775807) (hofn:∀ k,k<ws.length→(ws.getD k Wr.zero).of.length≤9223372036854775807) :
    Calls Try.prog 56 [.agg [.int .i64 hz,.slice SA sw.length sc,.slice QA ws.length qc].toArray].toArray w (Ret (fun u w'=>u = .int .i64 (circE hz sw ws)∧St w noF [] w')):=by
 refine enter Try.func56 rfl Try.ntmps56 rfl (fun a H=>?_)
 have S:=St.start w
 refine aB fun K1 k1=>?_
 refine aS H rfl S G G ?_;clear H a S;intro b1 _ a hb1 hbw1 S H
 refine ls 1 H<|sr 1 rfl<|sE ?_;clear H a;intro a H
 refine k1 _ _ ?_;clear k1 K1
 replace H:=H.keep [1] rfl
 refine aB fun K2 k2=>?_
 refine ls 28 H<|sf nK rfl<|sl S 0 aF G G G<|sr 2 rfl<|sg 3 3 12 15 true G G (fun hg4=>sy hg4<|sf nK rfl<|sy hg4<|sl S 0 aF G G G<|sy hg4<|sr 1 rfl<|sz 3 G G G)<|sa G G G<|sf gQ rfl<|sl S 0 aZ G G G<|sL aN rfl<|sr 2 rfl<|sg 4 12 21 25 true G G (fun hg13=>sy hg13<|sf gQ rfl<|sy hg13<|sl S 0 aZ G G G<|sy hg13<|sL aN rfl<|sy hg13<|sr 1 rfl<|sz 4 G G G)<|sa G G G<|sf iP rfl<|sl S 0 kK G G G<|sL lF rfl<|sr 2 rfl<|sg 4 22 31 35 true G G (fun hg23=>sy hg23<|sf iP rfl<|sy hg23<|sl S 0 kK G G G<|sy hg23<|sL lF rfl<|sy hg23<|sr 1 rfl<|sz 4 G G G)<|sa G G G<|sE ?_;clear H a;intro a H
 refine aY H rfl S vK Bi Li G G G G G G G G G ?_;clear H a S;intro A1 _ a hA1 S H
 replace S:=S.recell (i:=0) rfl (cell':=bcl [(decide (1≤hz)&&decide (hz≤8)),(decide (1≤(sw.length:Int))&&decide ((sw.length:Int)≤12)),(decide (1≤(ws.length:Int))&&decide ((ws.length:Int)≤24))]) (Jk G G G)
 refine ls 1 H<|sr 1 rfl<|sE ?_;clear H a;intro a H
 refine k2 _ _ ?_;clear k2 K2
 refine wp_seq_k fun K3 k3=>?_
 replace H:=H.keep [1,3] rfl
 refine aB fun K4 k4=>?_
 refine ls 1 H<|sr 1 rfl<|sE ?_;clear H a;intro a H
 refine aA H G G Try.func67 G G (pQ [(decide (1≤hz)&&decide (hz≤8)),(decide (1≤(sw.length:Int))&&decide ((sw.length:Int)≤12)),(decide (1≤(ws.length:Int))&&decide ((ws.length:Int)≤24))] _ _ _ (ownM.inS S (i:=0) rfl) (by simp)) ?_;clear H a
 rintro _ _ a ⟨rfl,S2⟩ H
 replace S:=S.call S2;clear S2
 rw [Jl] at H
 refine ls 1 H<|sr 1 rfl<|sE ?_;clear H a;intro a H
 apply bP (i:=2) (g:=40) (t:=44) (b:=false) 4 H S G G (by kernel_rfl) (by kernel_rfl) G G
 case h1=>
  intro hg3
  refine ls 3 H<|sy hg3<|sf gQ rfl<|sy hg3<|sl S 1 aZ G G G<|sy hg3<|sr 1 rfl<|sE ?_;intro a H
  refine cC H G G (by assumption) ?_
  have S1:=(S.sel [1] G G)
  refine aA H G G Try.func30 G G (Gr hz sw SA sc ws QA qc b1 _ _ S1.startR (hsw.nowR S1) hsn (by have:=Hs (hz:=hz) (sw:=sw) (ws:=ws) (by simpa using hg3);omega)) ?_
  rintro _ _ a ⟨rfl,S2⟩ H
  replace S:=(S.sel [1,0] G G).callR (M:=[_]) S2;clear S1 S2
  exact wpList_nil ⟨H.strip 4 G G,(S.sel [1,0] G G)⟩
 clear H a S;intro a _ H S
 refine ls 1 H<|so G G G<|sE ?_;clear H a;intro a H
 refine k4 _ _ ?_;clear k4 K4
 refine aQ H rfl (fun hc1=>?_) (fun hc1=>?_)
 ·skip
  try simp only [o1,o2,o3,o4,o5,o6,o7,o8,o9,oa] at hc1
  refine sS H fun K5 k5=>sr 1 rfl<|sE ?_;clear H a;intro a H
  refine k5 _ ?_;clear k5 K5
  refine wp_ret ?_
  refine ret1 (fn:=Try.f56) rfl H rfl ?_
  rw [show circE hz sw ws=30 from hc1.elim Eb Ec];exact ⟨rfl,(S.sel [] G G)⟩
 try simp only [o1,o2,o3,o4,o5,o6,o7,o8,o9,oa] at hc1
 refine wp_skip ?_
 refine k3 _ _ ?_
 obtain ⟨hS1,hS2,hS3⟩:=Hs hc1.1
 replace H:=H.keep [1] rfl
 refine aB fun K6 k6=>?_
 refine ls 3 H<|sf iP rfl<|sl S 1 kK G G G<|sL lF rfl<|sE ?_;clear H a;intro a H
 refine fA (n:=ws.length) H rfl S aN aX eF lL rfl (by decide) G G (by omega) (by omega) ?_;clear H a S;intro A2 _ a hA2 S H
 generalize A2=AH at S H
 replace S:=S.recell (i:=0) rfl (cell':=fun k _ => .int .i64 (heldN ws k 0)) (fun k j _ hj=>by
   obtain rfl:j=0:=by omega
   rfl)
 refine ls 1 H<|sr 1 rfl<|sE ?_;clear H a;intro a H
 refine k6 _ _ ?_;clear k6 K6
 refine wp_seq_k fun K7 k7=>?_
 refine sS H fun K8 k8=>sf iP rfl<|sl S 2 kK G G G<|sL lF rfl<|sr 1 rfl<|sE ?_;clear H a;intro a H
 refine k8 _ ?_;clear k8 K8
 refine wp_block ?_
 refine loop_st (X:=Nat) (R0:=_) [1,4,51,52] H rfl (fun i=>[(53,.int .i64 (i:Int))]) (fun i=>[ownM 3 1 AH ws.length ws.length (fun k _ => .int .i64 (heldN ws k i))]) (fun g i=>i≤ws.length∧g+i=ws.length∧∀ q,q<i→wrOk sw.length ws.length ws q=true) (ws.length) 0 ?_ (S.sel [0,1,2] G G) (H.keep [53,1,4,51,52] rfl) ?_
 · exact ⟨by omega,by omega,fun q hq=>absurd hq (Nat.not_lt_zero q)⟩
 clear H S a
 intro g1 x1 a w1 hp S H K9 k9
 obtain ⟨i,rfl⟩:∃ y,y=x1:=⟨_,rfl⟩
 obtain ⟨hi1,hi2,hwk⟩:=hp
 refine sS H fun K10 k10=>sr 1 rfl<|sE ?_;clear H a;intro a H
 refine k10 _ ?_;clear k10 K10
 refine wp_seq_k fun K11 k11=>?_
 refine condL H rfl (fun hc2=>?_) (fun hc2=>?_)
 ·skip
  refine wp_skip ?_
  refine k11 _ _ ?_
  refine wp_seq_k fun K12 k12=>?_
  refine wp_block ?_
  refine aB fun K13 k13=>?_
  refine ls 3 H<|sr 1 rfl<|si lF kL G G (hws.adr (by omega)) (by omega)<|sd ((bG wT kL rfl S hws (by omega) (by omega)))<|sE ?_;clear H a;intro a H
  refine aJ H rfl S rJ ?_;clear H a S;intro b6 _ a hb6 hbw6 S H
  refine ls 1 H<|sr 1 rfl<|sE ?_;clear H a;intro a H
  refine aD H S (i:=0) G G G G kL G G ?_
  clear H a S;intro _ a S H
  refine k13 _ _ ?_;clear k13 K13
  refine sS H fun K14 k14=>sf tI rfl<|sl S 0 aF G G G<|sE ?_;clear H a;intro a H
  refine k14 _ ?_;clear k14 K14
  refine wp_block ?_
  replace H:=H.keep [1,4,5,6,51,52,53,59] rfl
  refine sS H fun K15 k15=>sr 2 rfl<|sE ?_;clear H a;intro a H
  refine k15 _ ?_;clear k15 K15
  refine condE H rfl (fun hc3=>?_) (fun hc3=>?_)
  ·skip
   replace H:=H.keep [1,4,6,51,52,53] rfl
   refine aB fun K16 k16=>?_
   refine ls 5 H<|sf cY rfl<|sl S 0 aZ G G G<|sL aN rfl<|sr 2 rfl<|sE ?_;clear H a;intro a H
   apply bP (i:=4) (g:=66) (t:=73) (b:=false) 7 H S G G (by kernel_rfl) (by kernel_rfl) G G
   case h1=>
    intro hg5
    refine ls 5 H<|sy hg5<|sf cY rfl<|sy hg5<|sl S 0 aZ G G G<|sy hg5<|sf gQ rfl<|sy hg5<|sl S 3 aZ G G G<|sy hg5<|sL aN rfl<|sE ?_;intro a H
    refine cC H G G (by assumption) ?_
    refine aA H G G Try.func70 G G (gW (ws.getD i Wr.zero).of (OA i) (oc i) _ _ _ ((hof i (by omega)).now S) (hofn i (by omega)) (by omega) (by omega)) ?_
    rintro _ _ a ⟨rfl,S2⟩ H
    replace S:=S.call S2;clear S2
    refine ls 1 H<|sy hg5<|sr 1 rfl<|sE ?_;intro a H
    exact wpList_nil ⟨H.strip 7 G G,(S.sel [0,1,2,3] G G)⟩
   clear H a S;intro a _ H S
   refine ls 1 H<|so G G G<|sE ?_;clear H a;intro a H
   refine k16 _ _ ?_;clear k16 K16
   refine aQ H rfl (fun hc4=>?_) (fun hc4=>?_)
   ·skip
    try simp only [o1,o2,o3,o4,o5,o6,o7,o8,o9,oa] at hc4
    replace H:=H.keep [] rfl
    refine sS H fun K17 k17=>sr 1 rfl<|sE ?_;clear H a;intro a H
    refine k17 _ ?_;clear k17 K17
    refine wp_ret ?_
    refine ret1 (fn:=Try.f56) rfl H rfl ?_
    rw [lV (by omega) (wL hc3 hc4)];exact ⟨rfl,(S.sel [] G G)⟩
   try simp only [o1,o2,o3,o4,o5,o6,o7,o8,o9,oa] at hc4
   refine wp_skip ?_
   refine k12 _ _ ?_
   replace S:=S.recell (i:=1) rfl (cell':=fun k _ => .int .i64 (heldN ws k (i+1))) (fun k j _ _=>congrArg (Value.int .i64) (by first|exact pE hc3|exact mP hc3 (by omega)))
   refine sO H<|sd (aH G G (by unfold i64ok;omega))<|sr 1 rfl<|sE ?_;clear H a;intro a H
   exact k9 (g1-1) (i+1) a _ (by omega) (⟨by omega,by omega,fun q hq=>if h9:q<i then hwk q h9 else by
         obtain rfl:q=i:=by omega
         first|exact wK hc3 (by omega) hc4.2|exact kC hc3 (.inl hc5) (by omega) hc7.2|exact kC hc3 (.inr hc9) (by omega) hc10.2⟩) (S.sel [1,2,3] G G) (H.keep [53,1,4,51,52] rfl)
  refine wp_seq_k fun K19 k19=>?_
  refine sS H fun K20 k20=>sr 2 rfl<|sE ?_;clear H a;intro a H
  refine k20 _ ?_;clear k20 K20
  refine condE H rfl (fun hc5=>?_) (fun hc5=>?_)
  ·skip
   refine wp_skip ?_
   refine k19 _ _ ?_
   refine aQ H rfl (fun hc6=>?_) (fun hc6=>?_)
   ·skip
    try simp only [o1,o2,o3,o4,o5,o6,o7,o8,o9,oa] at hc6
    refine wp_seq_k fun K21 k21=>?_
    replace H:=H.keep [1,4,5,6,51,52,53] rfl
    refine aB fun K22 k22=>?_
    refine ls 11 H<|sf cY rfl<|sl S 0 aZ G G G<|sL aN rfl<|sr 2 rfl<|sg 4 4 82 86 false G G (fun hg5=>sy hg5<|sf cY rfl<|sy hg5<|sl S 0 aZ G G G<|sy hg5<|sL aN rfl<|sy hg5<|sr 1 rfl<|sz 4 G G G)<|so G G G<|sr 1 rfl<|sE ?_;clear H a;intro a H
    apply bP (i:=10) (g:=88) (t:=97) (b:=false) 9 H S G G (by kernel_rfl) (by kernel_rfl) G G
    case h1=>
     intro hg11
     refine ls 7 H<|sy hg11<|sf cY rfl<|sy hg11<|sl S 0 aZ G G G<|sy hg11<|sr 1 rfl<|sy hg11<|sd (aH G G (by unfold i64ok;omega))<|sy hg11<|sf iP rfl<|sy hg11<|sl S 3 kK G G G<|sy hg11<|sL lF rfl<|sE ?_;intro a H
     refine cC H G G (by assumption) ?_
     refine aA H G G Try.func70 G G (gW (ws.getD i Wr.zero).of (OA i) (oc i) _ _ _ ((hof i (by omega)).now S) (hofn i (by omega)) (by omega) (by omega)) ?_
     rintro _ _ a ⟨rfl,S2⟩ H
     replace S:=S.call S2;clear S2
     refine ls 1 H<|sy hg11<|sr 1 rfl<|sE ?_;intro a H
     exact wpList_nil ⟨H.strip 9 G G,(S.sel [0,1,2,3] G G)⟩
    clear H a S;intro a _ H S
    refine ls 1 H<|so G G G<|sE ?_;clear H a;intro a H
    refine k22 _ _ ?_;clear k22 K22
    refine aQ H rfl (fun hc7=>?_) (fun hc7=>?_)
    ·skip
     try simp only [o1,o2,o3,o4,o5,o6,o7,o8,o9,oa] at hc7
     replace H:=H.keep [] rfl
     refine sS H fun K23 k23=>sr 1 rfl<|sE ?_;clear H a;intro a H
     refine k23 _ ?_;clear k23 K23
     refine wp_ret ?_
     refine ret1 (fn:=Try.f56) rfl H rfl ?_
     rw [lV (by omega) (nA hc3 (.inl hc5) hc7)];exact ⟨rfl,(S.sel [] G G)⟩
    try simp only [o1,o2,o3,o4,o5,o6,o7,o8,o9,oa] at hc7
    refine wp_skip ?_
    refine k21 _ _ ?_
    refine sS H fun K24 k24=>sf cY rfl<|sl S 0 aZ G G G<|sL aN rfl<|sr 1 rfl<|sE ?_;clear H a;intro a H
    refine k24 _ ?_;clear k24 K24
    refine wp_block ?_
    replace S:=S.recell (i:=1) rfl (cell':=fun k _ => .int .i64 (heldN ws k i+cntO (ws.getD i Wr.zero).of k 0)) (fun k j _ hj=>congrArg (Value.int .i64) (Int.add_zero _).symm)
    refine loop_st (X:=Nat) (R0:=_) [1,4,51,52,53,100,101] H rfl (fun q=>[(102,.int .i64 (q:Int))]) (fun q=>[ownM 3 1 AH ws.length ws.length (fun k _ => .int .i64 (heldN ws k i+cntO (ws.getD i Wr.zero).of k q))]) (fun g q=>q≤(ws.getD i Wr.zero).of.length∧g+q=(ws.getD i Wr.zero).of.length) ((ws.getD i Wr.zero).of.length) 0 ?_ (S.sel [1,0,2,3] G G) (H.keep [102,1,4,51,52,53,100,101] rfl) ?_
    · exact ⟨by omega,by omega⟩
    clear H S a
    intro g2 x2 a w2 hp S H K25 k25
    obtain ⟨q,rfl⟩:∃ y,y=x2:=⟨_,rfl⟩
    refine sS H fun K26 k26=>sr 1 rfl<|sE ?_;clear H a;intro a H
    refine k26 _ ?_;clear k26 K26
    refine wp_seq_k fun K27 k27=>?_
    refine condL H rfl (fun hc8=>?_) (fun hc8=>?_)
    ·skip
     refine wp_skip ?_
     refine k27 _ _ ?_
     refine wp_seq_k fun K28 k28=>?_
     refine wp_block ?_
     refine sS H fun K29 k29=>si aN aX G G ((hof i (by omega)).adr (by omega)) (by omega)<|slm aF rfl ((hof i (by omega)).rd S (by omega) (by omega))<|sr 1 rfl<|sE ?_;clear H a;intro a H
     refine k29 _ ?_;clear k29 K29
     have hhb:=xT (sw:=sw) (ws:=ws) ((ws.getD i Wr.zero).of.getD q 0).toNat i hwk
     have hcb:=rZ (l:=(ws.getD i Wr.zero).of) (k:=((ws.getD i Wr.zero).of.getD q 0).toNat) q
     have hxb:(i:Int)+1≤(ws.getD i Wr.zero).of.getD q 0∧(ws.getD i Wr.zero).of.getD q 0<(ws.length:Int):=by first|exact mI hc7.2 (k:=q) (by omega)|exact mI hc10.2 (k:=q) (by omega)
     replace H:=H.keep [1,4,8,51,52,53,100,101,102] rfl
     refine bY ?_
     refine ls 6 H<|sr 2 rfl<|sI aN aX G G (ownM.adr S (i:=0) rfl (by omega)) (by omega) (by omega)<|slm aF rfl (ownM.rd S (i:=0) rfl (by omega) (by omega))<|sd (aH G G (by unfold i64ok;omega))<|sI aN aX G G (ownM.adr S (i:=0) rfl (by omega)) (by omega) (by omega)<|sE ?_;clear H a;intro a H
     refine bJ H S (i:=0) G G G (by omega) (by omega) aX rfl ?_
     clear H a S;intro _ a S H
     replace S:=S.recell (i:=0) rfl (cell':=fun k _ => .int .i64 (heldN ws k i+cntO (ws.getD i Wr.zero).of k (q+1))) (fun k j _ hj=>uG (by omega) hj)
     refine k28 _ _ ?_
     refine sO H<|sd (aH G G (by unfold i64ok;omega))<|sr 1 rfl<|sE ?_;clear H a;intro a H
     exact k25 (g2-1) (q+1) a _ (by omega) (⟨by omega,by omega⟩) (S.sel [0,1,2,3] G G) (H.keep [102,1,4,51,52,53,100,101] rfl)
    refine wp_exit ?_
    refine k12 _ _ ?_
    replace S:=S.recell (i:=0) rfl (cell':=fun k _ => .int .i64 (heldN ws k (i+1))) (fun k j _ _=>congrArg (Value.int .i64) (by first|exact pE hc3|exact mP hc3 (by omega)))
    replace H:=H.keep [1,4,51,52,53] rfl
    refine sO H<|sd (aH G G (by unfold i64ok;omega))<|sr 1 rfl<|sE ?_;clear H a;intro a H
    exact k9 (g1-1) (i+1) a _ (by omega) (⟨by omega,by omega,fun q hq=>if h9:q<i then hwk q h9 else by
          obtain rfl:q=i:=by omega
          first|exact wK hc3 (by omega) hc4.2|exact kC hc3 (.inl hc5) (by omega) hc7.2|exact kC hc3 (.inr hc9) (by omega) hc10.2⟩) (S.sel [0,2,3] G G) (H.keep [53,1,4,51,52] rfl)
   try simp only [o1,o2,o3,o4,o5,o6,o7,o8,o9,oa] at hc6
   refine sS H fun K33 k33=>sr 1 rfl<|sE ?_;clear H a;intro a H
   refine k33 _ ?_;clear k33 K33
   refine wp_ret ?_
   refine ret1 (fn:=Try.f56) rfl H rfl ?_
   exact absurd hc5 hc6
  refine sO H<|sr 2 rfl<|sE ?_;clear H a;intro a H
  refine k19 _ _ ?_
  refine condE H rfl (fun hc9=>?_) (fun hc9=>?_)
  ·skip
   refine wp_seq_k fun K35 k35=>?_
   replace H:=H.keep [1,4,5,6,51,52,53] rfl
   refine aB fun K36 k36=>?_
   refine ls 11 H<|sf cY rfl<|sl S 0 aZ G G G<|sL aN rfl<|sr 2 rfl<|sg 4 4 82 86 false G G (fun hg5=>sy hg5<|sf cY rfl<|sy hg5<|sl S 0 aZ G G G<|sy hg5<|sL aN rfl<|sy hg5<|sr 1 rfl<|sz 4 G G G)<|so G G G<|sr 1 rfl<|sE ?_;clear H a;intro a H
   apply bP (i:=10) (g:=88) (t:=97) (b:=false) 9 H S G G (by kernel_rfl) (by kernel_rfl) G G
   case h1=>
    intro hg11
    refine ls 7 H<|sy hg11<|sf cY rfl<|sy hg11<|sl S 0 aZ G G G<|sy hg11<|sr 1 rfl<|sy hg11<|sd (aH G G (by unfold i64ok;omega))<|sy hg11<|sf iP rfl<|sy hg11<|sl S 3 kK G G G<|sy hg11<|sL lF rfl<|sE ?_;intro a H
    refine cC H G G (by assumption) ?_
    refine aA H G G Try.func70 G G (gW (ws.getD i Wr.zero).of (OA i) (oc i) _ _ _ ((hof i (by omega)).now S) (hofn i (by omega)) (by omega) (by omega)) ?_
    rintro _ _ a ⟨rfl,S2⟩ H
    replace S:=S.call S2;clear S2
    refine ls 1 H<|sy hg11<|sr 1 rfl<|sE ?_;intro a H
    exact wpList_nil ⟨H.strip 9 G G,(S.sel [0,1,2,3] G G)⟩
   clear H a S;intro a _ H S
   refine ls 1 H<|so G G G<|sE ?_;clear H a;intro a H
   refine k36 _ _ ?_;clear k36 K36
   refine aQ H rfl (fun hc10=>?_) (fun hc10=>?_)
   ·skip
    try simp only [o1,o2,o3,o4,o5,o6,o7,o8,o9,oa] at hc10
    replace H:=H.keep [] rfl
    refine sS H fun K37 k37=>sr 1 rfl<|sE ?_;clear H a;intro a H
    refine k37 _ ?_;clear k37 K37
    refine wp_ret ?_
    refine ret1 (fn:=Try.f56) rfl H rfl ?_
    rw [lV (by omega) (nA hc3 (.inr hc9) hc10)];exact ⟨rfl,(S.sel [] G G)⟩
   try simp only [o1,o2,o3,o4,o5,o6,o7,o8,o9,oa] at hc10
   refine wp_skip ?_
   refine k35 _ _ ?_
   refine sS H fun K38 k38=>sf cY rfl<|sl S 0 aZ G G G<|sL aN rfl<|sr 1 rfl<|sE ?_;clear H a;intro a H
   refine k38 _ ?_;clear k38 K38
   refine wp_block ?_
   replace S:=S.recell (i:=1) rfl (cell':=fun k _ => .int .i64 (heldN ws k i+cntO (ws.getD i Wr.zero).of k 0)) (fun k j _ hj=>congrArg (Value.int .i64) (Int.add_zero _).symm)
   refine loop_st (X:=Nat) (R0:=_) [1,4,51,52,53,100,101] H rfl (fun q=>[(102,.int .i64 (q:Int))]) (fun q=>[ownM 3 1 AH ws.length ws.length (fun k _ => .int .i64 (heldN ws k i+cntO (ws.getD i Wr.zero).of k q))]) (fun g q=>q≤(ws.getD i Wr.zero).of.length∧g+q=(ws.getD i Wr.zero).of.length) ((ws.getD i Wr.zero).of.length) 0 ?_ (S.sel [1,0,2,3] G G) (H.keep [102,1,4,51,52,53,100,101] rfl) ?_
   · exact ⟨by omega,by omega⟩
   clear H S a
   intro g3 x3 a w3 hp S H K39 k39
   obtain ⟨q,rfl⟩:∃ y,y=x3:=⟨_,rfl⟩
   refine sS H fun K40 k40=>sr 1 rfl<|sE ?_;clear H a;intro a H
   refine k40 _ ?_;clear k40 K40
   refine wp_seq_k fun K41 k41=>?_
   refine condL H rfl (fun hc11=>?_) (fun hc11=>?_)
   ·skip
    refine wp_skip ?_
    refine k41 _ _ ?_
    refine wp_seq_k fun K42 k42=>?_
    refine wp_block ?_
    refine sS H fun K43 k43=>si aN aX G G ((hof i (by omega)).adr (by omega)) (by omega)<|slm aF rfl ((hof i (by omega)).rd S (by omega) (by omega))<|sr 1 rfl<|sE ?_;clear H a;intro a H
    refine k43 _ ?_;clear k43 K43
    have hhb:=xT (sw:=sw) (ws:=ws) ((ws.getD i Wr.zero).of.getD q 0).toNat i hwk
    have hcb:=rZ (l:=(ws.getD i Wr.zero).of) (k:=((ws.getD i Wr.zero).of.getD q 0).toNat) q
    have hxb:(i:Int)+1≤(ws.getD i Wr.zero).of.getD q 0∧(ws.getD i Wr.zero).of.getD q 0<(ws.length:Int):=by first|exact mI hc7.2 (k:=q) (by omega)|exact mI hc10.2 (k:=q) (by omega)
    replace H:=H.keep [1,4,8,51,52,53,100,101,102] rfl
    refine bY ?_
    refine ls 6 H<|sr 2 rfl<|sI aN aX G G (ownM.adr S (i:=0) rfl (by omega)) (by omega) (by omega)<|slm aF rfl (ownM.rd S (i:=0) rfl (by omega) (by omega))<|sd (aH G G (by unfold i64ok;omega))<|sI aN aX G G (ownM.adr S (i:=0) rfl (by omega)) (by omega) (by omega)<|sE ?_;clear H a;intro a H
    refine bJ H S (i:=0) G G G (by omega) (by omega) aX rfl ?_
    clear H a S;intro _ a S H
    replace S:=S.recell (i:=0) rfl (cell':=fun k _ => .int .i64 (heldN ws k i+cntO (ws.getD i Wr.zero).of k (q+1))) (fun k j _ hj=>uG (by omega) hj)
    refine k42 _ _ ?_
    refine sO H<|sd (aH G G (by unfold i64ok;omega))<|sr 1 rfl<|sE ?_;clear H a;intro a H
    exact k39 (g3-1) (q+1) a _ (by omega) (⟨by omega,by omega⟩) (S.sel [0,1,2,3] G G) (H.keep [102,1,4,51,52,53,100,101] rfl)
   refine wp_exit ?_
   refine k12 _ _ ?_
   replace S:=S.recell (i:=0) rfl (cell':=fun k _ => .int .i64 (heldN ws k (i+1))) (fun k j _ _=>congrArg (Value.int .i64) (by first|exact pE hc3|exact mP hc3 (by omega)))
   replace H:=H.keep [1,4,51,52,53] rfl
   refine sO H<|sd (aH G G (by unfold i64ok;omega))<|sr 1 rfl<|sE ?_;clear H a;intro a H
   exact k9 (g1-1) (i+1) a _ (by omega) (⟨by omega,by omega,fun q hq=>if h9:q<i then hwk q h9 else by
         obtain rfl:q=i:=by omega
         first|exact wK hc3 (by omega) hc4.2|exact kC hc3 (.inl hc5) (by omega) hc7.2|exact kC hc3 (.inr hc9) (by omega) hc10.2⟩) (S.sel [0,2,3] G G) (H.keep [53,1,4,51,52] rfl)
  refine sS H fun K47 k47=>sr 1 rfl<|sE ?_;clear H a;intro a H
  refine k47 _ ?_;clear k47 K47
  refine wp_ret ?_
  refine ret1 (fn:=Try.f56) rfl H rfl ?_
  rw [lV (by omega) (Gt hc3 hc5 hc9)];exact ⟨rfl,(S.sel [] G G)⟩
 refine wp_exit ?_
 refine k7 _ _ ?_
 refine wp_seq_k fun K48 k48=>?_
 obtain rfl:i=ws.length:=by omega
 replace H:=H.keep [4] rfl
 refine aB fun K49 k49=>?_
 refine ls 5 H<|sr 1 rfl<|sI aN aX G G (ownM.adr S (i:=0) rfl (by omega)) (by omega) (by omega)<|slm aF rfl (ownM.rd S (i:=0) rfl (by omega) (by omega))<|sr 2 rfl<|sE ?_;clear H a;intro a H
 apply bP (i:=4) (g:=118) (t:=121) (b:=false) 3 H S G G (by kernel_rfl) (by kernel_rfl) G G
 case h1=>
  intro hg5
  refine ls 2 H<|sy hg5<|sr 1 rfl<|sy hg5<|sd (Does.to (iN aN aX rfl (lo:=1) (hi:=ws.length) (.inr ⟨_,rfl,_,rfl⟩) (.inl ⟨rfl,rfl⟩) (by omega) (by omega)) (show _=Value.slice (cutA AH ws.length 1 1) ((List.range (ws.length-1)).map fun q=>heldN ws (q+1) ws.length).length (ws.length-1) from by rw [kD]))<|sE ?_;intro a H
  refine cC H G G (by assumption) ?_
  refine aA H G G Try.func30 G G (Gs ((List.range (ws.length-1)).map fun q=>heldN ws (q+1) ws.length) (cutA AH ws.length 1 1) (ws.length-1) _ (Ei (ownM.inS S (i:=0) rfl) (by omega)) (by rw [kD];omega)) ?_
  rintro _ _ a ⟨rfl,S2⟩ H
  replace S:=S.call S2;clear S2
  exact wpList_nil ⟨H.strip 3 G G,(S.sel [0,1,2] G G)⟩
 clear H a S;intro a _ H S
 refine ls 1 H<|so G G G<|sE ?_;clear H a;intro a H
 refine k49 _ _ ?_;clear k49 K49
 refine aQ H rfl (fun hc12=>?_) (fun hc12=>?_)
 ·skip
  try simp only [o1,o2,o3,o4,o5,o6,o7,o8,o9,oa] at hc12
  replace H:=H.keep [] rfl
  refine sS H fun K50 k50=>sr 1 rfl<|sE ?_;clear H a;intro a H
  refine k50 _ ?_;clear k50 K50
  refine wp_ret ?_
  refine ret1 (fn:=Try.f56) rfl H rfl ?_
  rw [show circE hz sw ws=30 from hc12.elim Ed (fun h=>Ee (by rw [←qM];exact h))];exact ⟨rfl,(S.sel [] G G)⟩
 try simp only [o1,o2,o3,o4,o5,o6,o7,o8,o9,oa] at hc12
 refine wp_skip ?_
 refine k48 _ _ ?_
 refine sS H fun K51 k51=>sr 1 rfl<|sE ?_;clear H a;intro a H
 refine k51 _ ?_;clear k51 K51
 refine wp_ret ?_
 refine ret1 (fn:=Try.f56) rfl H rfl ?_
 rw [Ef hc1.1 hc1.2 hwk hc12.1 (by rw [←qM];exact hc12.2)];exact ⟨rfl,(S.sel [] G G)⟩
end
section
theorem xU {hz:Int} {sw:List Int} {ws:List Wr} (V:CirV hz sw ws):∀ k,k<ws.length→(ws.getD k Wr.zero).of.length≤9223372036854775807:=fun k hk=>by
  by_cases h:(ws.getD k Wr.zero).kind=1
  · have:=V.one k hk h;omega
  · have:=V.more k hk h;omega
def hasC (l:List Int) (x:Int):Bool:=l.any fun y=>decide (x=y)
theorem Ac {l:List Int} {x:Int} {k:Nat} (hk:k<l.length) (h:(l.take k).any (fun y=>decide (x=y))=false) (hx:¬ x=l.getD k 0):(l.take (k+1)).any (fun y=>decide (x=y))=false:=by
  rw [List.take_succ_eq_append_getElem hk,List.any_append,h]
  rw [List.getD_eq_getElem?_getD,List.getElem?_eq_getElem hk] at hx
  simpa using hx
theorem Gu {l:List Int} {x:Int} {k:Nat} (hk:k<l.length) (hx:x=l.getD k 0):hasC l x=true:=by
  rw [List.getD_eq_getElem?_getD,List.getElem?_eq_getElem hk] at hx
  unfold hasC
  rw [List.any_eq_true]
  exact ⟨l[k],List.getElem_mem hk,by simpa using hx⟩
def lorI (a b:Int):Int:=((a.toNat ||| b.toNat:Nat):Int)
theorem xV {a b:Int} (ha:0≤a∧a≤2048) (hb:0≤b∧b≤2048):0≤lorI a b∧lorI a b≤4095:=by
  have:=Nat.or_lt_two_pow (x:=a.toNat) (y:=b.toNat) (n:=12) (by omega) (by omega)
  unfold lorI
  omega
section
variable {P:Program} {L:List (Nat×Value)} {w:World} {d:Option Nat} {ty:TypeId} {pos:String} {af:Array Edge} {g:Option (Nat×Bool)}
theorem Ej {x y:Operand} {xt yt:TypeId} {m k:Int} (hx:ev L x=some (.int .i64 m)) (hy:ev L y=some (.int .i64 k)) (hm:0≤m∧m≤2048) (hk:0≤k∧k≤2048) :
    Does P L ⟨d,.binOp .or xt x y yt,ty,pos,af,g⟩ w (.int .i64 (lorI m k)):=fun ρ hρ=>by
  have hb:=xV hm hk
  obtain ⟨m,rfl⟩:∃ n:Nat,m=n:=⟨m.toNat,by omega⟩
  obtain ⟨k,rfl⟩:∃ n:Nat,k=n:=⟨k.toNat,by omega⟩
  have e0:((BitVec.ofInt 64 (m:Int) ||| BitVec.ofInt 64 (k:Int)).toNat)=m ||| k:=by
    rw [BitVec.toNat_or,BitVec.ofInt_natCast,BitVec.ofInt_natCast,BitVec.toNat_ofNat,BitVec.toNat_ofNat,Nat.mod_eq_of_lt (by omega),Nat.mod_eq_of_lt (by omega)]
  have e1:IntKind.i64.wrap ((BitVec.ofInt 64 (m:Int) ||| BitVec.ofInt 64 (k:Int)).toNat:Int)=((m ||| k:Nat):Int):=by
    rw [e0];unfold lorI at hb;rw [Int.toNat_natCast,Int.toNat_natCast] at hb;exact i64ok.eq ⟨by omega,by omega⟩
  have e:Op.intBits .or .i64 (m:Int) (k:Int)=pure (.int .i64 (lorI m k)):=by
    unfold lorI
    rw [Int.toNat_natCast,Int.toNat_natCast]
    exact congrArg (fun z=>(pure (Value.int .i64 z):Sem Value)) e1
  simp [execOp,hρ _ _ hx,hρ _ _ hy,eqGuard,binOp,e]
end
def pairB (hz:Int) (sw:List Int) (ws:List Wr) (al:List Int) (a b:Int):Bool:=(!hasC al a&&!hasC al b)&&decide (0<(wkN hz sw ws (lorI (1*2^a.toNat) (1*2^b.toNat)) hz.toNat).length)
def pcIn (hz:Int) (sw:List Int) (ws:List Wr) (al:List Int) (a:Nat):Nat→Nat
  | 0=>0
  | q+1=>if pairB hz sw ws al (a:Int) ((a:Int)+1+(q:Int))=true then pcIn hz sw ws al a q+1 else pcIn hz sw ws al a q
def pcOut (hz:Int) (sw:List Int) (ws:List Wr) (al:List Int):Nat→Nat
  | 0=>0
  | a+1=>pcOut hz sw ws al a+pcIn hz sw ws al a (sw.length-(a+1))
theorem xW {hz:Int} {sw:List Int} {ws:List Wr} {al:List Int} {a:Nat}:∀ q,pcIn hz sw ws al a q≤q:=fun q=>by
  induction q with
  | zero=>exact Nat.le_refl _
  | succ q ih=>rw [pcIn];split <;> omega
theorem Ek {hz:Int} {sw:List Int} {ws:List Wr} {al:List Int}:∀ a,pcOut hz sw ws al a≤a*sw.length:=fun a=>by
  induction a with
  | zero=>exact Nat.zero_le _
  | succ a ih=>
    have:=xW (hz:=hz) (sw:=sw) (ws:=ws) (al:=al) (a:=a) (sw.length-(a+1))
    rw [pcOut,Nat.succ_mul];omega
theorem Ae (l:List Int) (A:Option Addr) (cp:Nat) (x:Int) (w:World) (hl:InS w noF 1 A l.length (icl l)) (hn:l.length≤9223372036854775807) :
    Calls Try.prog 57 [.slice A l.length cp,.int .i64 x].toArray w (Ret (fun u w'=>∃ n:Int,u = .int .i64 n∧decide (0≤n)=hasC l x∧St w noF [] w')):=by
 refine enter Try.func57 rfl Try.ntmps57 rfl (fun a H=>?_)
 have S:=St.start w
 refine sS H fun K1 k1=>sr 1 rfl<|sE ?_;clear H a;intro a H
 refine k1 _ ?_;clear k1 K1
 refine wp_seq_k fun K2 k2=>?_
 refine sS H fun K3 k3=>sr 1 rfl<|sL aN rfl<|sr 1 rfl<|sE ?_;clear H a;intro a H
 refine k3 _ ?_;clear k3 K3
 refine wp_block ?_
 refine loop_st (X:=Nat) (R0:=_) [0,1,7] H rfl (fun k=>[(8,.int .i64 (k:Int))]) (fun k=>[]) (fun g k=>k≤l.length∧g+k=l.length∧(l.take k).any (fun y=>decide (x=y))=false) (l.length) 0 ?_ (S.sel [] G G) (H.keep [8,0,1,7] rfl) ?_
 · exact ⟨by omega,by omega,rfl⟩
 clear H S a
 intro g1 x1 a w1 hp S H K4 k4
 obtain ⟨k,rfl⟩:∃ y,y=x1:=⟨_,rfl⟩
 refine sS H fun K5 k5=>sr 1 rfl<|sE ?_;clear H a;intro a H
 refine k5 _ ?_;clear k5 K5
 refine wp_seq_k fun K6 k6=>?_
 refine condL H rfl (fun hc1=>?_) (fun hc1=>?_)
 ·skip
  refine wp_skip ?_
  refine k6 _ _ ?_
  refine wp_seq_k fun K7 k7=>?_
  refine wp_block ?_
  refine sS H fun K8 k8=>sr 2 rfl<|sE ?_;clear H a;intro a H
  refine k8 _ ?_;clear k8 K8
  refine sS H fun K9 k9=>sr 3 rfl<|si aN aX G G (hl.adr (by omega)) (by omega)<|slm aF rfl (hl.rd S (by omega) (by omega))<|sr 1 rfl<|sE ?_;clear H a;intro a H
  refine k9 _ ?_;clear k9 K9
  refine condE H rfl (fun hc2=>?_) (fun hc2=>?_)
  ·skip
   replace H:=H.keep [5] rfl
   refine sS H fun K10 k10=>sr 2 rfl<|sE ?_;clear H a;intro a H
   refine k10 _ ?_;clear k10 K10
   refine wp_ret ?_
   refine ret1 (fn:=Try.f57) rfl H rfl ?_
   exact ⟨_,rfl,by rw [Gu (k:=k) (by omega) hc2];exact decide_eq_true (by omega),(S.sel [] G G)⟩
  refine wp_skip ?_
  refine k7 _ _ ?_
  refine sO H<|sd (aH G G (by unfold i64ok;omega))<|sr 1 rfl<|sE ?_;clear H a;intro a H
  exact k4 (g1-1) (k+1) a _ (by omega) (⟨by omega,by omega,Ac (by omega) hp.2.2 hc2⟩) (S.sel [] G G) (H.keep [8,0,1,7] rfl)
 refine wp_exit ?_
 refine k2 _ _ ?_
 refine sS H fun K12 k12=>sr 1 rfl<|sE ?_;clear H a;intro a H
 refine k12 _ ?_;clear k12 K12
 refine wp_ret ?_
 refine ret1 (fn:=Try.f57) rfl H rfl ?_
 exact ⟨_,rfl,by unfold hasC;rw [←List.take_of_length_le (l:=l) (i:=k) (by omega),hp.2.2];rfl,(S.sel [] G G)⟩
theorem eT (l:List Int) (A:Option Addr) (cp:Nat) (x:Int) (w:World) (hl:InS w noF 1 A l.length (icl l)) (hn:l.length≤9223372036854775807) :
    Calls Try.prog 37 [.slice A l.length cp,.int .i64 x].toArray w (Ret (fun u w'=>u = .bool (hasC l x)∧St w noF [] w')):=by
 refine enter Try.func37 rfl Try.ntmps37 rfl (fun a H=>?_)
 have S:=St.start w
 refine sS H fun K1 k1=>sr 1 rfl<|sE ?_;clear H a;intro a H
 refine k1 _ ?_;clear k1 K1
 refine aB fun K2 k2=>?_
 refine ls 2 H<|sr 2 rfl<|sE ?_;clear H a;intro a H
 refine aA H G G Try.func57 G G (Ae l A cp x _ (hl.now S) hn) ?_;clear H a
 rintro _ _ a ⟨n,rfl,hn2,S2⟩ H
 replace S:=S.call S2;clear S2
 refine ls 2 H<|sr 2 rfl<|sE ?_;clear H a;intro a H
 refine k2 _ _ ?_;clear k2 K2
 refine wp_ret ?_
 refine ret1 (fn:=Try.f37) rfl H rfl ?_
 exact ⟨congrArg Value.bool hn2,(S.sel [] G G)⟩
theorem sA (hz:Int) (sw:List Int) (SA:Option Addr) (sc:Nat) (ws:List Wr) (QA:Option Addr) (qc:Nat) (OA:Nat→Option Addr) (oc:Nat→Nat) (w:World) (hsw:InS w noF 1 SA sw.length (icl sw)) (hws:InS w noF 2 QA ws.length (eG ws OA oc)) (hof:∀ k,k<ws.length→InS w noF 1 (OA k) (ws.getD k Wr.zero).of.length (icl (ws.getD k Wr.zero).of)) (hE:circE hz sw ws=0) :
    Calls Try.prog 36 [.agg [.int .i64 hz,.slice SA sw.length sc,.slice QA ws.length qc].toArray].toArray w (Ret (fun u w'=>∃ A' c',u = .tuple #[.slice A' (critN hz sw ws sw.length).length c',.int .i64 0]∧St w noF [ownM 3 1 A' (critN hz sw ws sw.length).length c' (icl (critN hz sw ws sw.length))] w')):=by
 have V:=oG (wZ hE)
 have hns:=V.nsw
 have hnw:=V.nws
 have hzb:=V.hzb
 have hof9:=xU V
 refine enter Try.func36 rfl Try.ntmps36 rfl (fun a H=>?_)
 have S:=St.start w
 refine aB fun K1 k1=>?_
 refine aS H rfl S G G ?_;clear H a S;intro b1 _ a hb1 hbw1 S H
 refine ls 2 H<|sr 2 rfl<|sE ?_;clear H a;intro a H
 refine k1 _ _ ?_;clear k1 K1
 refine wp_seq_k fun K2 k2=>?_
 refine aB fun K3 k3=>?_
 refine ls 1 H<|sd ((aC dB cM rfl S (i:=0) G G))<|sE ?_;clear H a;intro a H
 refine aA H G G Try.func56 G G (Ab hz sw SA sc ws QA qc OA oc _ (hsw.now S) (hws.now S) (fun k hk=>(hof k hk).now S) (by omega) (by omega) hof9) ?_;clear H a
 rintro _ _ a ⟨rfl,S2⟩ H
 replace S:=S.call S2;clear S2
 refine ls 1 H<|sr 1 rfl<|sE ?_;clear H a;intro a H
 refine k3 _ _ ?_;clear k3 K3
 refine sS H fun K4 k4=>sr 2 rfl<|sE ?_;clear H a;intro a H
 refine k4 _ ?_;clear k4 K4
 refine condN H rfl (fun hc1=>?_) (fun hc1=>?_)
 ·skip
  replace H:=H.keep [4] rfl
  refine sS H fun K5 k5=>sr 3 rfl<|sE ?_;clear H a;intro a H
  refine k5 _ ?_;clear k5 K5
  refine wp_ret ?_
  refine ret2 (fn:=Try.f36) rfl H G G ?_
  exact absurd hE hc1
 refine wp_skip ?_
 refine k2 _ _ ?_
 refine sS H fun K6 k6=>sr 1 rfl<|sE ?_;clear H a;intro a H
 refine k6 _ ?_;clear k6 K6
 refine wp_seq_k fun K7 k7=>?_
 refine sS H fun K8 k8=>sf gQ rfl<|sl S 0 aZ G G G<|sL aN rfl<|sr 1 rfl<|sE ?_;clear H a;intro a H
 refine k8 _ ?_;clear k8 K8
 refine wp_block ?_
 replace S:=S.newNil 3 1 (icl [])
 refine loop_st (X:=Nat×List Int×Option Addr×Nat) (R0:=_) [1,14] H rfl (fun ⟨k,L9,A9,c9⟩=>[(5,.slice A9 L9.length c9),(15,.int .i64 (k:Int))]) (fun ⟨k,L9,A9,c9⟩=>[ownM 3 1 A9 L9.length c9 (icl L9)]) (fun g ⟨k,L9,A9,c9⟩=>k≤sw.length∧g+k=sw.length∧L9=critN hz sw ws k) (sw.length) (0,[],none,0) ?_ (S.sel [0,1] G G) (H.keep [5,15,1,14] rfl) ?_
 · exact ⟨by omega,by omega,rfl⟩
 clear H S a
 intro g1 x1 a w1 hp S H K9 k9
 obtain ⟨k,L9,A9,c9⟩:=x1
 dsimp only at hp S H
 refine sS H fun K10 k10=>sr 1 rfl<|sE ?_;clear H a;intro a H
 refine k10 _ ?_;clear k10 K10
 refine wp_seq_k fun K11 k11=>?_
 refine condL H rfl (fun hc2=>?_) (fun hc2=>?_)
 ·skip
  refine wp_skip ?_
  refine k11 _ _ ?_
  refine wp_seq_k fun K12 k12=>?_
  refine wp_block ?_
  refine sS H fun K13 k13=>sr 2 rfl<|sE ?_;clear H a;intro a H
  refine k13 _ ?_;clear k13 K13
  have hsh:=pwc (h:=k) (by omega)
  have hL9:L9.length≤k:=by rw [hp.2.2];exact qC k
  replace S:=S.drew
  refine cD [(0,true),(1,true),(2,true),(3,false),(4,true),(5,true)] (by kernel_rfl) (by kernel_rfl) (S.sel [0,1] G G) fun K14 k14=>?_
  refine qF H<|qd rfl (fun _ S=>(aC dB cM rfl S (i:=1) G G))<|qr 1 rfl<|qd rfl (fun _ S=>dE G G (by omega) (by omega) (by unfold i64ok;omega))<|qK ?_;clear H a;intro a H
  refine aU rfl ?_
  refine aA H G G Try.func38 G G (tN hz sw SA sc ws QA qc OA oc (1*2^(k:Int).toNat) _ (hsw.now S) (hws.now S) (fun k hk=>(hof k hk).now S) V (by omega)) ?_;clear H a
  rintro _ _ a ⟨A5,c5,rfl,S2⟩ H
  replace S:=S.call S2;clear S2
  refine wpList_nil (And.intro (S.sel [1,2] G G) ?_)
  refine qF H<|qd rfl (fun _ S=>dD aN rfl)<|qr 1 rfl<|qK ?_;clear H a;intro a H
  refine bV ?_
  refine k14 _ _ ?_
  clear k14 K14
  refine condL H rfl (fun hc3=>?_) (fun hc3=>?_)
  ·skip
   replace H:=H.keep [1,5,6,14,15] rfl
   refine bY ?_
   refine ls 2 H<|sr 2 rfl<|sE ?_;clear H a;intro a H
   refine aY H rfl S aN aX eF G G G G G G G G G ?_;clear H a S;intro A1 _ a hA1 S H
   refine cI H rfl S aN aX eF lL G G (i:=2) G G G (ownM.inS S (i:=0) rfl) (kM (one rfl)) (by omega) (by omega) ?_;clear H a S;intro A2 c2 _ a S H
   replace S:=S.recell (i:=2) rfl (cell':=icl (L9++[(k:Int)])) (oH rfl)
   rw [show L9.length+1=(L9++[(k:Int)]).length by simp] at H S
   refine ls 1 H<|sr 1 rfl<|sE ?_;clear H a;intro a H
   refine k12 _ _ ?_
   refine sO H<|sd (aH G G (by unfold i64ok;omega))<|sr 1 rfl<|sE ?_;clear H a;intro a H
   exact k9 (g1-1) (k+1,_,_,_) a _ (by omega) (⟨by omega,by omega,by rw [critN];first|rw [if_pos (by omega),←hp.2.2]|rw [if_neg (by omega),←hp.2.2]⟩) (S.sel [2,3] G G) (H.keep [5,15,1,14] rfl)
  refine wp_skip ?_
  refine k12 _ _ ?_
  refine sO H<|sd (aH G G (by unfold i64ok;omega))<|sr 1 rfl<|sE ?_;clear H a;intro a H
  exact k9 (g1-1) (k+1,_,_,_) a _ (by omega) (⟨by omega,by omega,by rw [critN];first|rw [if_pos (by omega),←hp.2.2]|rw [if_neg (by omega),←hp.2.2]⟩) (S.sel [1,2] G G) (H.keep [5,15,1,14] rfl)
 refine wp_exit ?_
 refine k7 _ _ ?_
 replace H:=H.keep [5] rfl
 refine sS H fun K18 k18=>sr 3 rfl<|sE ?_;clear H a;intro a H
 refine k18 _ ?_;clear k18 K18
 refine wp_ret ?_
 refine ret2 (fn:=Try.f36) rfl H G G ?_
 obtain rfl:k=sw.length:=by omega
 rw [←hp.2.2]
 exact ⟨_,_,rfl,(S.sel [0] G G)⟩
end
section
theorem two {p:Nat→Prop} (h0:p 0) (h1:p 1):∀ j,j<2→p j:=by
  intro j hj
  rcases (show j=0∨j=1 by omega) with rfl|rfl
  · exact h0
  · exact h1
section
variable {hz:Int} {sw:List Int} {ws:List Wr} {al:List Int} {a q n n2:Nat} {b:Int}
theorem sB (h:pairB hz sw ws al (a:Int) b=true) (hb:b=(a:Int)+1+(q:Int)) (hn:n2=n+pcIn hz sw ws al a q):n2+1=n+pcIn hz sw ws al a (q+1):=by
  subst hb;rw [pcIn,if_pos h];omega
theorem has3:∀ x y:Bool,x=true∨(x=false∧y=true)∨(x=false∧y=false):=by decide
theorem sC (hA:hasC al (a:Int)=true):¬ pairB hz sw ws al (a:Int) b=true:=by unfold pairB;rw [hA];simp
theorem sG (hA:hasC al b=true):¬ pairB hz sw ws al (a:Int) b=true:=by unfold pairB;rw [hA];simp
theorem fQ (hA:hasC al (a:Int)=false) (hB:hasC al b=false):pairB hz sw ws al (a:Int) b=decide (0<(wkN hz sw ws (lorI (1*2^(a:Int).toNat) (1*2^b.toNat)) hz.toNat).length):=by unfold pairB;rw [hA,hB];rfl
theorem fS (h:¬ pairB hz sw ws al (a:Int) b=true) (hb:b=(a:Int)+1+(q:Int)) (hn:n2=n+pcIn hz sw ws al a q):n2=n+pcIn hz sw ws al a (q+1):=by
  subst hb;rw [pcIn,if_neg h];exact hn
end
theorem cR (hz:Int) (sw:List Int) (SA:Option Addr) (sc:Nat) (ws:List Wr) (QA:Option Addr) (qc:Nat) (OA:Nat→Option Addr) (oc:Nat→Nat) (w:World) (hsw:InS w noF 1 SA sw.length (icl sw)) (hws:InS w noF 2 QA ws.length (eG ws OA oc)) (hof:∀ k,k<ws.length→InS w noF 1 (OA k) (ws.getD k Wr.zero).of.length (icl (ws.getD k Wr.zero).of)) (hE:circE hz sw ws=0) :
    Calls Try.prog 22 [.agg [.int .i64 hz,.slice SA sw.length sc,.slice QA ws.length qc].toArray].toArray w (Ret (fun u w'=>∃ A' c',u = .tuple #[.slice A' (pcOut hz sw ws (critN hz sw ws sw.length) sw.length) c',.int .i64 0]∧St w noF [] w')):=by
 have V:=oG (wZ hE)
 have hns:=V.nsw
 have hnw:=V.nws
 have hzb:=V.hzb
 have hof9:=xU V
 have hcl9:=qC (hz:=hz) (sw:=sw) (ws:=ws) sw.length
 refine enter Try.func22 rfl Try.ntmps22 rfl (fun a H=>?_)
 have S:=St.start w
 refine aB fun K1 k1=>?_
 refine aS H rfl S G G ?_;clear H a S;intro b1 _ a hb1 hbw1 S H
 refine ls 2 H<|sr 2 rfl<|sE ?_;clear H a;intro a H
 refine k1 _ _ ?_;clear k1 K1
 replace H:=H.keep [1] rfl
 refine aB fun K2 k2=>?_
 refine ls 1 H<|sd ((aC dB cM rfl S (i:=0) G G))<|sE ?_;clear H a;intro a H
 refine aA H G G Try.func36 G G (sA hz sw SA sc ws QA qc OA oc _ (hsw.now S) (hws.now S) (fun k hk=>(hof k hk).now S) hE) ?_;clear H a
 rintro _ _ a ⟨A8,c8,rfl,S2⟩ H
 replace S:=S.call S2;clear S2
 refine ls 5 H<|sr 5 rfl<|sE ?_;clear H a;intro a H
 refine k2 _ _ ?_;clear k2 K2
 refine wp_seq_k fun K3 k3=>?_
 refine sS H fun K4 k4=>sr 2 rfl<|sE ?_;clear H a;intro a H
 refine k4 _ ?_;clear k4 K4
 refine condN H rfl (fun hc1=>?_) (fun hc1=>?_)
 ·skip
  replace H:=H.keep [5] rfl
  refine sS H fun K5 k5=>sr 3 rfl<|sE ?_;clear H a;intro a H
  refine k5 _ ?_;clear k5 K5
  refine wp_ret ?_
  refine ret2 (fn:=Try.f22) rfl H G G ?_
  exact absurd rfl hc1
 refine wp_skip ?_
 refine k3 _ _ ?_
 refine sS H fun K6 k6=>sr 1 rfl<|sE ?_;clear H a;intro a H
 refine k6 _ ?_;clear k6 K6
 refine wp_seq_k fun K7 k7=>?_
 refine sS H fun K8 k8=>sf gQ rfl<|sl S 1 aZ G G G<|sL aN rfl<|sr 1 rfl<|sE ?_;clear H a;intro a H
 refine k8 _ ?_;clear k8 K8
 refine wp_block ?_
 replace S:=S.newNil 106 2 (fun _ _=>undef)
 refine loop_st (X:=Nat×Nat×Option Addr×Nat×(Nat→Nat→Value)) (R0:=_) [1,4,19] H rfl (fun ⟨u,n,A9,c9,cl9⟩=>[(6,.slice A9 n c9),(20,.int .i64 (u:Int))]) (fun ⟨u,n,A9,c9,cl9⟩=>[ownM 106 2 A9 n c9 cl9]) (fun g ⟨u,n,A9,c9,cl9⟩=>u≤sw.length∧g+u=sw.length∧n=pcOut hz sw ws (critN hz sw ws sw.length) u) (sw.length) (0,0,none,0,fun _ _=>undef) ?_ (S.sel [0,1,2] G G) (H.keep [6,20,1,4,19] rfl) ?_
 · exact ⟨by omega,by omega,rfl⟩
 clear H S a
 intro g1 x1 a w1 hp S H K9 k9
 obtain ⟨u,n,A9,c9,cl9⟩:=x1
 dsimp only at hp S H
 obtain ⟨hu1,hu2,hn1⟩:=hp
 refine sS H fun K10 k10=>sr 1 rfl<|sE ?_;clear H a;intro a H
 refine k10 _ ?_;clear k10 K10
 refine wp_seq_k fun K11 k11=>?_
 refine condL H rfl (fun hc2=>?_) (fun hc2=>?_)
 ·skip
  refine wp_skip ?_
  refine k11 _ _ ?_
  refine wp_seq_k fun K12 k12=>?_
  refine wp_block ?_
  refine sS H fun K13 k13=>sr 2 rfl<|sE ?_;clear H a;intro a H
  refine k13 _ ?_;clear k13 K13
  refine sS H fun K14 k14=>sr 1 rfl<|sd (aH G G (by unfold i64ok;omega))<|sr 1 rfl<|sE ?_;clear H a;intro a H
  refine k14 _ ?_;clear k14 K14
  refine wp_block ?_
  refine loop_st (X:=Nat×Int×Nat×Option Addr×Nat×(Nat→Nat→Value)) (R0:=_) [1,4,7,19,20] H rfl (fun ⟨q,b,n2,A7,c7,cl7⟩=>[(6,.slice A7 n2 c7),(8,.int .i64 b)]) (fun ⟨q,b,n2,A7,c7,cl7⟩=>[ownM 106 2 A7 n2 c7 cl7]) (fun g ⟨q,b,n2,A7,c7,cl7⟩=>u+1+q≤sw.length∧g+u+1+q=sw.length∧n2=n+pcIn hz sw ws (critN hz sw ws sw.length) u q∧b=(u:Int)+1+(q:Int)) (sw.length-(u+1)) (0,(u:Int)+1,n,A9,c9,cl9) ?_ (S.sel [0,1,2] G G) (H.keep [6,8,1,4,7,19,20] rfl) ?_
  · exact ⟨by omega,by omega,rfl,by omega⟩
  clear H S a
  intro g2 x2 a w2 hp S H K15 k15
  obtain ⟨q,b,n2,A7,c7,cl7⟩:=x2
  dsimp only at hp S H
  obtain ⟨hq1,hq2,hn2,hb2⟩:=hp
  obtain ⟨y,rfl⟩:∃ y:Nat,b=y:=⟨u+1+q,by omega⟩
  refine wp_seq_k fun K16 k16=>?_
  refine sS H fun K17 k17=>sr 1 rfl<|sf gQ rfl<|sl S 2 aZ G G G<|sL aN rfl<|sr 1 rfl<|sE ?_;clear H a;intro a H
  refine k17 _ ?_;clear k17 K17
  refine condL H rfl (fun hc3=>?_) (fun hc3=>?_)
  ·skip
   refine wp_skip ?_
   refine k16 _ _ ?_
   refine wp_seq_k fun K18 k18=>?_
   refine wp_block ?_
   rcases has3 (hasC (critN hz sw ws sw.length) (u:Int)) (hasC (critN hz sw ws sw.length) (y:Int)) with hA|⟨hA,hB⟩|⟨hA,hB⟩
   ·skip
    have hsh:=pwc (h:=u) (by omega)
    have hsh2:=pwc (h:=y) (by omega)
    have hwl9:=nN (hz:=hz) (sw:=sw) (ws:=ws) (cl:=lorI (1*2^(u:Int).toNat) (1*2^(y:Int).toNat)) hz.toNat
    replace H:=H.keep [1,4,6,7,8,19,20] rfl
    replace S:=S.drew
    refine cD [(0,true),(1,true),(2,false),(3,true),(4,true),(5,true),(6,true),(7,true),(8,true),(9,true),(10,true),(11,true),(12,true),(13,true),(14,true),(15,true),(16,true),(17,true),(18,true),(19,true),(20,true)] (by kernel_rfl) (by kernel_rfl) (S.sel [0,1,2] G G) fun K19 k19=>?_
    refine qF H<|qr 2 rfl<|qK ?_;clear H a;intro a H
    refine aU rfl ?_
    refine aA H G G Try.func37 G G (eT (critN hz sw ws sw.length) A8 c8 _ _ (ownM.inS S (i:=1) rfl) (by omega)) ?_;clear H a
    rintro _ _ a ⟨rfl,S2⟩ H
    replace S:=S.call S2;clear S2
    first|rw [hA] at H|rw [hB] at H
    refine wpList_nil (And.intro (S.sel [0,1,2] G G) ?_)
    refine qF H<|qr 2 rfl<|qK ?_;clear H a;intro a H
    refine aL H G G G G G ?_;clear H a;intro a H
    refine aL H G G G G G ?_;clear H a;intro a H
    refine aL H G G G G G ?_;clear H a;intro a H
    refine aL H G G G G G ?_;clear H a;intro a H
    refine qF H<|qd rfl (fun _ S=>(aV G G G))<|qr 1 rfl<|qK ?_;clear H a;intro a H
    refine aL H G G G G G ?_;clear H a;intro a H
    refine aL H G G G G G ?_;clear H a;intro a H
    refine aL H G G G G G ?_;clear H a;intro a H
    refine aL H G G G G G ?_;clear H a;intro a H
    refine aL H G G G G G ?_;clear H a;intro a H
    refine aL H G G G G G ?_;clear H a;intro a H
    refine aL H G G G G G ?_;clear H a;intro a H
    refine aL H G G G G G ?_;clear H a;intro a H
    refine aL H G G G G G ?_;clear H a;intro a H
    refine qF H<|qd rfl (fun _ S=>(aV G G G))<|qK ?_;clear H a;intro a H
    refine bV ?_
    refine k19 _ _ ?_
    clear k19 K19
    refine aQ H rfl (fun hc4=>?_) (fun hc4=>?_)
    ·skip
     skip
     cases hc4
    skip
    refine wp_skip ?_
    refine k18 _ _ ?_
    replace H:=H.keep [1,4,6,7,8,19,20] rfl
    refine sO H<|sr 1 rfl<|sd (aH G G (by unfold i64ok;omega))<|sr 1 rfl<|sE ?_;clear H a;intro a H
    exact k15 (g2-1) (q+1,_,_,_,_,_) a _ (by omega) (⟨by omega,by omega,by first|exact sB (by rw [fQ hA hB];exact decide_eq_true (by omega)) hb2 hn2|exact fS (by rw [fQ hA hB,decide_eq_true_eq];omega) hb2 hn2|exact fS (sC hA) hb2 hn2|exact fS (sG hB) hb2 hn2|exact fS (by rw [fQ hA hB,decide_eq_true_eq];have h9:=hc6.resolve_left (fun h=>h.elim (fun h=>Bool.noConfusion h) (fun h=>Bool.noConfusion h));omega) hb2 hn2,by omega⟩) (S.sel [0,1,2] G G) (H.keep [6,8,1,4,7,19,20] rfl)
   ·skip
    have hsh:=pwc (h:=u) (by omega)
    have hsh2:=pwc (h:=y) (by omega)
    have hwl9:=nN (hz:=hz) (sw:=sw) (ws:=ws) (cl:=lorI (1*2^(u:Int).toNat) (1*2^(y:Int).toNat)) hz.toNat
    replace H:=H.keep [1,4,6,7,8,19,20] rfl
    replace S:=S.drew
    refine cD [(0,true),(1,true),(2,false),(3,true),(4,true),(5,true),(6,true),(7,false),(8,true),(9,true),(10,true),(11,true),(12,true),(13,true),(14,true),(15,true),(16,true),(17,true),(18,true),(19,true),(20,true)] (by kernel_rfl) (by kernel_rfl) (S.sel [0,1,2] G G) fun K21 k21=>?_
    refine qF H<|qr 2 rfl<|qK ?_;clear H a;intro a H
    refine aU rfl ?_
    refine aA H G G Try.func37 G G (eT (critN hz sw ws sw.length) A8 c8 _ _ (ownM.inS S (i:=1) rfl) (by omega)) ?_;clear H a
    rintro _ _ a ⟨rfl,S2⟩ H
    replace S:=S.call S2;clear S2
    first|rw [hA] at H|rw [hB] at H
    refine wpList_nil (And.intro (S.sel [0,1,2] G G) ?_)
    refine qF H<|qr 2 rfl<|qK ?_;clear H a;intro a H
    refine aI H G G G G (fun _ S=>aT rfl) ?_;clear H a;intro a H
    refine aI H G G G G (fun _ S=>aT rfl) ?_;clear H a;intro a H
    refine aU rfl ?_
    refine bC H G G ?_
    refine aA H G G Try.func37 G G (eT (critN hz sw ws sw.length) A8 c8 _ _ (ownM.inS S (i:=1) rfl) (by omega)) ?_;clear H a
    rintro _ _ a ⟨rfl,S2⟩ H
    replace S:=S.call S2;clear S2
    first|rw [hA] at H|rw [hB] at H
    refine wpList_nil (And.intro (S.sel [0,1,2] G G) ?_)
    refine aI H G G G G (fun _ S=>cL rfl) ?_;clear H a;intro a H
    refine qF H<|qd rfl (fun _ S=>(iX G G G))<|qr 1 rfl<|qK ?_;clear H a;intro a H
    refine aL H G G G G G ?_;clear H a;intro a H
    refine aL H G G G G G ?_;clear H a;intro a H
    refine aL H G G G G G ?_;clear H a;intro a H
    refine aL H G G G G G ?_;clear H a;intro a H
    refine aL H G G G G G ?_;clear H a;intro a H
    refine aL H G G G G G ?_;clear H a;intro a H
    refine aL H G G G G G ?_;clear H a;intro a H
    refine aL H G G G G G ?_;clear H a;intro a H
    refine aL H G G G G G ?_;clear H a;intro a H
    refine qF H<|qd rfl (fun _ S=>(aV G G G))<|qK ?_;clear H a;intro a H
    refine bV ?_
    refine k21 _ _ ?_
    clear k21 K21
    refine aQ H rfl (fun hc5=>?_) (fun hc5=>?_)
    ·skip
     skip
     cases hc5
    skip
    refine wp_skip ?_
    refine k18 _ _ ?_
    replace H:=H.keep [1,4,6,7,8,19,20] rfl
    refine sO H<|sr 1 rfl<|sd (aH G G (by unfold i64ok;omega))<|sr 1 rfl<|sE ?_;clear H a;intro a H
    exact k15 (g2-1) (q+1,_,_,_,_,_) a _ (by omega) (⟨by omega,by omega,by first|exact sB (by rw [fQ hA hB];exact decide_eq_true (by omega)) hb2 hn2|exact fS (by rw [fQ hA hB,decide_eq_true_eq];omega) hb2 hn2|exact fS (sC hA) hb2 hn2|exact fS (sG hB) hb2 hn2|exact fS (by rw [fQ hA hB,decide_eq_true_eq];have h9:=hc6.resolve_left (fun h=>h.elim (fun h=>Bool.noConfusion h) (fun h=>Bool.noConfusion h));omega) hb2 hn2,by omega⟩) (S.sel [0,1,2] G G) (H.keep [6,8,1,4,7,19,20] rfl)
   have hsh:=pwc (h:=u) (by omega)
   have hsh2:=pwc (h:=y) (by omega)
   have hwl9:=nN (hz:=hz) (sw:=sw) (ws:=ws) (cl:=lorI (1*2^(u:Int).toNat) (1*2^(y:Int).toNat)) hz.toNat
   replace H:=H.keep [1,4,6,7,8,19,20] rfl
   replace S:=S.drew
   refine cD [(0,true),(1,true),(2,false),(3,true),(4,true),(5,true),(6,true),(7,false),(8,true),(9,true),(10,true),(11,true),(12,true),(13,true),(14,true),(15,true),(16,true),(17,false),(18,true),(19,true),(20,true)] (by kernel_rfl) (by kernel_rfl) (S.sel [0,1,2] G G) fun K23 k23=>?_
   refine qF H<|qr 2 rfl<|qK ?_;clear H a;intro a H
   refine aU rfl ?_
   refine aA H G G Try.func37 G G (eT (critN hz sw ws sw.length) A8 c8 _ _ (ownM.inS S (i:=1) rfl) (by omega)) ?_;clear H a
   rintro _ _ a ⟨rfl,S2⟩ H
   replace S:=S.call S2;clear S2
   first|rw [hA] at H|rw [hB] at H
   refine wpList_nil (And.intro (S.sel [0,1,2] G G) ?_)
   refine qF H<|qr 2 rfl<|qK ?_;clear H a;intro a H
   refine aI H G G G G (fun _ S=>aT rfl) ?_;clear H a;intro a H
   refine aI H G G G G (fun _ S=>aT rfl) ?_;clear H a;intro a H
   refine aU rfl ?_
   refine bC H G G ?_
   refine aA H G G Try.func37 G G (eT (critN hz sw ws sw.length) A8 c8 _ _ (ownM.inS S (i:=1) rfl) (by omega)) ?_;clear H a
   rintro _ _ a ⟨rfl,S2⟩ H
   replace S:=S.call S2;clear S2
   first|rw [hA] at H|rw [hB] at H
   refine wpList_nil (And.intro (S.sel [0,1,2] G G) ?_)
   refine aI H G G G G (fun _ S=>cL rfl) ?_;clear H a;intro a H
   refine qF H<|qd rfl (fun _ S=>(iX G G G))<|qr 1 rfl<|qK ?_;clear H a;intro a H
   refine aI H G G G G (fun _ S=>(aC dB cM rfl S (i:=2) G G)) ?_;clear H a;intro a H
   refine aI H G G G G (fun _ S=>aT rfl) ?_;clear H a;intro a H
   refine aI H G G G G (fun _ S=>dE G G (by omega) (by omega) (by unfold i64ok;omega)) ?_;clear H a;intro a H
   refine aI H G G G G (fun _ S=>aT rfl) ?_;clear H a;intro a H
   refine aI H G G G G (fun _ S=>dE G G (by omega) (by omega) (by unfold i64ok;omega)) ?_;clear H a;intro a H
   refine aI H G G G G (fun _ S=>Ej G G hsh hsh2) ?_;clear H a;intro a H
   refine aU rfl ?_
   refine bC H G G ?_
   refine aA H G G Try.func38 G G (tN hz sw SA sc ws QA qc OA oc (lorI (1*2^(u:Int).toNat) (1*2^(y:Int).toNat)) _ (hsw.now S) (hws.now S) (fun k hk=>(hof k hk).now S) V (xV hsh hsh2)) ?_;clear H a
   rintro _ _ a ⟨A5,c5,rfl,S2⟩ H
   replace S:=S.call S2;clear S2
   refine wpList_nil (And.intro (S.sel [1,2,3] G G) ?_)
   refine aI H G G G G (fun _ S=>dD aN rfl) ?_;clear H a;intro a H
   refine aI H G G G G (fun _ S=>bU G G) ?_;clear H a;intro a H
   refine qF H<|qd rfl (fun _ S=>(iX G G G))<|qK ?_;clear H a;intro a H
   refine bV ?_
   refine k23 _ _ ?_
   clear k23 K23
   refine aQ H rfl (fun hc6=>?_) (fun hc6=>?_)
   ·skip
    try simp only [o1,o2,o3,o4,o5,o6,o7,o8,o9,oa] at hc6
    have hno:n≤12*12:=by rw [hn1];exact Nat.le_trans (Ek _) (Nat.mul_le_mul (show u≤12 by omega) (show sw.length≤12 by omega))
    have hpi:=xW (hz:=hz) (sw:=sw) (ws:=ws) (al:=(critN hz sw ws sw.length)) (a:=u) q
    replace H:=H.keep [1,4,6,7,8,19,20] rfl
    refine bY ?_
    refine ls 4 H<|sr 3 rfl<|sd (aO Ig G G)<|sE ?_;clear H a;intro a H
    refine aY H rfl S gP Bl vL G G G G G G G G G ?_;clear H a S;intro A1 _ a hA1 S H
    refine cI H rfl S gP Bl vL Ib G G (i:=2) G G G (ownM.inS S (i:=0) rfl) (kM (two G G)) (by omega) (by omega) ?_;clear H a S;intro A2 c2 _ a S H
    refine ls 1 H<|sr 1 rfl<|sE ?_;clear H a;intro a H
    refine k18 _ _ ?_
    replace H:=H.keep [1,4,6,7,8,19,20] rfl
    refine sO H<|sr 1 rfl<|sd (aH G G (by unfold i64ok;omega))<|sr 1 rfl<|sE ?_;clear H a;intro a H
    exact k15 (g2-1) (q+1,_,_,_,_,_) a _ (by omega) (⟨by omega,by omega,by first|exact sB (by rw [fQ hA hB];exact decide_eq_true (by omega)) hb2 hn2|exact fS (by rw [fQ hA hB,decide_eq_true_eq];omega) hb2 hn2|exact fS (sC hA) hb2 hn2|exact fS (sG hB) hb2 hn2|exact fS (by rw [fQ hA hB,decide_eq_true_eq];have h9:=hc6.resolve_left (fun h=>h.elim (fun h=>Bool.noConfusion h) (fun h=>Bool.noConfusion h));omega) hb2 hn2,by omega⟩) (S.sel [2,3,4] G G) (H.keep [6,8,1,4,7,19,20] rfl)
   try simp only [o1,o2,o3,o4,o5,o6,o7,o8,o9,oa] at hc6
   refine wp_skip ?_
   refine k18 _ _ ?_
   refine sO H<|sr 1 rfl<|sd (aH G G (by unfold i64ok;omega))<|sr 1 rfl<|sE ?_;clear H a;intro a H
   exact k15 (g2-1) (q+1,_,_,_,_,_) a _ (by omega) (⟨by omega,by omega,by first|exact sB (by rw [fQ hA hB];exact decide_eq_true (by omega)) hb2 hn2|exact fS (by rw [fQ hA hB,decide_eq_true_eq];omega) hb2 hn2|exact fS (sC hA) hb2 hn2|exact fS (sG hB) hb2 hn2|exact fS (by rw [fQ hA hB,decide_eq_true_eq];have h9:=hc6.resolve_left (fun h=>h.elim (fun h=>Bool.noConfusion h) (fun h=>Bool.noConfusion h));omega) hb2 hn2,by omega⟩) (S.sel [1,2,3] G G) (H.keep [6,8,1,4,7,19,20] rfl)
  refine wp_exit ?_
  refine k12 _ _ ?_
  refine sO H<|sd (aH G G (by unfold i64ok;omega))<|sr 1 rfl<|sE ?_;clear H a;intro a H
  exact k9 (g1-1) (u+1,_,_,_,_) a _ (by omega) (⟨by omega,by omega,by rw [pcOut,←hn1,show sw.length-(u+1)=q by omega];exact hn2⟩) (S.sel [0,1,2] G G) (H.keep [6,20,1,4,19] rfl)
 refine wp_exit ?_
 refine k7 _ _ ?_
 replace H:=H.keep [6] rfl
 refine sS H fun K28 k28=>sr 3 rfl<|sE ?_;clear H a;intro a H
 refine k28 _ ?_;clear k28 K28
 refine wp_ret ?_
 refine ret2 (fn:=Try.f22) rfl H G G ?_
 obtain rfl:u=sw.length:=by omega
 rw [←hn1]
 exact ⟨_,_,rfl,(S.sel [] G G)⟩
end
section
def exSw:List Int:=[1,1,2,2]
def exWs:List Wr:=[⟨2,[1,2,3,4]⟩,⟨1,[0]⟩,⟨1,[1]⟩,⟨1,[2]⟩,⟨1,[3]⟩]
def exOA (A0 A1 A2 A3 A4:Option Addr) (k:Nat):Option Addr:=[A0,A1,A2,A3,A4].getD k none
def exOc (k:Nat):Nat:=[4,1,1,1,1].getD k 0
theorem exCir:circE 2 exSw exWs=0:=by kernel_rfl
theorem eC:pcOut 2 exSw exWs (critN 2 exSw exWs exSw.length) exSw.length=2:=by kernel_rfl
theorem bW (w:World) :
    Calls Try.prog 21 [].toArray w (Ret (fun v w'=>∃ SA A0 A1 A2 A3 A4 QA TA,v = .tuple #[.agg [.int .i64 2,.slice SA 4 4,.slice QA 5 5].toArray,.slice TA 4 4]∧St w noF [ownM 3 1 SA 4 4 (icl exSw),ownM 3 1 A0 4 4 (icl [1,2,3,4]),ownM 3 1 A1 1 1 (icl [0]),ownM 3 1 A2 1 1 (icl [1]),ownM 3 1 A3 1 1 (icl [2]),ownM 3 1 A4 1 1 (icl [3]),ownM 100 2 QA 5 5 (eG exWs (exOA A0 A1 A2 A3 A4) exOc)] w')):=by
 refine enter Try.func21 rfl Try.ntmps21 rfl (fun a H=>?_)
 have S:=St.start w
 refine aB fun K1 k1=>?_
 refine aJ H rfl S gE ?_;clear H a S;intro b0 _ a hb0 hbw0 S H
 refine ls 1 H<|sr 1 rfl<|sE ?_;clear H a;intro a H
 refine k1 _ _ ?_;clear k1 K1
 replace H:=H.keep [0] rfl
 refine aB fun K2 k2=>?_
 refine aY H rfl S aN aX eF G G G G G G G G G ?_;clear H a S;intro A1 _ a hA1 S H
 refine aY H rfl S aN aX eF G G G G G G G G G ?_;clear H a S;intro A2 _ a hA2 S H
 refine ls 1 H<|sd (aO oF G G)<|sE ?_;clear H a;intro a H
 refine aY H rfl S aN aX eF G G G G G G G G G ?_;clear H a S;intro A3 _ a hA3 S H
 refine ls 1 H<|sd (aO oF G G)<|sE ?_;clear H a;intro a H
 refine aY H rfl S aN aX eF G G G G G G G G G ?_;clear H a S;intro A4 _ a hA4 S H
 refine ls 1 H<|sd (aO oF G G)<|sE ?_;clear H a;intro a H
 refine aY H rfl S aN aX eF G G G G G G G G G ?_;clear H a S;intro A5 _ a hA5 S H
 refine ls 1 H<|sd (aO oF G G)<|sE ?_;clear H a;intro a H
 refine aY H rfl S aN aX eF G G G G G G G G G ?_;clear H a S;intro A6 _ a hA6 S H
 refine ls 1 H<|sd (aO oF G G)<|sE ?_;clear H a;intro a H
 refine aY H rfl S lF kL rJ G G G G G G G G G ?_;clear H a S;intro A7 _ a hA7 S H
 refine ls 1 H<|sd (aO Kv G G)<|sE ?_;clear H a;intro a H
 refine aJ H rfl S gE ?_;clear H a S;intro b2 _ a hb2 hbw2 S H
 refine aD H S (i:=0) G G G G cM G G ?_
 clear H a S;intro _ a S H
 refine k2 _ _ ?_;clear k2 K2
 replace H:=H.keep [0,2] rfl
 refine aB fun K3 k3=>?_
 refine ls 5 H<|sd ((aC dB cM rfl S (i:=0) G G))<|sd (aO rK G G)<|sd (aO rK G G)<|sd (aO rK G G)<|sd (aO rK G G)<|sE ?_;clear H a;intro a H
 refine aY H rfl S Kr Hz Ca G G G G G G G G G ?_;clear H a S;intro A8 _ a hA8 S H
 refine aD H S (i:=9) G G G G cM G G ?_
 clear H a S;intro _ a S H
 refine ls 1 H<|sr 1 rfl<|sE ?_;clear H a;intro a H
 refine k3 _ _ ?_;clear k3 K3
 refine wp_ret ?_
 refine retA1 (fn:=Try.f21) rfl H rfl dB (by exact cM) (dH S (i:=9) rfl) rfl ?_
 replace S:=S.recell (i:=8) rfl (cell':=icl exSw) (fun k j hk hj=>by
   obtain rfl:j=0:=by omega
   rcases k with _|_|_|_|k <;> first|rfl|(exfalso;omega))
 replace S:=S.recell (i:=7) rfl (cell':=icl [1,2,3,4]) (fun k j hk hj=>by
   obtain rfl:j=0:=by omega
   rcases k with _|_|_|_|k <;> first|rfl|(exfalso;omega))
 replace S:=S.recell (i:=6) rfl (cell':=icl [0]) (fun k j hk hj=>by
   obtain rfl:j=0:=by omega
   rcases k with _|_|_|_|k <;> first|rfl|(exfalso;omega))
 replace S:=S.recell (i:=5) rfl (cell':=icl [1]) (fun k j hk hj=>by
   obtain rfl:j=0:=by omega
   rcases k with _|_|_|_|k <;> first|rfl|(exfalso;omega))
 replace S:=S.recell (i:=4) rfl (cell':=icl [2]) (fun k j hk hj=>by
   obtain rfl:j=0:=by omega
   rcases k with _|_|_|_|k <;> first|rfl|(exfalso;omega))
 replace S:=S.recell (i:=3) rfl (cell':=icl [3]) (fun k j hk hj=>by
   obtain rfl:j=0:=by omega
   rcases k with _|_|_|_|k <;> first|rfl|(exfalso;omega))
 refine ⟨A1,A2,A3,A4,A5,A6,A7,A8,rfl,?_⟩
 replace S:=S.recell (i:=2) rfl (cell':=eG exWs (exOA A2 A3 A4 A5 A6) exOc) (fun k j hk hj=>by
   rcases j with _|_|j
   · rcases k with _|_|_|_|_|k <;> first|rfl|(exfalso;omega)
   · rcases k with _|_|_|_|_|k <;> first|rfl|(exfalso;omega)
   · exfalso;omega)
 exact (S.sel [8,7,6,5,4,3,2] G G)
end
section
structure Chain where
  links:Int
  pitch:Int
  limit:Int
structure Gauge where
  fr:Int
  to:Int
  lo:Int
  hi:Int
def Gauge.zero:Gauge:=⟨0,0,0,0⟩
def Gauge.cell (g:Gauge):Nat→Value
  | 0 => .int .i64 g.fr
  | 1 => .int .i64 g.to
  | 2 => .int .i64 g.lo
  | _ => .int .i64 g.hi
abbrev Chain.val (c:Chain):Value := .agg [.int .i64 c.links,.int .i64 c.pitch,.int .i64 c.limit].toArray
theorem El {α:Type} {l:List α} {p:α→Bool} {k:Nat} {d:α} (hk:k<l.length) (h:(l.take k).all p=true) (hp:p (l.getD k d)=true):(l.take (k+1)).all p=true:=by
  rw [List.take_succ_eq_append_getElem hk,List.all_append,h]
  simp only [List.getD_eq_getElem?_getD,List.getElem?_eq_getElem hk,Option.getD_some] at hp
  simp [hp]
theorem Ag {α:Type} {l:List α} {p:α→Bool} {k:Nat} {d:α} (hk:k<l.length) (hp:p (l.getD k d)=false):l.all p=false:=by
  simp only [List.getD_eq_getElem?_getD,List.getElem?_eq_getElem hk,Option.getD_some] at hp
  rw [←Bool.not_eq_true,List.all_eq_true]
  intro h
  have:=h _ (List.getElem_mem hk)
  rw [hp] at this
  cases this
abbrev IM:=Nat→Nat→Int
section
variable (M:IM) (a b:Nat) (far:Int)
end
def diagB (n:Nat) (M:IM):Bool:=(List.range n).all fun k=>decide (0≤M k k)
def wide:Int:=1099511627776
structure Good (n:Nat) (M:IM):Prop where
  diag:∀ x,x<n→M x x=0
  tri:∀ x y z,x<n→y<n→z<n→M x z≤M x y+M y z
  top:∀ x y,x<n→y<n→M x y≤wide
theorem Good.low {n:Nat} {M:IM} (h:Good n M) {x y:Nat} (hx:x<n) (hy:y<n) : -wide≤M x y:=by
  have h1:=h.tri x y x hx hy hx
  have h2:=h.diag x hx
  have h3:=h.top y x hy hx
  omega
theorem qN {n:Nat} {M:IM}:diagB n M=true↔∀ k,k<n→0≤M k k:=by
  unfold diagB
  rw [List.all_eq_true]
  constructor
  · intro h k hk;simpa using h k (List.mem_range.2 hk)
  · intro h k hk;simpa using h k (List.mem_range.1 hk)
structure Under (n:Nat) (E M:IM):Prop where
  le:∀ x y,x<n→y<n→E x y≤M x y
  add:∀ x y z,x<n→y<n→z<n→E x z=E x y+E y z
theorem Under.diag {n:Nat} {E M:IM} (h:Under n E M):diagB n M=true:=by
  rw [qN]
  intro k hk
  have h1:=h.le k k hk hk
  have h2:=h.add k k k hk hk hk
  omega
def Chain.n (c:Chain):Nat:=c.links.toNat+1
structure Best (n:Nat) (C:IM→Prop) (M:IM):Prop where
  good:Good n M
  sat:C M
  best:∀ E,Good n E→C E→∀ x y,x<n→y<n→E x y≤M x y
theorem Best.same {n:Nat} {C:IM→Prop} {M M':IM} (h:Best n C M) (h':Best n C M'):∀ x y,x<n→y<n→M x y=M' x y:=by
  intro x y hx hy
  have h1:=h.best M' h'.good h'.sat x y hx hy
  have h2:=h'.best M h.good h.sat x y hx hy
  omega
def fwP (M:IM) (m:Nat):IM:=fun x y=>min (M x y) (M x m+M m y)
def fstg (M:IM) (m p q:Nat):IM:=fun x y=>if x<p∨(x=p∧y<q) then fwP M m x y else M x y
theorem uH (M:IM) (m n x y:Nat) (hx:x<n):fstg M m n 0 x y=fwP M m x y:=by
  unfold fstg;rw [if_pos (by omega)]
def pw:Nat→Int
  | 0=>10000000
  | k+1=>2*pw k
structure CNet (n k:Nat) (M:IM):Prop where
  diag:∀ x,x<n→M x x=0
  lo:∀ x y,x<n→y<n → -(pw k)≤M x y
  top:∀ x y,x<n→y<n→M x y≤wide
theorem CNet.fstg {n k m:Nat} {M:IM} (h:CNet n k M) (hm:m<n) (p q x y:Nat) (hx:x<n) (hy:y<n) : -(pw (k+1))≤fstg M m p q x y∧fstg M m p q x y≤wide:=by
  have h1:=h.lo x y hx hy
  have h2:=h.lo x m hx hm
  have h3:=h.lo m y hm hy
  have h4:=h.top x y hx hy
  have h5:pw (k+1)=2*pw k:=rfl
  have h6:=h.diag m hm
  have h7:=h.lo m m hm hm
  unfold Go.Proofs.Ytinghmelkmblmaa.fstg fwP
  split <;> omega
theorem CNet.next {n k m:Nat} {M:IM} (h:CNet n k M) (hm:m<n) (hd:diagB n (fwP M m)=true):CNet n (k+1) (fwP M m):=by
  rw [qN] at hd
  refine ⟨fun x hx=>?_,fun x y hx hy=>?_,fun x y hx hy=>?_⟩
  · have h1:=hd x hx
    have h2:=h.diag x hx
    have h3:fwP M m x x≤M x x:=by unfold fwP;omega
    omega
  · have:=h.fstg hm n 0 x y hx hy
    rw [uH M m n x y hx] at this
    exact this.1
  · have:=h.fstg hm n 0 x y hx hy
    rw [uH M m n x y hx] at this
    exact this.2
structure Use where
  day:Int
  turns:Int
  cls:Int
  meas:Bool
  lo:Int
  hi:Int
structure Part where
  rates:List (Int×Int)
  worn:Int
  turns:Int
  age:Int
def Use.zero:Use:=⟨0,0,0,false,0,0⟩
def Use.cell (u:Use):Nat→Value
  | 0 => .int .i64 u.day
  | 1 => .int .i64 u.turns
  | 2 => .int .i64 u.cls
  | 3 => .bool u.meas
  | 4 => .int .i64 u.lo
  | _ => .int .i64 u.hi
def Em (p:Part) (u:Use):Int×Int:=(u.turns*(p.rates.getD u.cls.toNat (0,0)).1,u.turns*(p.rates.getD u.cls.toNat (0,0)).2)
def meetS (a b:Int×Int):Int×Int:=(max a.1 b.1,min a.2 b.2)
def addS (a b:Int×Int):Int×Int:=(a.1+b.1,a.2+b.2)
def fwd (p:Part) (l:List Use):Nat→Int×Int
  | 0=>(0,0)
  | k+1=>if (l.getD k Use.zero).meas then meetS (addS (fwd p l k) (Em p (l.getD k Use.zero))) ((l.getD k Use.zero).lo,(l.getD k Use.zero).hi) else addS (fwd p l k) (Em p (l.getD k Use.zero))
def fits (p:Part) (l:List Use) (k:Nat):Prop:=(l.getD k Use.zero).meas=true→(fwd p l (k+1)).1≤(fwd p l (k+1)).2
structure IsAt (p:Part) (l:List Use) (n:Nat):Prop where
  le:n≤l.length
  good:∀ k,k<n→fits p l k
  bad:n<l.length→¬ fits p l n
theorem IsAt.same {p:Part} {l:List Use} {n m:Nat} (h:IsAt p l n) (h':IsAt p l m):n=m:=by
  rcases Nat.lt_trichotomy n m with h1|h1|h1
  · exact absurd (h'.good n h1) (h.bad (by have:=h'.le;omega))
  · exact h1
  · exact absurd (h.good m h1) (h'.bad (by have:=h.le;omega))
section
variable {P:Program} {ops:Array Oper} {w w0:World} {F0 F:Nat→Prop} {R:List Mem} {Q:Exit→Act→World→Prop} {rest:List Oper} {N:FN} {L:List (Nat×Value)} {a:Act} {ty:TypeId} {pos:String} {af:Array Edge}
theorem boxM.same {i b:Nat} {t:TypeId} {cs cs':List Value} (S:St w0 F0 R w) (hi:R[i]?=some (boxM b t cs)) (h:cs=cs'):St w0 F0 (R.set i (boxM b t cs')) w:=by
  subst h;exact S.imp hi (fun h=>h) (fun _ h=>h)
end
end
section
theorem xX {P:Program} {f:Nat} {vs:Array Value} {w:World} {R R':Value→World→Prop} (h:Calls P f vs w (Ret R)) (k:∀ v w',R v w'→R' v w'):Calls P f vs w (Ret R'):=Calls.mono h fun e w' he=>by
  cases e with
  | returned v=>exact k v w' he
  | _=>exact he
set_option maxRecDepth 100000 in
theorem Gv (a b c d:Int) (w:World):(Op.equalIn 10000 60 (.agg #[.int .i64 a,.int .i64 b]) (.agg #[.int .i64 c,.int .i64 d])).run Try.prog w = .ok (a == c&&b == d) w:=by
  have u3:=Try.underlying3
  have a3:=Try.isAgg3
  have z3:=Try.sizeOf3
  have hS:Try.prog.underlying 60=some (.struct (Try.prog.fieldsOf 60)):=by kernel_rfl
  have hp:Try.prog.stoodInHeld 60=false:=by kernel_rfl
  rw [show (10000:Nat)=9999+1 from rfl,run_equalIn_agg w 9999 60 _ _ hS hp]
  simp only [Program.fieldsOf,Try.underlying60]
  go_simp
  by_cases h1:a=c <;> by_cases h2:b=d <;> simp [h1,h2]
set_option maxRecDepth 100000 in
theorem wM (op:BinOp) (x y:Operand) (a b c d:Int) (w:World):(eqGuard op 60 x y (.agg #[.int .i64 a,.int .i64 b]) (.agg #[.int .i64 c,.int .i64 d])).run Try.prog w = .ok () w:=by
  have h:Try.prog.eqGuardType Try.prog.depth 60=false:=by kernel_rfl
  have hpg:∀ w,(program:Sem Program).run Try.prog w = .ok Try.prog w:=fun _=>rfl
  cases op <;> simp [eqGuard,h,hpg]
section
variable {P:Program} {w:World} {L:List (Nat×Value)} {ty:TypeId} {pos:String} {af:Array Edge} {dd:Option Nat} {g:Option (Nat×Bool)}
end
end
section
theorem Jo {sz:Nat} {c d:Nat→Nat→Value} (h0:∀ j,j<sz→c 0 j=d 0 j) (h1:∀ j,j<sz→c 1 j=d 1 j):∀ k j,k<2→j<sz→c k j=d k j:=by
  intro k j hk hj
  have:k=0∨k=1:=by omega
  rcases this with rfl|rfl
  · exact h0 j hj
  · exact h1 j hj
section
variable {P:Program} {w:World} {L:List (Nat×Value)} {ty:TypeId} {pos:String} {af:Array Edge} {dd:Option Nat} {g:Option (Nat×Bool)} {a:Act}
set_option maxRecDepth 100000 in
theorem bN {x y:Operand} {yt:TypeId} {a b c d:Int} (hx:ev L x=some (.agg [.int .i64 a,.int .i64 b].toArray)) (hy:ev L y=some (.agg [.int .i64 c,.int .i64 d].toArray)) :
    Does Try.prog L ⟨dd,.binOp .eql 60 x y yt,ty,pos,af,g⟩ w (.bool (decide (a=c)&&decide (b=d))):=fun ρ hρ=>by
  have e:(binOp .eql 60 (.agg #[.int .i64 a,.int .i64 b]) (.agg #[.int .i64 c,.int .i64 d])).run Try.prog w = .ok (.bool (decide (a=c)&&decide (b=d))) w:=by
    simp only [binOp]
    simp [Op.equal,Op.maxDepth,Gv]
    by_cases h1:a=c <;> by_cases h2:b=d <;> simp [h1,h2]
  simp only [execOp,hρ _ _ hx,hρ _ _ hy]
  simp [wM,e]
end
end
section
structure Brake where
  force:Int
  delay:Int
deriving DecidableEq
def Brake.zero:Brake:=⟨0,0⟩
def Brake.cell (b:Brake):Nat→Value
  | 0 => .int .i64 b.force
  | _ => .int .i64 b.delay
def bcell (l:List Brake) (k j:Nat):Value:=(l.getD k Brake.zero).cell j
structure Esc where
  up:Bool
  empty:Int
  pull:Int
  drag:Int
  motor:Int
  br:List Brake
structure Stp where
  speed:Int
  lo:Int
  hi:Int
  fail:Int
def eU (b:Brake):Bool:=decide (0≤b.force∧b.force≤10000000∧0≤b.delay∧b.delay≤20)
def escOk (e:Esc):Bool:=decide (1≤e.empty∧e.empty≤100000∧0≤e.pull∧e.pull≤100∧0≤e.drag∧e.drag≤10000000∧0≤e.motor∧e.motor≤10000000∧e.br.length≤3)&&e.br.all eU
def stpOk (e:Esc) (s:Stp):Bool:=decide (0≤s.speed∧s.speed≤1000∧0≤s.lo∧s.lo≤s.hi∧s.hi≤100000∧0≤s.fail∧s.fail<2^e.br.length)
def stopE (e:Esc) (s:Stp):Int:=if escOk e=true then (if stpOk e s=true then 0 else 11) else 10
def kS (v g f m:Int):Int:=max 0 (v+(g-f)/m)
def tickI (e:Esc) (v load brakes:Int):Int:=
  let g:=if e.up then -(e.pull*load) else e.pull*load
  if v<0∨v=0∧g<0 then -kS (-v) (-g) (e.drag+brakes) (e.empty+load) else kS v g (e.drag+brakes) (e.empty+load)
def fE (fail t:Int) (l:List Brake):Nat→Int
  | 0=>0
  | k+1=>fE fail t l k+(if fail/2^k%2=0∧(l.getD k Brake.zero).delay≤t then (l.getD k Brake.zero).force else 0)
theorem pF {fail t:Int} {l:List Brake} {k:Nat} (h:fail/2^k%2=0∧(l.getD k Brake.zero).delay≤t):fE fail t l k+(l.getD k Brake.zero).force=fE fail t l (k+1):=by
  conv=>rhs;unfold fE
  rw [if_pos h]
theorem qO {fail t:Int} {l:List Brake} {k:Nat} (h:¬ (fail/2^k%2=0∧(l.getD k Brake.zero).delay≤t)):fE fail t l k=fE fail t l (k+1):=by
  conv=>rhs;unfold fE
  rw [if_neg h,Int.add_zero]
def gripI (e:Esc) (s:Stp) (t:Int):Int:=fE s.fail t e.br e.br.length
def extI (e:Esc) (s:Stp) (most:Bool) (v t:Int):Int:=
  let a:=tickI e v s.lo (gripI e s t);let b:=tickI e v s.hi (gripI e s t)
  if (most=true∧b > a)∨(most=false∧b<a) then b else a
def goI (e:Esc) (s:Stp) (most:Bool):Nat→Int→Int→Int×Bool
  | 0,v,_=>(0,decide (v=0))
  | n+1,v,t=>if v=0 then (0,true) else (extI e s most v t+(goI e s most n (extI e s most v t) (t+1)).1,(goI e s most n (extI e s most v t) (t+1)).2)
theorem sH {fail t:Int} {l:List Brake} (h:l.all eU=true):∀ k,k≤l.length→0≤fE fail t l k∧fE fail t l k≤10000000*k:=by
  intro k
  induction k with
  | zero=>intro _;unfold fE;omega
  | succ k ih=>
    intro hk
    have h1:=ih (by omega)
    have hb:eU (l.getD k Brake.zero)=true:=by
      rw [List.getD_eq_getElem?_getD,List.getElem?_eq_getElem (by omega)]
      exact List.all_eq_true.1 h _ (List.getElem_mem _)
    unfold eU at hb
    simp only [decide_eq_true_eq] at hb
    unfold fE
    split <;> omega
theorem cK {e:Esc} (h:escOk e=true):(1≤e.empty∧e.empty≤100000∧0≤e.pull∧e.pull≤100∧0≤e.drag∧e.drag≤10000000∧0≤e.motor∧e.motor≤10000000∧e.br.length≤3)∧(∀ k,k<e.br.length→eU (e.br.getD k Brake.zero)=true)∧(2:Int)^((e.br.length:Int)).toNat=2^e.br.length∧1≤(2:Int)^e.br.length∧(2:Int)^e.br.length≤8:=by
  unfold escOk at h
  simp only [Bool.and_eq_true,decide_eq_true_eq] at h
  have h2:=h.1.2.2.2.2.2.2.2.2
  have h3:e.br.length=0∨e.br.length=1∨e.br.length=2∨e.br.length=3:=by omega
  refine ⟨h.1,fun k hk=>?_,by rw [Int.toNat_natCast],?_⟩
  · rw [List.getD_eq_getElem?_getD,List.getElem?_eq_getElem hk]
    exact List.all_eq_true.1 h.2 _ (List.getElem_mem hk)
  · rcases h3 with e|e|e|e <;> rw [e] <;> decide
theorem Gw {e:Esc} {s:Stp} (h:stopE e s=0):escOk e=true∧stpOk e s=true:=by
  unfold stopE at h
  split at h
  · split at h
    · exact ⟨by assumption,by assumption⟩
    · cases h
  · cases h
theorem pG {x m B:Int} (hm:0<m) (h : -B≤x∧x≤B) : -B≤x/m∧x/m≤B:=by
  constructor
  · rw [Int.le_ediv_iff_mul_le hm]
    have:B*1≤B*m:=Int.mul_le_mul_of_nonneg_left (by omega) (by omega)
    rw [Int.neg_mul];omega
  · have:=Int.ediv_le_ediv hm h.2
    have:=Int.ediv_le_self m (show 0≤B by omega)
    omega
theorem xY {e:Esc} {v x f B:Int} (he:escOk e=true) (hx:0≤x∧x≤100000) (hf:0≤f∧f≤30000000) (hv : -B≤v∧v≤B) : -(B+50000000)≤tickI e v x f∧tickI e v x f≤B+50000000:=by
  obtain ⟨h1,_⟩:=cK he
  have h2:0≤e.pull*x:=Int.mul_nonneg (by omega) (by omega)
  have h3:e.pull*x≤100*100000:=Int.mul_le_mul (by omega) (by omega) (by omega) (by omega)
  unfold tickI kS
  simp only
  generalize hg:(if e.up=true then -(e.pull*x) else e.pull*x)=g
  have h4 : -10000000≤g∧g≤10000000:=by rw [←hg];split <;> omega
  have h5:=pG (x:=g-(e.drag+f)) (B:=50000000) (show 0<e.empty+x by omega) (by omega)
  have h6:=pG (x := -g-(e.drag+f)) (B:=50000000) (show 0<e.empty+x by omega) (by omega)
  split <;> omega
theorem sJ {e:Esc} {s:Stp} {m:Bool} {v t:Int} (h:(m=true∧tickI e v s.hi (gripI e s t) > tickI e v s.lo (gripI e s t))∨(m=false∧tickI e v s.hi (gripI e s t)<tickI e v s.lo (gripI e s t))):extI e s m v t=tickI e v s.hi (gripI e s t):=by
  unfold extI
  exact if_pos h
theorem sK {e:Esc} {s:Stp} {m:Bool} {v t:Int} (h:¬ ((m=true∧tickI e v s.hi (gripI e s t) > tickI e v s.lo (gripI e s t))∨(m=false∧tickI e v s.hi (gripI e s t)<tickI e v s.lo (gripI e s t)))):extI e s m v t=tickI e v s.lo (gripI e s t):=by
  unfold extI
  exact if_neg h
theorem Jp {e:Esc} {s:Stp} {m:Bool} {v t:Int}:extI e s m v t=tickI e v s.lo (gripI e s t)∨extI e s m v t=tickI e v s.hi (gripI e s t):=by
  unfold extI
  simp only
  split
  · exact .inr rfl
  · exact .inl rfl
def distI (e:Esc) (s:Stp):Int×Int×Int:=
  if stopE e s≠0 then (0,0,stopE e s) else if (goI e s true 100 s.speed 0).2=true then ((goI e s false 100 s.speed 0).1,(goI e s true 100 s.speed 0).1,0) else (0,0,12)
end
section
theorem wN (n lo hi:Int) (w:World) :
    Calls Try.prog 53 [.int .i64 n,.agg [.int .i64 lo,.int .i64 hi].toArray].toArray w (Ret (fun v w'=>v = .bool (decide (lo≤n)&&decide (n≤hi))∧St w noF [] w')):=by
 refine enter Try.func53 rfl Try.ntmps53 rfl (fun a H=>?_)
 have S:=St.start w
 refine aB fun K1 k1=>?_
 refine aS H rfl S G G ?_;clear H a S;intro b3 _ a hb3 hbw3 S H
 refine ls 1 H<|sr 1 rfl<|sE ?_;clear H a;intro a H
 refine k1 _ _ ?_;clear k1 K1
 replace H:=H.keep [0,3] rfl
 refine sS H fun K2 k2=>sf cW rfl<|sl S 0 aF G G G<|sr 3 rfl<|sg 4 4 9 13 true G G (fun hg5=>sy hg5<|sr 1 rfl<|sy hg5<|sf dJ rfl<|sy hg5<|sl S 0 aF G G G<|sy hg5<|sr 1 rfl<|sz 4 G G G)<|sa G G G<|sr 1 rfl<|sE ?_;clear H a;intro a H
 refine k2 _ ?_;clear k2 K2
 refine wp_ret ?_
 refine ret1 (fn:=Try.f53) rfl H rfl ?_
 exact ⟨rfl,(S.sel [] G G)⟩
theorem cQ (hi:Int) (w:World) :
    Calls Try.prog 54 [.int .i64 hi].toArray w (Ret (fun v w'=>v = .agg [.int .i64 0,.int .i64 hi].toArray∧St w noF [] w')):=by
 refine enter Try.func54 rfl Try.ntmps54 rfl (fun a H=>?_)
 have S:=St.start w
 refine aB fun K1 k1=>?_
 refine aJ H rfl S dR ?_;clear H a S;intro b2 _ a hb2 hbw2 S H
 refine k1 _ _ ?_;clear k1 K1
 refine aB fun K2 k2=>?_
 refine ls 2 H<|sr 1 rfl<|sd (aO fR G G)<|sE ?_;clear H a;intro a H
 refine aD H S (i:=0) G G G G bA G G ?_
 clear H a S;intro _ a S H
 refine k2 _ _ ?_;clear k2 K2
 refine wp_ret ?_
 refine retA (fn:=Try.f54) rfl H rfl bL (by exact bA) (dH S (i:=0) rfl) ?_
 exact ⟨rfl,(S.sel [] G G)⟩
theorem bR {n lo hi:Int} {w:World} (h:lo≤n∧n≤hi):Calls Try.prog 53 [.int .i64 n,.agg [.int .i64 lo,.int .i64 hi].toArray].toArray w (Ret fun v w'=>v = .bool true∧St w noF [] w'):=
  xX (wN n lo hi w) fun v w' h'=>⟨h'.1.trans (congrArg Value.bool (by rw [decide_eq_true h.1,decide_eq_true h.2];rfl)),h'.2⟩
theorem iI {n lo hi:Int} {w:World} (h:n<lo∨hi<n):Calls Try.prog 53 [.int .i64 n,.agg [.int .i64 lo,.int .i64 hi].toArray].toArray w (Ret fun v w'=>v = .bool false∧St w noF [] w'):=
  xX (wN n lo hi w) fun v w' h'=>⟨h'.1.trans (congrArg Value.bool (by rw [Bool.and_eq_false_iff];simp only [decide_eq_false_iff_not];omega)),h'.2⟩
theorem Ah (b:Brake) (w:World) :
    Calls Try.prog 65 [.agg [.int .i64 b.force,.int .i64 b.delay].toArray].toArray w (Ret (fun v w'=>v = .bool (eU b)∧St w noF [] w')):=by
 refine enter Try.func65 rfl Try.ntmps65 rfl (fun a H=>?_)
 have S:=St.start w
 refine aB fun K1 k1=>?_
 refine aS H rfl S G G ?_;clear H a S;intro b1 _ a hb1 hbw1 S H
 refine ls 1 H<|sr 1 rfl<|sE ?_;clear H a;intro a H
 refine k1 _ _ ?_;clear k1 K1
 by_cases hs:0≤b.force∧b.force≤10000000
 ·skip
  replace H:=H.keep [1] rfl
  replace S:=S.drew
  refine cD [(0,true),(1,true),(2,false),(3,false),(4,true),(5,true),(6,true),(7,false),(8,false),(9,true),(10,true)] (by kernel_rfl) (by kernel_rfl) (S.sel [0] G G) fun K2 k2=>?_
  refine qF H<|qd rfl (fun _ S=>(aE rI rfl))<|qd rfl (fun _ S=>aG aF rfl (boxM.rd S (i:=0) G G))<|qK ?_;clear H a;intro a H
  refine aU rfl ?_
  refine aA H G G Try.func54 G G (cQ _ _) ?_;clear H a
  rintro _ _ a ⟨rfl,S2⟩ H
  replace S:=S.call S2;clear S2
  refine wpList_nil (And.intro (S.sel [0] G G) ?_)
  refine aU rfl ?_
  refine aA H G G Try.func53 G G (bR (by omega)) ?_;clear H a
  rintro _ _ a ⟨rfl,S2⟩ H
  replace S:=S.call S2;clear S2
  refine wpList_nil (And.intro (S.sel [0] G G) ?_)
  refine qF H<|qr 1 rfl<|qK ?_;clear H a;intro a H
  refine aI H G G G G (fun _ S=>(aE wW rfl)) ?_;clear H a;intro a H
  refine aI H G G G G (fun _ S=>aG aF rfl (boxM.rd S (i:=0) G G)) ?_;clear H a;intro a H
  refine aU rfl ?_
  refine bC H G G ?_
  refine aA H G G Try.func54 G G (cQ _ _) ?_;clear H a
  rintro _ _ a ⟨rfl,S2⟩ H
  replace S:=S.call S2;clear S2
  refine wpList_nil (And.intro (S.sel [0] G G) ?_)
  refine aU rfl ?_
  refine bC H G G ?_
  refine aA H G G Try.func53 G G (wN _ _ _ _) ?_;clear H a
  rintro _ _ a ⟨rfl,S2⟩ H
  replace S:=S.call S2;clear S2
  refine wpList_nil (And.intro (S.sel [0] G G) ?_)
  refine qF H<|qd rfl (fun _ S=>(iX G G G))<|qr 1 rfl<|qK ?_;clear H a;intro a H
  refine bV ?_
  refine k2 _ _ ?_
  clear k2 K2
  refine wp_ret ?_
  refine ret1 (fn:=Try.f65) rfl H rfl ?_
  refine ⟨congrArg Value.bool ?_,(S.sel [] G G)⟩
  unfold eU
  first|(rw [Bool.eq_iff_iff];simp only [Bool.and_eq_true,decide_eq_true_eq,true_and];omega)|(symm;simp only [decide_eq_false_iff_not];omega)
 replace H:=H.keep [1] rfl
 replace S:=S.drew
 refine cD [(0,true),(1,true),(2,false),(3,false),(4,true),(5,true),(6,true),(7,true),(8,true),(9,true),(10,true)] (by kernel_rfl) (by kernel_rfl) (S.sel [0] G G) fun K3 k3=>?_
 refine qF H<|qd rfl (fun _ S=>(aE rI rfl))<|qd rfl (fun _ S=>aG aF rfl (boxM.rd S (i:=0) G G))<|qK ?_;clear H a;intro a H
 refine aU rfl ?_
 refine aA H G G Try.func54 G G (cQ _ _) ?_;clear H a
 rintro _ _ a ⟨rfl,S2⟩ H
 replace S:=S.call S2;clear S2
 refine wpList_nil (And.intro (S.sel [0] G G) ?_)
 refine aU rfl ?_
 refine aA H G G Try.func53 G G (iI (by omega)) ?_;clear H a
 rintro _ _ a ⟨rfl,S2⟩ H
 replace S:=S.call S2;clear S2
 refine wpList_nil (And.intro (S.sel [0] G G) ?_)
 refine qF H<|qr 1 rfl<|qK ?_;clear H a;intro a H
 refine aL H G G G G G ?_;clear H a;intro a H
 refine aL H G G G G G ?_;clear H a;intro a H
 refine aL H G G G G G ?_;clear H a;intro a H
 refine aL H G G G G G ?_;clear H a;intro a H
 refine qF H<|qd rfl (fun _ S=>(aV G G G))<|qr 1 rfl<|qK ?_;clear H a;intro a H
 refine bV ?_
 refine k3 _ _ ?_
 clear k3 K3
 refine wp_ret ?_
 refine ret1 (fn:=Try.f65) rfl H rfl ?_
 refine ⟨congrArg Value.bool ?_,(S.sel [] G G)⟩
 unfold eU
 first|(rw [Bool.eq_iff_iff];simp only [Bool.and_eq_true,decide_eq_true_eq,true_and];omega)|(symm;simp only [decide_eq_false_iff_not];omega)
theorem qP (up:Bool) (empty pull drag motor:Int) (br:List Brake) (BA:Option Addr) (bcp:Nat) (w:World) (hb:InS w noF 2 BA br.length (bcell br)) (hbn:br.length≤9223372036854775807) :
    Calls Try.prog 52 [.agg [.bool up,.int .i64 empty,.int .i64 pull,.int .i64 drag,.int .i64 motor,.slice BA br.length bcp].toArray].toArray w (Ret (fun v w'=>v = .int .i64 (if escOk (⟨up,empty,pull,drag,motor,br⟩:Esc)=true then 0 else 10)∧St w noF [] w')):=by
 refine enter Try.func52 rfl Try.ntmps52 rfl (fun a H=>?_)
 have S:=St.start w
 refine aB fun K1 k1=>?_
 refine aS H rfl S G G ?_;clear H a S;intro b1 _ a hb1 hbw1 S H
 refine ls 1 H<|sr 1 rfl<|sE ?_;clear H a;intro a H
 refine k1 _ _ ?_;clear k1 K1
 refine sS H fun K2 k2=>sr 1 rfl<|sE ?_;clear H a;intro a H
 refine k2 _ ?_;clear k2 K2
 refine wp_seq_k fun K3 k3=>?_
 rcases (show (empty<1∨(1≤empty∧100000<empty)∨(1≤empty∧empty≤100000∧(pull<0∨100<pull)))∨((1≤empty∧empty≤100000∧0≤pull∧pull≤100)∧((drag<0∨10000000<drag)∨((0≤drag∧drag≤10000000)∧(motor<0∨10000000<motor))∨((0≤drag∧drag≤10000000∧0≤motor∧motor≤10000000)∧3<(br.length:Int))∨((0≤drag∧drag≤10000000∧0≤motor∧motor≤10000000)∧(br.length:Int)≤3))) by omega) with (hs|hs|hs)|⟨hs0,hs|hs|hs|hs⟩
 ·skip
  skip
  replace H:=H.keep [1,3] rfl
  replace S:=S.drew
  refine cD [(0,true),(1,true),(2,true),(3,true),(4,true),(5,true),(6,true),(7,true),(8,true),(9,true),(10,true),(11,true),(12,true),(13,true),(14,true),(15,true),(16,true),(17,true),(18,true),(19,true),(20,true),(21,true),(22,true),(23,true),(24,true),(25,true),(26,true),(27,true),(28,true),(29,true),(30,true),(31,true),(32,true),(33,true),(34,true)] (by kernel_rfl) (by kernel_rfl) (S.sel [0] G G) fun K4 k4=>?_
  refine qF H<|qd rfl (fun _ S=>(aE dK rfl))<|qd rfl (fun _ S=>aG aF rfl (boxM.rd S (i:=0) G G))<|qd rfl (fun _ S=>Does.to (cG G G) (congrArg Value.bool (decide_eq_true (by omega))))<|qr 1 rfl<|qK ?_;clear H a;intro a H
  refine aL H G G G G G ?_;clear H a;intro a H
  refine aL H G G G G G ?_;clear H a;intro a H
  refine aL H G G G G G ?_;clear H a;intro a H
  refine qF H<|qd rfl (fun _ S=>(aV G G G))<|qr 1 rfl<|qK ?_;clear H a;intro a H
  refine aL H G G G G G ?_;clear H a;intro a H
  refine aL H G G G G G ?_;clear H a;intro a H
  refine aL H G G G G G ?_;clear H a;intro a H
  refine aL H G G G G G ?_;clear H a;intro a H
  refine aL H G G G G G ?_;clear H a;intro a H
  refine qF H<|qd rfl (fun _ S=>(aV G G G))<|qr 1 rfl<|qK ?_;clear H a;intro a H
  refine aL H G G G G G ?_;clear H a;intro a H
  refine aL H G G G G G ?_;clear H a;intro a H
  refine aL H G G G G G ?_;clear H a;intro a H
  refine aL H G G G G G ?_;clear H a;intro a H
  refine aL H G G G G G ?_;clear H a;intro a H
  refine qF H<|qd rfl (fun _ S=>(aV G G G))<|qr 1 rfl<|qK ?_;clear H a;intro a H
  refine aL H G G G G G ?_;clear H a;intro a H
  refine aL H G G G G G ?_;clear H a;intro a H
  refine aL H G G G G G ?_;clear H a;intro a H
  refine aL H G G G G G ?_;clear H a;intro a H
  refine aL H G G G G G ?_;clear H a;intro a H
  refine qF H<|qd rfl (fun _ S=>(aV G G G))<|qr 1 rfl<|qK ?_;clear H a;intro a H
  refine aL H G G G G G ?_;clear H a;intro a H
  refine aL H G G G G G ?_;clear H a;intro a H
  refine aL H G G G G G ?_;clear H a;intro a H
  refine aL H G G G G G ?_;clear H a;intro a H
  refine qF H<|qd rfl (fun _ S=>(aV G G G))<|qK ?_;clear H a;intro a H
  refine bV ?_
  refine k4 _ _ ?_
  clear k4 K4
  refine aQ H rfl (fun hc1=>?_) (fun hc1=>?_)
  ·skip
   skip
   replace H:=H.keep [] rfl
   refine sS H fun K5 k5=>sr 1 rfl<|sE ?_;clear H a;intro a H
   refine k5 _ ?_;clear k5 K5
   refine wp_ret ?_
   refine ret1 (fn:=Try.f52) rfl H rfl ?_
   refine ⟨?_,(S.sel [] rfl rfl)⟩;rw [if_neg (by unfold escOk;simp only [Bool.and_eq_true,decide_eq_true_eq];rintro ⟨h1,_⟩;omega)]
  skip
  exact absurd hc1 (by decide)
 ·skip
  skip
  replace H:=H.keep [1,3] rfl
  replace S:=S.drew
  refine cD [(0,true),(1,true),(2,true),(3,true),(4,true),(5,true),(6,true),(7,true),(8,true),(9,true),(10,true),(11,true),(12,true),(13,true),(14,true),(15,true),(16,true),(17,true),(18,true),(19,true),(20,true),(21,true),(22,true),(23,true),(24,true),(25,true),(26,true),(27,true),(28,true),(29,true),(30,true),(31,true),(32,true),(33,true),(34,true)] (by kernel_rfl) (by kernel_rfl) (S.sel [0] G G) fun K6 k6=>?_
  refine qF H<|qd rfl (fun _ S=>(aE dK rfl))<|qd rfl (fun _ S=>aG aF rfl (boxM.rd S (i:=0) G G))<|qd rfl (fun _ S=>Does.to (cG G G) (congrArg Value.bool (decide_eq_false (by omega))))<|qr 1 rfl<|qK ?_;clear H a;intro a H
  refine aI H G G G G (fun _ S=>(aE dK rfl)) ?_;clear H a;intro a H
  refine aI H G G G G (fun _ S=>aG aF rfl (boxM.rd S (i:=0) G G)) ?_;clear H a;intro a H
  refine aI H G G G G (fun _ S=>Does.to (bU G G) (congrArg Value.bool (decide_eq_true (by omega)))) ?_;clear H a;intro a H
  refine qF H<|qd rfl (fun _ S=>(bB G G G))<|qr 1 rfl<|qK ?_;clear H a;intro a H
  refine aL H G G G G G ?_;clear H a;intro a H
  refine aL H G G G G G ?_;clear H a;intro a H
  refine aL H G G G G G ?_;clear H a;intro a H
  refine aL H G G G G G ?_;clear H a;intro a H
  refine aL H G G G G G ?_;clear H a;intro a H
  refine qF H<|qd rfl (fun _ S=>(aV G G G))<|qr 1 rfl<|qK ?_;clear H a;intro a H
  refine aL H G G G G G ?_;clear H a;intro a H
  refine aL H G G G G G ?_;clear H a;intro a H
  refine aL H G G G G G ?_;clear H a;intro a H
  refine aL H G G G G G ?_;clear H a;intro a H
  refine aL H G G G G G ?_;clear H a;intro a H
  refine qF H<|qd rfl (fun _ S=>(aV G G G))<|qr 1 rfl<|qK ?_;clear H a;intro a H
  refine aL H G G G G G ?_;clear H a;intro a H
  refine aL H G G G G G ?_;clear H a;intro a H
  refine aL H G G G G G ?_;clear H a;intro a H
  refine aL H G G G G G ?_;clear H a;intro a H
  refine aL H G G G G G ?_;clear H a;intro a H
  refine qF H<|qd rfl (fun _ S=>(aV G G G))<|qr 1 rfl<|qK ?_;clear H a;intro a H
  refine aL H G G G G G ?_;clear H a;intro a H
  refine aL H G G G G G ?_;clear H a;intro a H
  refine aL H G G G G G ?_;clear H a;intro a H
  refine aL H G G G G G ?_;clear H a;intro a H
  refine qF H<|qd rfl (fun _ S=>(aV G G G))<|qK ?_;clear H a;intro a H
  refine bV ?_
  refine k6 _ _ ?_
  clear k6 K6
  refine aQ H rfl (fun hc2=>?_) (fun hc2=>?_)
  ·skip
   skip
   replace H:=H.keep [] rfl
   refine sS H fun K7 k7=>sr 1 rfl<|sE ?_;clear H a;intro a H
   refine k7 _ ?_;clear k7 K7
   refine wp_ret ?_
   refine ret1 (fn:=Try.f52) rfl H rfl ?_
   refine ⟨?_,(S.sel [] rfl rfl)⟩;rw [if_neg (by unfold escOk;simp only [Bool.and_eq_true,decide_eq_true_eq];rintro ⟨h1,_⟩;omega)]
  skip
  exact absurd hc2 (by decide)
 ·skip
  skip
  replace H:=H.keep [1,3] rfl
  replace S:=S.drew
  refine cD [(0,true),(1,true),(2,true),(3,true),(4,true),(5,true),(6,true),(7,true),(8,true),(9,true),(10,true),(11,false),(12,false),(13,true),(14,true),(15,true),(16,true),(17,true),(18,true),(19,true),(20,true),(21,true),(22,true),(23,true),(24,true),(25,true),(26,true),(27,true),(28,true),(29,true),(30,true),(31,true),(32,true),(33,true),(34,true)] (by kernel_rfl) (by kernel_rfl) (S.sel [0] G G) fun K8 k8=>?_
  refine qF H<|qd rfl (fun _ S=>(aE dK rfl))<|qd rfl (fun _ S=>aG aF rfl (boxM.rd S (i:=0) G G))<|qd rfl (fun _ S=>Does.to (cG G G) (congrArg Value.bool (decide_eq_false (by omega))))<|qr 1 rfl<|qK ?_;clear H a;intro a H
  refine aI H G G G G (fun _ S=>(aE dK rfl)) ?_;clear H a;intro a H
  refine aI H G G G G (fun _ S=>aG aF rfl (boxM.rd S (i:=0) G G)) ?_;clear H a;intro a H
  refine aI H G G G G (fun _ S=>Does.to (bU G G) (congrArg Value.bool (decide_eq_false (by omega)))) ?_;clear H a;intro a H
  refine qF H<|qd rfl (fun _ S=>(bB G G G))<|qr 1 rfl<|qK ?_;clear H a;intro a H
  refine aI H G G G G (fun _ S=>(aE jV rfl)) ?_;clear H a;intro a H
  refine aI H G G G G (fun _ S=>aG aF rfl (boxM.rd S (i:=0) G G)) ?_;clear H a;intro a H
  refine aU rfl ?_
  refine bC H G G ?_
  refine aA H G G Try.func54 G G (cQ _ _) ?_;clear H a
  rintro _ _ a ⟨rfl,S2⟩ H
  replace S:=S.call S2;clear S2
  refine wpList_nil (And.intro (S.sel [0] G G) ?_)
  refine aU rfl ?_
  refine bC H G G ?_
  refine aA H G G Try.func53 G G (iI (by omega)) ?_;clear H a
  rintro _ _ a ⟨rfl,S2⟩ H
  replace S:=S.call S2;clear S2
  refine wpList_nil (And.intro (S.sel [0] G G) ?_)
  refine aI H G G G G (fun _ S=>cL rfl) ?_;clear H a;intro a H
  refine qF H<|qd rfl (fun _ S=>(bB G G G))<|qr 1 rfl<|qK ?_;clear H a;intro a H
  refine aL H G G G G G ?_;clear H a;intro a H
  refine aL H G G G G G ?_;clear H a;intro a H
  refine aL H G G G G G ?_;clear H a;intro a H
  refine aL H G G G G G ?_;clear H a;intro a H
  refine aL H G G G G G ?_;clear H a;intro a H
  refine qF H<|qd rfl (fun _ S=>(aV G G G))<|qr 1 rfl<|qK ?_;clear H a;intro a H
  refine aL H G G G G G ?_;clear H a;intro a H
  refine aL H G G G G G ?_;clear H a;intro a H
  refine aL H G G G G G ?_;clear H a;intro a H
  refine aL H G G G G G ?_;clear H a;intro a H
  refine aL H G G G G G ?_;clear H a;intro a H
  refine qF H<|qd rfl (fun _ S=>(aV G G G))<|qr 1 rfl<|qK ?_;clear H a;intro a H
  refine aL H G G G G G ?_;clear H a;intro a H
  refine aL H G G G G G ?_;clear H a;intro a H
  refine aL H G G G G G ?_;clear H a;intro a H
  refine aL H G G G G G ?_;clear H a;intro a H
  refine qF H<|qd rfl (fun _ S=>(aV G G G))<|qK ?_;clear H a;intro a H
  refine bV ?_
  refine k8 _ _ ?_
  clear k8 K8
  refine aQ H rfl (fun hc3=>?_) (fun hc3=>?_)
  ·skip
   skip
   replace H:=H.keep [] rfl
   refine sS H fun K9 k9=>sr 1 rfl<|sE ?_;clear H a;intro a H
   refine k9 _ ?_;clear k9 K9
   refine wp_ret ?_
   refine ret1 (fn:=Try.f52) rfl H rfl ?_
   refine ⟨?_,(S.sel [] rfl rfl)⟩;rw [if_neg (by unfold escOk;simp only [Bool.and_eq_true,decide_eq_true_eq];rintro ⟨h1,_⟩;omega)]
  skip
  exact absurd hc3 (by decide)
 ·skip
  skip
  replace H:=H.keep [1,3] rfl
  replace S:=S.drew
  refine cD [(0,true),(1,true),(2,true),(3,true),(4,true),(5,true),(6,true),(7,true),(8,true),(9,true),(10,true),(11,false),(12,false),(13,true),(14,true),(15,true),(16,true),(17,true),(18,false),(19,false),(20,true),(21,true),(22,true),(23,true),(24,true),(25,true),(26,true),(27,true),(28,true),(29,true),(30,true),(31,true),(32,true),(33,true),(34,true)] (by kernel_rfl) (by kernel_rfl) (S.sel [0] G G) fun K10 k10=>?_
  refine qF H<|qd rfl (fun _ S=>(aE dK rfl))<|qd rfl (fun _ S=>aG aF rfl (boxM.rd S (i:=0) G G))<|qd rfl (fun _ S=>Does.to (cG G G) (congrArg Value.bool (decide_eq_false (by omega))))<|qr 1 rfl<|qK ?_;clear H a;intro a H
  refine aI H G G G G (fun _ S=>(aE dK rfl)) ?_;clear H a;intro a H
  refine aI H G G G G (fun _ S=>aG aF rfl (boxM.rd S (i:=0) G G)) ?_;clear H a;intro a H
  refine aI H G G G G (fun _ S=>Does.to (bU G G) (congrArg Value.bool (decide_eq_false (by omega)))) ?_;clear H a;intro a H
  refine qF H<|qd rfl (fun _ S=>(bB G G G))<|qr 1 rfl<|qK ?_;clear H a;intro a H
  refine aI H G G G G (fun _ S=>(aE jV rfl)) ?_;clear H a;intro a H
  refine aI H G G G G (fun _ S=>aG aF rfl (boxM.rd S (i:=0) G G)) ?_;clear H a;intro a H
  refine aU rfl ?_
  refine bC H G G ?_
  refine aA H G G Try.func54 G G (cQ _ _) ?_;clear H a
  rintro _ _ a ⟨rfl,S2⟩ H
  replace S:=S.call S2;clear S2
  refine wpList_nil (And.intro (S.sel [0] G G) ?_)
  refine aU rfl ?_
  refine bC H G G ?_
  refine aA H G G Try.func53 G G (bR (by omega)) ?_;clear H a
  rintro _ _ a ⟨rfl,S2⟩ H
  replace S:=S.call S2;clear S2
  refine wpList_nil (And.intro (S.sel [0] G G) ?_)
  refine aI H G G G G (fun _ S=>cL rfl) ?_;clear H a;intro a H
  refine qF H<|qd rfl (fun _ S=>(bB G G G))<|qr 1 rfl<|qK ?_;clear H a;intro a H
  refine aI H G G G G (fun _ S=>(aE lI rfl)) ?_;clear H a;intro a H
  refine aI H G G G G (fun _ S=>aG aF rfl (boxM.rd S (i:=0) G G)) ?_;clear H a;intro a H
  refine aU rfl ?_
  refine bC H G G ?_
  refine aA H G G Try.func54 G G (cQ _ _) ?_;clear H a
  rintro _ _ a ⟨rfl,S2⟩ H
  replace S:=S.call S2;clear S2
  refine wpList_nil (And.intro (S.sel [0] G G) ?_)
  refine aU rfl ?_
  refine bC H G G ?_
  refine aA H G G Try.func53 G G (iI (by omega)) ?_;clear H a
  rintro _ _ a ⟨rfl,S2⟩ H
  replace S:=S.call S2;clear S2
  refine wpList_nil (And.intro (S.sel [0] G G) ?_)
  refine aI H G G G G (fun _ S=>cL rfl) ?_;clear H a;intro a H
  refine qF H<|qd rfl (fun _ S=>(bB G G G))<|qr 1 rfl<|qK ?_;clear H a;intro a H
  refine aL H G G G G G ?_;clear H a;intro a H
  refine aL H G G G G G ?_;clear H a;intro a H
  refine aL H G G G G G ?_;clear H a;intro a H
  refine aL H G G G G G ?_;clear H a;intro a H
  refine aL H G G G G G ?_;clear H a;intro a H
  refine qF H<|qd rfl (fun _ S=>(aV G G G))<|qr 1 rfl<|qK ?_;clear H a;intro a H
  refine aL H G G G G G ?_;clear H a;intro a H
  refine aL H G G G G G ?_;clear H a;intro a H
  refine aL H G G G G G ?_;clear H a;intro a H
  refine aL H G G G G G ?_;clear H a;intro a H
  refine qF H<|qd rfl (fun _ S=>(aV G G G))<|qK ?_;clear H a;intro a H
  refine bV ?_
  refine k10 _ _ ?_
  clear k10 K10
  refine aQ H rfl (fun hc4=>?_) (fun hc4=>?_)
  ·skip
   skip
   replace H:=H.keep [] rfl
   refine sS H fun K11 k11=>sr 1 rfl<|sE ?_;clear H a;intro a H
   refine k11 _ ?_;clear k11 K11
   refine wp_ret ?_
   refine ret1 (fn:=Try.f52) rfl H rfl ?_
   refine ⟨?_,(S.sel [] rfl rfl)⟩;rw [if_neg (by unfold escOk;simp only [Bool.and_eq_true,decide_eq_true_eq];rintro ⟨h1,_⟩;omega)]
  skip
  exact absurd hc4 (by decide)
 ·skip
  skip
  replace H:=H.keep [1,3] rfl
  replace S:=S.drew
  refine cD [(0,true),(1,true),(2,true),(3,true),(4,true),(5,true),(6,true),(7,true),(8,true),(9,true),(10,true),(11,false),(12,false),(13,true),(14,true),(15,true),(16,true),(17,true),(18,false),(19,false),(20,true),(21,true),(22,true),(23,true),(24,true),(25,false),(26,false),(27,true),(28,true),(29,true),(30,true),(31,true),(32,true),(33,true),(34,true)] (by kernel_rfl) (by kernel_rfl) (S.sel [0] G G) fun K12 k12=>?_
  refine qF H<|qd rfl (fun _ S=>(aE dK rfl))<|qd rfl (fun _ S=>aG aF rfl (boxM.rd S (i:=0) G G))<|qd rfl (fun _ S=>Does.to (cG G G) (congrArg Value.bool (decide_eq_false (by omega))))<|qr 1 rfl<|qK ?_;clear H a;intro a H
  refine aI H G G G G (fun _ S=>(aE dK rfl)) ?_;clear H a;intro a H
  refine aI H G G G G (fun _ S=>aG aF rfl (boxM.rd S (i:=0) G G)) ?_;clear H a;intro a H
  refine aI H G G G G (fun _ S=>Does.to (bU G G) (congrArg Value.bool (decide_eq_false (by omega)))) ?_;clear H a;intro a H
  refine qF H<|qd rfl (fun _ S=>(bB G G G))<|qr 1 rfl<|qK ?_;clear H a;intro a H
  refine aI H G G G G (fun _ S=>(aE jV rfl)) ?_;clear H a;intro a H
  refine aI H G G G G (fun _ S=>aG aF rfl (boxM.rd S (i:=0) G G)) ?_;clear H a;intro a H
  refine aU rfl ?_
  refine bC H G G ?_
  refine aA H G G Try.func54 G G (cQ _ _) ?_;clear H a
  rintro _ _ a ⟨rfl,S2⟩ H
  replace S:=S.call S2;clear S2
  refine wpList_nil (And.intro (S.sel [0] G G) ?_)
  refine aU rfl ?_
  refine bC H G G ?_
  refine aA H G G Try.func53 G G (bR (by omega)) ?_;clear H a
  rintro _ _ a ⟨rfl,S2⟩ H
  replace S:=S.call S2;clear S2
  refine wpList_nil (And.intro (S.sel [0] G G) ?_)
  refine aI H G G G G (fun _ S=>cL rfl) ?_;clear H a;intro a H
  refine qF H<|qd rfl (fun _ S=>(bB G G G))<|qr 1 rfl<|qK ?_;clear H a;intro a H
  refine aI H G G G G (fun _ S=>(aE lI rfl)) ?_;clear H a;intro a H
  refine aI H G G G G (fun _ S=>aG aF rfl (boxM.rd S (i:=0) G G)) ?_;clear H a;intro a H
  refine aU rfl ?_
  refine bC H G G ?_
  refine aA H G G Try.func54 G G (cQ _ _) ?_;clear H a
  rintro _ _ a ⟨rfl,S2⟩ H
  replace S:=S.call S2;clear S2
  refine wpList_nil (And.intro (S.sel [0] G G) ?_)
  refine aU rfl ?_
  refine bC H G G ?_
  refine aA H G G Try.func53 G G (bR (by omega)) ?_;clear H a
  rintro _ _ a ⟨rfl,S2⟩ H
  replace S:=S.call S2;clear S2
  refine wpList_nil (And.intro (S.sel [0] G G) ?_)
  refine aI H G G G G (fun _ S=>cL rfl) ?_;clear H a;intro a H
  refine qF H<|qd rfl (fun _ S=>(bB G G G))<|qr 1 rfl<|qK ?_;clear H a;intro a H
  refine aI H G G G G (fun _ S=>(aE rH rfl)) ?_;clear H a;intro a H
  refine aI H G G G G (fun _ S=>aG aF rfl (boxM.rd S (i:=0) G G)) ?_;clear H a;intro a H
  refine aU rfl ?_
  refine bC H G G ?_
  refine aA H G G Try.func54 G G (cQ _ _) ?_;clear H a
  rintro _ _ a ⟨rfl,S2⟩ H
  replace S:=S.call S2;clear S2
  refine wpList_nil (And.intro (S.sel [0] G G) ?_)
  refine aU rfl ?_
  refine bC H G G ?_
  refine aA H G G Try.func53 G G (iI (by omega)) ?_;clear H a
  rintro _ _ a ⟨rfl,S2⟩ H
  replace S:=S.call S2;clear S2
  refine wpList_nil (And.intro (S.sel [0] G G) ?_)
  refine aI H G G G G (fun _ S=>cL rfl) ?_;clear H a;intro a H
  refine qF H<|qd rfl (fun _ S=>(bB G G G))<|qr 1 rfl<|qK ?_;clear H a;intro a H
  refine aL H G G G G G ?_;clear H a;intro a H
  refine aL H G G G G G ?_;clear H a;intro a H
  refine aL H G G G G G ?_;clear H a;intro a H
  refine aL H G G G G G ?_;clear H a;intro a H
  refine qF H<|qd rfl (fun _ S=>(aV G G G))<|qK ?_;clear H a;intro a H
  refine bV ?_
  refine k12 _ _ ?_
  clear k12 K12
  refine aQ H rfl (fun hc5=>?_) (fun hc5=>?_)
  ·skip
   skip
   replace H:=H.keep [] rfl
   refine sS H fun K13 k13=>sr 1 rfl<|sE ?_;clear H a;intro a H
   refine k13 _ ?_;clear k13 K13
   refine wp_ret ?_
   refine ret1 (fn:=Try.f52) rfl H rfl ?_
   refine ⟨?_,(S.sel [] rfl rfl)⟩;rw [if_neg (by unfold escOk;simp only [Bool.and_eq_true,decide_eq_true_eq];rintro ⟨h1,_⟩;omega)]
  skip
  exact absurd hc5 (by decide)
 ·skip
  skip
  replace H:=H.keep [1,3] rfl
  replace S:=S.drew
  refine cD [(0,true),(1,true),(2,true),(3,true),(4,true),(5,true),(6,true),(7,true),(8,true),(9,true),(10,true),(11,false),(12,false),(13,true),(14,true),(15,true),(16,true),(17,true),(18,false),(19,false),(20,true),(21,true),(22,true),(23,true),(24,true),(25,false),(26,false),(27,true),(28,true),(29,true),(30,true),(31,true),(32,true),(33,true),(34,true)] (by kernel_rfl) (by kernel_rfl) (S.sel [0] G G) fun K14 k14=>?_
  refine qF H<|qd rfl (fun _ S=>(aE dK rfl))<|qd rfl (fun _ S=>aG aF rfl (boxM.rd S (i:=0) G G))<|qd rfl (fun _ S=>Does.to (cG G G) (congrArg Value.bool (decide_eq_false (by omega))))<|qr 1 rfl<|qK ?_;clear H a;intro a H
  refine aI H G G G G (fun _ S=>(aE dK rfl)) ?_;clear H a;intro a H
  refine aI H G G G G (fun _ S=>aG aF rfl (boxM.rd S (i:=0) G G)) ?_;clear H a;intro a H
  refine aI H G G G G (fun _ S=>Does.to (bU G G) (congrArg Value.bool (decide_eq_false (by omega)))) ?_;clear H a;intro a H
  refine qF H<|qd rfl (fun _ S=>(bB G G G))<|qr 1 rfl<|qK ?_;clear H a;intro a H
  refine aI H G G G G (fun _ S=>(aE jV rfl)) ?_;clear H a;intro a H
  refine aI H G G G G (fun _ S=>aG aF rfl (boxM.rd S (i:=0) G G)) ?_;clear H a;intro a H
  refine aU rfl ?_
  refine bC H G G ?_
  refine aA H G G Try.func54 G G (cQ _ _) ?_;clear H a
  rintro _ _ a ⟨rfl,S2⟩ H
  replace S:=S.call S2;clear S2
  refine wpList_nil (And.intro (S.sel [0] G G) ?_)
  refine aU rfl ?_
  refine bC H G G ?_
  refine aA H G G Try.func53 G G (bR (by omega)) ?_;clear H a
  rintro _ _ a ⟨rfl,S2⟩ H
  replace S:=S.call S2;clear S2
  refine wpList_nil (And.intro (S.sel [0] G G) ?_)
  refine aI H G G G G (fun _ S=>cL rfl) ?_;clear H a;intro a H
  refine qF H<|qd rfl (fun _ S=>(bB G G G))<|qr 1 rfl<|qK ?_;clear H a;intro a H
  refine aI H G G G G (fun _ S=>(aE lI rfl)) ?_;clear H a;intro a H
  refine aI H G G G G (fun _ S=>aG aF rfl (boxM.rd S (i:=0) G G)) ?_;clear H a;intro a H
  refine aU rfl ?_
  refine bC H G G ?_
  refine aA H G G Try.func54 G G (cQ _ _) ?_;clear H a
  rintro _ _ a ⟨rfl,S2⟩ H
  replace S:=S.call S2;clear S2
  refine wpList_nil (And.intro (S.sel [0] G G) ?_)
  refine aU rfl ?_
  refine bC H G G ?_
  refine aA H G G Try.func53 G G (bR (by omega)) ?_;clear H a
  rintro _ _ a ⟨rfl,S2⟩ H
  replace S:=S.call S2;clear S2
  refine wpList_nil (And.intro (S.sel [0] G G) ?_)
  refine aI H G G G G (fun _ S=>cL rfl) ?_;clear H a;intro a H
  refine qF H<|qd rfl (fun _ S=>(bB G G G))<|qr 1 rfl<|qK ?_;clear H a;intro a H
  refine aI H G G G G (fun _ S=>(aE rH rfl)) ?_;clear H a;intro a H
  refine aI H G G G G (fun _ S=>aG aF rfl (boxM.rd S (i:=0) G G)) ?_;clear H a;intro a H
  refine aU rfl ?_
  refine bC H G G ?_
  refine aA H G G Try.func54 G G (cQ _ _) ?_;clear H a
  rintro _ _ a ⟨rfl,S2⟩ H
  replace S:=S.call S2;clear S2
  refine wpList_nil (And.intro (S.sel [0] G G) ?_)
  refine aU rfl ?_
  refine bC H G G ?_
  refine aA H G G Try.func53 G G (bR (by omega)) ?_;clear H a
  rintro _ _ a ⟨rfl,S2⟩ H
  replace S:=S.call S2;clear S2
  refine wpList_nil (And.intro (S.sel [0] G G) ?_)
  refine aI H G G G G (fun _ S=>cL rfl) ?_;clear H a;intro a H
  refine qF H<|qd rfl (fun _ S=>(bB G G G))<|qr 1 rfl<|qK ?_;clear H a;intro a H
  refine aI H G G G G (fun _ S=>(aE jW rfl)) ?_;clear H a;intro a H
  refine aI H G G G G (fun _ S=>aG mE rfl (boxM.rd S (i:=0) G G)) ?_;clear H a;intro a H
  refine aI H G G G G (fun _ S=>dD lE rfl) ?_;clear H a;intro a H
  refine aI H G G G G (fun _ S=>Does.to (bU G G) (congrArg Value.bool (decide_eq_true (by omega)))) ?_;clear H a;intro a H
  refine qF H<|qd rfl (fun _ S=>(bB G G G))<|qK ?_;clear H a;intro a H
  refine bV ?_
  refine k14 _ _ ?_
  clear k14 K14
  refine aQ H rfl (fun hc6=>?_) (fun hc6=>?_)
  ·skip
   skip
   replace H:=H.keep [] rfl
   refine sS H fun K15 k15=>sr 1 rfl<|sE ?_;clear H a;intro a H
   refine k15 _ ?_;clear k15 K15
   refine wp_ret ?_
   refine ret1 (fn:=Try.f52) rfl H rfl ?_
   refine ⟨?_,(S.sel [] rfl rfl)⟩;rw [if_neg (by unfold escOk;simp only [Bool.and_eq_true,decide_eq_true_eq];rintro ⟨h1,_⟩;omega)]
  skip
  exact absurd hc6 (by decide)
 skip
 replace H:=H.keep [1,3] rfl
 replace S:=S.drew
 refine cD [(0,true),(1,true),(2,true),(3,true),(4,true),(5,true),(6,true),(7,true),(8,true),(9,true),(10,true),(11,false),(12,false),(13,true),(14,true),(15,true),(16,true),(17,true),(18,false),(19,false),(20,true),(21,true),(22,true),(23,true),(24,true),(25,false),(26,false),(27,true),(28,true),(29,true),(30,true),(31,true),(32,true),(33,true),(34,true)] (by kernel_rfl) (by kernel_rfl) (S.sel [0] G G) fun K16 k16=>?_
 refine qF H<|qd rfl (fun _ S=>(aE dK rfl))<|qd rfl (fun _ S=>aG aF rfl (boxM.rd S (i:=0) G G))<|qd rfl (fun _ S=>Does.to (cG G G) (congrArg Value.bool (decide_eq_false (by omega))))<|qr 1 rfl<|qK ?_;clear H a;intro a H
 refine aI H G G G G (fun _ S=>(aE dK rfl)) ?_;clear H a;intro a H
 refine aI H G G G G (fun _ S=>aG aF rfl (boxM.rd S (i:=0) G G)) ?_;clear H a;intro a H
 refine aI H G G G G (fun _ S=>Does.to (bU G G) (congrArg Value.bool (decide_eq_false (by omega)))) ?_;clear H a;intro a H
 refine qF H<|qd rfl (fun _ S=>(bB G G G))<|qr 1 rfl<|qK ?_;clear H a;intro a H
 refine aI H G G G G (fun _ S=>(aE jV rfl)) ?_;clear H a;intro a H
 refine aI H G G G G (fun _ S=>aG aF rfl (boxM.rd S (i:=0) G G)) ?_;clear H a;intro a H
 refine aU rfl ?_
 refine bC H G G ?_
 refine aA H G G Try.func54 G G (cQ _ _) ?_;clear H a
 rintro _ _ a ⟨rfl,S2⟩ H
 replace S:=S.call S2;clear S2
 refine wpList_nil (And.intro (S.sel [0] G G) ?_)
 refine aU rfl ?_
 refine bC H G G ?_
 refine aA H G G Try.func53 G G (bR (by omega)) ?_;clear H a
 rintro _ _ a ⟨rfl,S2⟩ H
 replace S:=S.call S2;clear S2
 refine wpList_nil (And.intro (S.sel [0] G G) ?_)
 refine aI H G G G G (fun _ S=>cL rfl) ?_;clear H a;intro a H
 refine qF H<|qd rfl (fun _ S=>(bB G G G))<|qr 1 rfl<|qK ?_;clear H a;intro a H
 refine aI H G G G G (fun _ S=>(aE lI rfl)) ?_;clear H a;intro a H
 refine aI H G G G G (fun _ S=>aG aF rfl (boxM.rd S (i:=0) G G)) ?_;clear H a;intro a H
 refine aU rfl ?_
 refine bC H G G ?_
 refine aA H G G Try.func54 G G (cQ _ _) ?_;clear H a
 rintro _ _ a ⟨rfl,S2⟩ H
 replace S:=S.call S2;clear S2
 refine wpList_nil (And.intro (S.sel [0] G G) ?_)
 refine aU rfl ?_
 refine bC H G G ?_
 refine aA H G G Try.func53 G G (bR (by omega)) ?_;clear H a
 rintro _ _ a ⟨rfl,S2⟩ H
 replace S:=S.call S2;clear S2
 refine wpList_nil (And.intro (S.sel [0] G G) ?_)
 refine aI H G G G G (fun _ S=>cL rfl) ?_;clear H a;intro a H
 refine qF H<|qd rfl (fun _ S=>(bB G G G))<|qr 1 rfl<|qK ?_;clear H a;intro a H
 refine aI H G G G G (fun _ S=>(aE rH rfl)) ?_;clear H a;intro a H
 refine aI H G G G G (fun _ S=>aG aF rfl (boxM.rd S (i:=0) G G)) ?_;clear H a;intro a H
 refine aU rfl ?_
 refine bC H G G ?_
 refine aA H G G Try.func54 G G (cQ _ _) ?_;clear H a
 rintro _ _ a ⟨rfl,S2⟩ H
 replace S:=S.call S2;clear S2
 refine wpList_nil (And.intro (S.sel [0] G G) ?_)
 refine aU rfl ?_
 refine bC H G G ?_
 refine aA H G G Try.func53 G G (bR (by omega)) ?_;clear H a
 rintro _ _ a ⟨rfl,S2⟩ H
 replace S:=S.call S2;clear S2
 refine wpList_nil (And.intro (S.sel [0] G G) ?_)
 refine aI H G G G G (fun _ S=>cL rfl) ?_;clear H a;intro a H
 refine qF H<|qd rfl (fun _ S=>(bB G G G))<|qr 1 rfl<|qK ?_;clear H a;intro a H
 refine aI H G G G G (fun _ S=>(aE jW rfl)) ?_;clear H a;intro a H
 refine aI H G G G G (fun _ S=>aG mE rfl (boxM.rd S (i:=0) G G)) ?_;clear H a;intro a H
 refine aI H G G G G (fun _ S=>dD lE rfl) ?_;clear H a;intro a H
 refine aI H G G G G (fun _ S=>Does.to (bU G G) (congrArg Value.bool (decide_eq_false (by omega)))) ?_;clear H a;intro a H
 refine qF H<|qd rfl (fun _ S=>(bB G G G))<|qK ?_;clear H a;intro a H
 refine bV ?_
 refine k16 _ _ ?_
 clear k16 K16
 refine aQ H rfl (fun hc7=>?_) (fun hc7=>?_)
 ·skip
  skip
  exact absurd hc7 (by decide)
 skip
 refine wp_skip ?_
 refine k3 _ _ ?_
 refine wp_seq_k fun K17 k17=>?_
 replace H:=H.keep [1,3] rfl
 refine sS H fun K18 k18=>sf jW rfl<|sl S 0 mE G G G<|sL lE rfl<|sr 1 rfl<|sE ?_;clear H a;intro a H
 refine k18 _ ?_;clear k18 K18
 refine wp_block ?_
 refine loop_st (X:=Nat) (R0:=_) [3,42,43] H rfl (fun k=>[(44,.int .i64 (k:Int))]) (fun k=>[]) (fun g k=>k≤br.length∧g+k=br.length∧(br.take k).all eU=true) (br.length) 0 ?_ (S.sel [0] G G) (H.keep [44,3,42,43] rfl) ?_
 · exact ⟨by omega,by omega,by simp⟩
 clear H S a
 intro g1 x1 a w1 hp S H K19 k19
 obtain ⟨k,rfl⟩:∃ y,y=x1:=⟨_,rfl⟩
 refine sS H fun K20 k20=>sr 1 rfl<|sE ?_;clear H a;intro a H
 refine k20 _ ?_;clear k20 K20
 refine wp_seq_k fun K21 k21=>?_
 refine condL H rfl (fun hc8=>?_) (fun hc8=>?_)
 ·skip
  refine wp_skip ?_
  refine k21 _ _ ?_
  refine wp_seq_k fun K22 k22=>?_
  refine wp_block ?_
  refine aB fun K23 k23=>?_
  refine ls 2 H<|si lE mW G G (hb.adr (by omega)) (by omega)<|sd ((bG vG mW rfl S hb (by omega) (by omega)))<|sE ?_;clear H a;intro a H
  refine aJ H rfl S wY ?_;clear H a S;intro b5 _ a hb5 hbw5 S H
  refine aD H S (i:=0) G G G G mW G G ?_
  clear H a S;intro _ a S H
  refine k23 _ _ ?_;clear k23 K23
  refine aB fun K24 k24=>?_
  refine ls 2 H<|sr 1 rfl<|sd ((aC vG mW rfl S (i:=0) G G))<|sE ?_;clear H a;intro a H
  refine gC H G G G Try.func65 G G (Ah (br.getD k Brake.zero) _) ?_;clear H a
  rintro _ _ a ⟨rfl,S2⟩ H
  replace S:=S.call S2;clear S2
  refine ls 1 H<|sr 1 rfl<|sE ?_;clear H a;intro a H
  refine k24 _ _ ?_;clear k24 K24
  refine aQ H rfl (fun hc9=>?_) (fun hc9=>?_)
  ·skip
   try simp only [o1,o2,o3,o4,o5,o6,o7,o8,o9,oa] at hc9
   replace H:=H.keep [] rfl
   refine sS H fun K25 k25=>sr 1 rfl<|sE ?_;clear H a;intro a H
   refine k25 _ ?_;clear k25 K25
   refine wp_ret ?_
   refine ret1 (fn:=Try.f52) rfl H rfl ?_
   refine ⟨?_,(S.sel [] G G)⟩;rw [if_neg (by unfold escOk;rw [Ag (l:=br) (k:=k) (d:=Brake.zero) (by omega) (by simpa using hc9)];simp)]
  try simp only [o1,o2,o3,o4,o5,o6,o7,o8,o9,oa] at hc9
  refine wp_skip ?_
  refine k22 _ _ ?_
  refine sO H<|sd (aH G G (by unfold i64ok;omega))<|sr 1 rfl<|sE ?_;clear H a;intro a H
  exact k19 (g1-1) (k+1) a _ (by omega) (⟨by omega,by omega,El (d:=Brake.zero) (by omega) hp.2.2 (by simpa using hc9)⟩) (S.sel [1] G G) (H.keep [44,3,42,43] rfl)
 refine wp_exit ?_
 refine k17 _ _ ?_
 refine sS H fun K27 k27=>sr 1 rfl<|sE ?_;clear H a;intro a H
 refine k27 _ ?_;clear k27 K27
 refine wp_ret ?_
 refine ret1 (fn:=Try.f52) rfl H rfl ?_
 refine ⟨?_,(S.sel [] G G)⟩;rw [List.take_of_length_le (by omega)] at hp;rw [if_pos (by unfold escOk;simp only [Bool.and_eq_true,decide_eq_true_eq];exact ⟨by omega,hp.2.2⟩)]
theorem Ai (a b:Int) (w:World) (hb:0<b) (ha:i64ok a) (ha2 : -9000000000000000000≤a∧a≤9000000000000000000) :
    Calls Try.prog 87 [.int .i64 a,.int .i64 b].toArray w (Ret (fun v w'=>v = .int .i64 (a/b)∧St w noF [] w')):=by
 have hfl:=Ar (m:=a) hb;have hdb:=pG (B:=9000000000000000000) hb ha2
 refine enter Try.func87 rfl Try.ntmps87 rfl (fun a H=>?_)
 have S:=St.start w
 refine sS H fun K1 k1=>sr 1 rfl<|sE ?_;clear H a;intro a H
 refine k1 _ ?_;clear k1 K1
 replace S:=S.drew
 refine sD H fun K2 k2=>sr 2 rfl<|sd (yG G G (by omega) (Ev ha hb))<|sr 2 rfl<|sd (yH G G (by omega))<|sr 2 rfl<|sE ?_;clear H a;intro a H
 refine k2 _ ?_;clear k2 K2
 refine wp_seq_k fun K3 k3=>?_
 replace H:=H.keep [5,6] rfl
 refine sS H fun K4 k4=>sr 2 rfl<|sE ?_;clear H a;intro a H
 refine k4 _ ?_;clear k4 K4
 refine condL H rfl (fun hc1=>?_) (fun hc1=>?_)
 ·skip
  refine sO H<|sr 1 rfl<|sd (bK G G (by unfold i64ok;omega))<|sr 1 rfl<|sE ?_;clear H a;intro a H
  refine k3 _ _ ?_
  refine sS H fun K6 k6=>sr 2 rfl<|sE ?_;clear H a;intro a H
  refine k6 _ ?_;clear k6 K6
  refine wp_ret ?_
  refine ret1 (fn:=Try.f87) rfl H rfl ?_
  first|rw [if_pos (by omega)] at hfl|rw [if_neg (by omega)] at hfl
  exact ⟨congrArg (Value.int .i64) (by omega),(S.sel [] G G)⟩
 refine wp_skip ?_
 refine k3 _ _ ?_
 refine sS H fun K7 k7=>sr 2 rfl<|sE ?_;clear H a;intro a H
 refine k7 _ ?_;clear k7 K7
 refine wp_ret ?_
 refine ret1 (fn:=Try.f87) rfl H rfl ?_
 first|rw [if_pos (by omega)] at hfl|rw [if_neg (by omega)] at hfl
 exact ⟨congrArg (Value.int .i64) (by omega),(S.sel [] G G)⟩
theorem kE (v g f m:Int) (w:World) (hm:0<m) (hg : -50000000≤g-f∧g-f≤50000000) (hv : -1000000000000≤v∧v≤1000000000000) :
    Calls Try.prog 85 [.int .i64 v,.int .i64 g,.int .i64 f,.int .i64 m].toArray w (Ret (fun u w'=>u = .int .i64 (kS v g f m)∧St w noF [] w')):=by
 have hdb:=pG (B:=50000000) hm hg
 refine enter Try.func85 rfl Try.ntmps85 rfl (fun a H=>?_)
 have S:=St.start w
 refine sS H fun K1 k1=>sr 1 rfl<|sE ?_;clear H a;intro a H
 refine k1 _ ?_;clear k1 K1
 replace H:=H.keep [0,1,2,3] rfl
 refine aB fun K2 k2=>?_
 refine ls 5 H<|sr 3 rfl<|sd (bK G G (by unfold i64ok;omega))<|sr 1 rfl<|sE ?_;clear H a;intro a H
 refine aA H G G Try.func87 G G (Ai _ _ _ hm (by unfold i64ok;omega) (by omega)) ?_;clear H a
 rintro _ _ a ⟨rfl,S2⟩ H
 replace S:=S.call S2;clear S2
 refine ls 3 H<|sd (aH G G (by unfold i64ok;omega))<|sd (sW G G)<|sr 1 rfl<|sE ?_;clear H a;intro a H
 refine k2 _ _ ?_;clear k2 K2
 refine wp_ret ?_
 refine ret1 (fn:=Try.f85) rfl H rfl ?_
 exact ⟨rfl,(S.sel [] G G)⟩
theorem iJ (up:Bool) (empty pull drag motor:Int) (br:List Brake) (BA:Option Addr) (bcp:Nat) (v x bf:Int) (w:World) (hesc:escOk (⟨up,empty,pull,drag,motor,br⟩:Esc)=true) (hx:0≤x∧x≤100000) (hbf:0≤bf∧bf≤30000000) (hv : -900000000000≤v∧v≤900000000000) :
    Calls Try.prog 80 [.agg [.bool up,.int .i64 empty,.int .i64 pull,.int .i64 drag,.int .i64 motor,.slice BA br.length bcp].toArray,.int .i64 v,.int .i64 x,.int .i64 bf].toArray w (Ret (fun u w'=>u = .int .i64 (tickI (⟨up,empty,pull,drag,motor,br⟩:Esc) v x bf)∧St w noF [] w')):=by
 have hE:=cK hesc
 dsimp only at hE
 obtain ⟨hE1,hE2,hE3,hE4,hE5⟩:=hE
 have hm1:0≤pull*x:=Int.mul_nonneg (by omega) (by omega)
 have hm2:pull*x≤100*100000:=Int.mul_le_mul (by omega) (by omega) (by omega) (by omega)
 have ab:∀ v' g':Int,(-900000000000≤v'∧v'≤900000000000)→(-10000000≤g'∧g'≤10000000)→0≤kS v' g' (drag+bf) (empty+x)∧kS v' g' (drag+bf) (empty+x)≤1000000000000:=fun v' g' h h'=>by have:=pG (x:=g'-(drag+bf)) (m:=empty+x) (B:=50000000) (by omega) (by omega);unfold kS;omega
 refine enter Try.func80 rfl Try.ntmps80 rfl (fun a H=>?_)
 have S:=St.start w
 refine aB fun K1 k1=>?_
 refine aS H rfl S G G ?_;clear H a S;intro b4 _ a hb4 hbw4 S H
 refine ls 1 H<|sr 1 rfl<|sE ?_;clear H a;intro a H
 refine k1 _ _ ?_;clear k1 K1
 replace H:=H.keep [1,2,3,4] rfl
 replace S:=S.drew
 refine sD H fun K2 k2=>sf jV rfl<|sl S 0 aF G G G<|sr 1 rfl<|sd (iV G G (by unfold i64ok;omega))<|sf lI rfl<|sl S 0 aF G G G<|sr 1 rfl<|sd (aH G G (by unfold i64ok;omega))<|sf dK rfl<|sl S 0 aF G G G<|sr 1 rfl<|sd (aH G G (by unfold i64ok;omega))<|sr 3 rfl<|sE ?_;clear H a;intro a H
 refine k2 _ ?_;clear k2 K2
 refine wp_seq_k fun K3 k3=>?_
 cases up
 ·skip
  replace H:=H.keep [1,4,9,10,11] rfl
  refine sS H fun K4 k4=>sf wV rfl<|sl S 0 lB G G G<|sE ?_;clear H a;intro a H
  refine k4 _ ?_;clear k4 K4
  refine aQ H rfl (fun hc1=>?_) (fun hc1=>?_)
  ·skip
   skip
   exact absurd hc1 (by decide)
  skip
  refine wp_skip ?_
  refine k3 _ _ ?_
  refine wp_seq_k fun K5 k5=>?_
  replace H:=H.keep [1,9,10,11] rfl
  refine sS H fun K6 k6=>sr 3 rfl<|sg 6 2 30 36 false G G (fun hg3=>sy hg3<|sr 1 rfl<|sy hg3<|sr 1 rfl<|sy hg3<|sr 1 rfl<|sg 2 5 33 35 true G G (fun hg6=>sy hg6<|sr 1 rfl<|sy hg6<|sr 1 rfl<|sz 2 G G G)<|sy hg3<|sa G G G<|sz 5 G G G)<|so G G G<|sE ?_;clear H a;intro a H
  refine k6 _ ?_;clear k6 K6
  refine aQ H rfl (fun hc2=>?_) (fun hc2=>?_)
  ·skip
   try simp only [o1,o2,o3,o4,o5,o6,o7,o8,o9,oa] at hc2
   have a1:=ab (-v) (-(pull*x)) (by omega) (by omega);have a2:=ab (-v) (- -(pull*x)) (by omega) (by omega)
   replace H:=H.keep [1,9,10,11] rfl
   refine aB fun K7 k7=>?_
   refine ls 6 H<|sr 1 rfl<|sd (gB rfl (by unfold i64ok;omega))<|sr 1 rfl<|sd (gB rfl (by unfold i64ok;omega))<|sr 2 rfl<|sE ?_;clear H a;intro a H
   refine aA H G G Try.func85 G G (kE _ _ _ _ _ (by omega) (by omega) (by omega)) ?_;clear H a
   rintro _ _ a ⟨rfl,S2⟩ H
   replace S:=S.call S2;clear S2
   refine ls 2 H<|sd (gB rfl (by unfold i64ok;omega))<|sr 1 rfl<|sE ?_;clear H a;intro a H
   refine k7 _ _ ?_;clear k7 K7
   refine wp_ret ?_
   refine ret1 (fn:=Try.f80) rfl H rfl ?_
   exact ⟨congrArg (Value.int .i64) (by unfold tickI;simp only [Bool.false_eq_true,if_true,if_false];first|rw [if_pos (by omega)]|rw [if_neg (by omega)]),(S.sel [] G G)⟩
  try simp only [o1,o2,o3,o4,o5,o6,o7,o8,o9,oa] at hc2
  refine wp_skip ?_
  refine k5 _ _ ?_
  replace H:=H.keep [1,9,10,11] rfl
  refine aB fun K8 k8=>?_
  refine ls 4 H<|sr 4 rfl<|sE ?_;clear H a;intro a H
  refine aA H G G Try.func85 G G (kE _ _ _ _ _ (by omega) (by omega) (by omega)) ?_;clear H a
  rintro _ _ a ⟨rfl,S2⟩ H
  replace S:=S.call S2;clear S2
  refine ls 1 H<|sr 1 rfl<|sE ?_;clear H a;intro a H
  refine k8 _ _ ?_;clear k8 K8
  refine wp_ret ?_
  refine ret1 (fn:=Try.f80) rfl H rfl ?_
  exact ⟨congrArg (Value.int .i64) (by unfold tickI;simp only [Bool.false_eq_true,if_true,if_false];first|rw [if_pos (by omega)]|rw [if_neg (by omega)]),(S.sel [] G G)⟩
 refine sS H fun K9 k9=>sf wV rfl<|sl S 0 lB G G G<|sE ?_;clear H a;intro a H
 refine k9 _ ?_;clear k9 K9
 refine aQ H rfl (fun hc3=>?_) (fun hc3=>?_)
 ·skip
  skip
  replace H:=H.keep [1,9,10,11] rfl
  refine sO H<|sr 1 rfl<|sd (gB rfl (by unfold i64ok;omega))<|sr 1 rfl<|sE ?_;clear H a;intro a H
  refine k3 _ _ ?_
  refine wp_seq_k fun K11 k11=>?_
  replace H:=H.keep [1,9,10,11] rfl
  refine sS H fun K12 k12=>sr 3 rfl<|sg 6 2 30 36 false G G (fun hg3=>sy hg3<|sr 1 rfl<|sy hg3<|sr 1 rfl<|sy hg3<|sr 1 rfl<|sg 2 5 33 35 true G G (fun hg6=>sy hg6<|sr 1 rfl<|sy hg6<|sr 1 rfl<|sz 2 G G G)<|sy hg3<|sa G G G<|sz 5 G G G)<|so G G G<|sE ?_;clear H a;intro a H
  refine k12 _ ?_;clear k12 K12
  refine aQ H rfl (fun hc4=>?_) (fun hc4=>?_)
  ·skip
   try simp only [o1,o2,o3,o4,o5,o6,o7,o8,o9,oa] at hc4
   have a1:=ab (-v) (-(pull*x)) (by omega) (by omega);have a2:=ab (-v) (- -(pull*x)) (by omega) (by omega)
   replace H:=H.keep [1,9,10,11] rfl
   refine aB fun K13 k13=>?_
   refine ls 6 H<|sr 1 rfl<|sd (gB rfl (by unfold i64ok;omega))<|sr 1 rfl<|sd (gB rfl (by unfold i64ok;omega))<|sr 2 rfl<|sE ?_;clear H a;intro a H
   refine aA H G G Try.func85 G G (kE _ _ _ _ _ (by omega) (by omega) (by omega)) ?_;clear H a
   rintro _ _ a ⟨rfl,S2⟩ H
   replace S:=S.call S2;clear S2
   refine ls 2 H<|sd (gB rfl (by unfold i64ok;omega))<|sr 1 rfl<|sE ?_;clear H a;intro a H
   refine k13 _ _ ?_;clear k13 K13
   refine wp_ret ?_
   refine ret1 (fn:=Try.f80) rfl H rfl ?_
   exact ⟨congrArg (Value.int .i64) (by unfold tickI;simp only [Bool.false_eq_true,if_true,if_false];first|rw [if_pos (by omega)]|rw [if_neg (by omega)]),(S.sel [] G G)⟩
  try simp only [o1,o2,o3,o4,o5,o6,o7,o8,o9,oa] at hc4
  refine wp_skip ?_
  refine k11 _ _ ?_
  replace H:=H.keep [1,9,10,11] rfl
  refine aB fun K14 k14=>?_
  refine ls 4 H<|sr 4 rfl<|sE ?_;clear H a;intro a H
  refine aA H G G Try.func85 G G (kE _ _ _ _ _ (by omega) (by omega) (by omega)) ?_;clear H a
  rintro _ _ a ⟨rfl,S2⟩ H
  replace S:=S.call S2;clear S2
  refine ls 1 H<|sr 1 rfl<|sE ?_;clear H a;intro a H
  refine k14 _ _ ?_;clear k14 K14
  refine wp_ret ?_
  refine ret1 (fn:=Try.f80) rfl H rfl ?_
  exact ⟨congrArg (Value.int .i64) (by unfold tickI;simp only [Bool.false_eq_true,if_true,if_false];first|rw [if_pos (by omega)]|rw [if_neg (by omega)]),(S.sel [] G G)⟩
 skip
 exact absurd hc3 (by decide)
theorem jP (up:Bool) (empty pull drag motor:Int) (br:List Brake) (BA:Option Addr) (bcp:Nat) (sp slo shi sfail:Int) (mb:Nat) (v:Int) (t:Nat) (w:World) (F:Nat→Prop) (S:St w F [boxM mb 120 [.bool up,.int .i64 empty,.int .i64 pull,.int .i64 drag,.int .i64 motor,.slice BA br.length bcp,.int .i64 sp,.int .i64 slo,.int .i64 shi,.int .i64 sfail,.int .i64 (v),.int .i64 (t:Int)]] w) (hb:InS w F 2 BA br.length (bcell br)) (hesc:escOk (⟨up,empty,pull,drag,motor,br⟩:Esc)=true) (hstp:stpOk (⟨up,empty,pull,drag,motor,br⟩:Esc) (⟨sp,slo,shi,sfail⟩:Stp)=true) :
    Calls Try.prog 81 [.pointer (some ⟨mb,0,none⟩)].toArray w (Ret (fun u w'=>u = .int .i64 (gripI (⟨up,empty,pull,drag,motor,br⟩:Esc) (⟨sp,slo,shi,sfail⟩:Stp) t)∧St w F [boxM mb 120 [.bool up,.int .i64 empty,.int .i64 pull,.int .i64 drag,.int .i64 motor,.slice BA br.length bcp,.int .i64 sp,.int .i64 slo,.int .i64 shi,.int .i64 sfail,.int .i64 (v),.int .i64 (t:Int)]] w')):=by
 have hE:=cK hesc
 dsimp only at hE
 obtain ⟨hE1,hE2,hE3,hE4,hE5⟩:=hE
 have hS1:=hstp;unfold stpOk at hS1;simp only [decide_eq_true_eq] at hS1
 refine enter Try.func81 rfl Try.ntmps81 rfl (fun a H=>?_)
 skip
 refine sS H fun K1 k1=>sr 1 rfl<|sE ?_;clear H a;intro a H
 refine k1 _ ?_;clear k1 K1
 refine wp_seq_k fun K2 k2=>?_
 refine sS H fun K3 k3=>sr 2 rfl<|sf tJ rfl<|sf jW rfl<|sl S 0 mE G G G<|sL lE rfl<|sr 1 rfl<|sE ?_;clear H a;intro a H
 refine k3 _ ?_;clear k3 K3
 refine wp_block ?_
 refine loop_st (X:=Nat) (R0:=_) [0,9,10] H rfl (fun k=>[(2,.int .i64 (fE sfail t br k)),(11,.int .i64 (k:Int))]) (fun k=>[]) (fun g k=>k≤br.length∧g+k=br.length) (br.length) 0 ?_ (S.sel [0] G G) (H.keep [2,11,0,9,10] rfl) ?_
 · exact ⟨by omega,by omega⟩
 clear H S a
 intro g1 x1 a w1 hp S H K4 k4
 obtain ⟨k,rfl⟩:∃ y,y=x1:=⟨_,rfl⟩
 refine sS H fun K5 k5=>sr 1 rfl<|sE ?_;clear H a;intro a H
 refine k5 _ ?_;clear k5 K5
 refine wp_seq_k fun K6 k6=>?_
 refine condL H rfl (fun hc1=>?_) (fun hc1=>?_)
 ·skip
  refine wp_skip ?_
  refine k6 _ _ ?_
  refine wp_seq_k fun K7 k7=>?_
  refine wp_block ?_
  have hgb:=sH (fail:=sfail) (t:=t) (l:=br) (by unfold escOk at hesc;simp only [Bool.and_eq_true] at hesc;exact hesc.2) k (by omega)
  have hkb:=hE2 k (by omega);unfold eU at hkb;simp only [decide_eq_true_eq] at hkb
  refine aB fun K8 k8=>?_
  refine ls 3 H<|sr 1 rfl<|si lE mW G G (hb.adr (by omega)) (by omega)<|sd ((bG vG mW rfl S hb (by omega) (by omega)))<|sE ?_;clear H a;intro a H
  refine aJ H rfl S wY ?_;clear H a S;intro b4 _ a hb4 hbw4 S H
  refine ls 1 H<|sr 1 rfl<|sE ?_;clear H a;intro a H
  refine aD H S (i:=0) G G G G mW G G ?_
  clear H a S;intro _ a S H
  refine k8 _ _ ?_;clear k8 K8
  replace H:=H.keep [0,2,3,4,9,10,11] rfl
  replace S:=S.drew
  refine sD H fun K9 k9=>sr 2 rfl<|sf eP rfl<|sf jU rfl<|sl S 1 aF G G G<|sr 1 rfl<|sd (gX G G (by omega) (by omega))<|sd (fZ G G)<|sr 2 rfl<|sg 7 9 25 32 true G G (fun hg10=>sy hg10<|sf wW rfl<|sy hg10<|sl S 0 aF G G G<|sy hg10<|sr 1 rfl<|sy hg10<|sr 1 rfl<|sy hg10<|sf cT rfl<|sy hg10<|sl S 1 aF G G G<|sy hg10<|sr 1 rfl<|sz 7 G G G)<|sa G G G<|sE ?_;clear H a;intro a H
  refine k9 _ ?_;clear k9 K9
  refine aQ H rfl (fun hc2=>?_) (fun hc2=>?_)
  ·skip
   try simp only [o1,o2,o3,o4,o5,o6,o7,o8,o9,oa] at hc2
   replace H:=H.keep [0,2,4,9,10,11] rfl
   refine sO H<|sr 1 rfl<|sf rI rfl<|sl S 0 aF G G G<|sd (aH G G (by unfold i64ok;omega))<|sr 1 rfl<|sE ?_;clear H a;intro a H
   refine k7 _ _ ?_
   refine sO H<|sd (aH G G (by unfold i64ok;omega))<|sr 1 rfl<|sE ?_;clear H a;intro a H
   try rw [Int.toNat_natCast] at hc2
   first|rw [pF (fail:=sfail) (t:=(t:Int)) (l:=br) (k:=k) (by omega)] at H|rw [qO (fail:=sfail) (t:=(t:Int)) (l:=br) (k:=k) (by omega)] at H
   exact k4 (g1-1) (k+1) a _ (by omega) (by omega) (S.sel [1] G G) (H.keep [2,11,0,9,10] rfl)
  try simp only [o1,o2,o3,o4,o5,o6,o7,o8,o9,oa] at hc2
  refine wp_skip ?_
  refine k7 _ _ ?_
  refine sO H<|sd (aH G G (by unfold i64ok;omega))<|sr 1 rfl<|sE ?_;clear H a;intro a H
  try rw [Int.toNat_natCast] at hc2
  first|rw [pF (fail:=sfail) (t:=(t:Int)) (l:=br) (k:=k) (by omega)] at H|rw [qO (fail:=sfail) (t:=(t:Int)) (l:=br) (k:=k) (by omega)] at H
  exact k4 (g1-1) (k+1) a _ (by omega) (by omega) (S.sel [1] G G) (H.keep [2,11,0,9,10] rfl)
 refine wp_exit ?_
 refine k2 _ _ ?_
 replace H:=H.keep [2] rfl
 refine sS H fun K13 k13=>sr 2 rfl<|sE ?_;clear H a;intro a H
 refine k13 _ ?_;clear k13 K13
 refine wp_ret ?_
 refine ret1 (fn:=Try.f81) rfl H rfl ?_
 have hk9:k=br.length:=by omega
 subst hk9
 exact ⟨rfl,(S.sel [0] G G)⟩
end
end Go.Proofs.Ytinghmelkmblmaa
