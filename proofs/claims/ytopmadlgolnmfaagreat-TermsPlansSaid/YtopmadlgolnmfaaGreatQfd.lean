/- Part 4 of the proof. -/
import Derived.Test.YtopmadlgolnmfaaGreatQfc
namespace Go.Proofs.YtopmadlgolnmfaaGreat
open Go.RowKit
set_option linter.unusedVariables false
set_option linter.unusedSimpArgs false
set_option maxRecDepth 100000
set_option maxHeartbeats 4000000
section
theorem Us {w:World} {p:Part} {l:List Use} {v:Value} {w':World} (h:WearR w p l v w'):∃ A n c,v = .tuple #[.slice A n c,.int .i64 (wearE p l)]∧St w noF [] w':=by
 rcases h with ⟨h0,A,c,rfl,S⟩|⟨_,rfl,S⟩
 ·exact ⟨A,_,c,by rw [h0],S.sel [] rfl rfl⟩
 ·exact ⟨none,0,0,rfl,S⟩
theorem qY {l:List Use} {k:Nat} (h:k+1=l.length):(l.getD k aJm).day=prevD l l.length:=by rw [←h];rfl
theorem yM {p:Part} {l:List Use} (h:wearE p l=0):0≤prevD l l.length∧p.rates.length≤4:=by
 have h1:=kN (nJ h).1
 have h2:=h1.hdr
 unfold iY at h2
 simp only [decide_eq_true_eq] at h2
 exact ⟨sB h1.uses,h2.2.1⟩
theorem Fj {P:Int} {ps:List Psg} {xs:List Int} (V:StV P ps xs) {n:Nat} (hn:n<ps.length):(∀ j,j<n→0≤(ps.getD n aJj).mach→(ps.getD j aJj).mach≠(ps.getD n aJj).mach)∧∀ j,j<n→(ps.getD n aJj).mach<0→(ps.getD j aJj).mach=(ps.getD n aJj).mach→(ps.getD j aJj).mach<0:=
 ⟨fun j hj h0=>V.mach n hn h0 j hj,fun j _ h0 e=>by omega⟩
theorem aAp {pl:Int} {ps:List Psg} {xs:List Int} {day:List Hq} {l:List Prm} (h:keptE pl ps xs day l=0):StV pl ps xs:=gR (rW (rX h).1).1
theorem aAq {pl:Int} {ps:List Psg} {xs:List Int} {day:List Hq} {l:List Prm}:(keptV pl ps xs day l).2.2.2=keptE pl ps xs day l:=by
  unfold keptV
  split
  · rfl
  · split
    · dsimp only;omega
    · dsimp only;omega
theorem mS {days:Int} {s:Spr}:sprB days s=true↔((0≤s.day∧s.day≤days-1)∧(0≤s.kind∧s.kind≤3)∧(1≤s.many∧s.many≤8)):=by unfold sprB;rw [decide_eq_true_eq]
theorem Ut {pe:List Int} {k:Nat} (h:∀ q,q<k→0≤pe.getD q 0∧pe.getD q 0≤1000) (hk:0≤pe.getD k 0∧pe.getD k 0≤1000):∀ q,q<k+1→0≤pe.getD q 0∧pe.getD q 0≤1000:=fun q hq=>by
 by_cases e:q=k
 ·subst e;exact hk
 ·exact h q (by omega)
theorem gH {f:Nat→Bool} {k:Nat} (h:∀ q,q<k→f q=true) (hk:f k=true):∀ q,q<k+1→f q=true:=fun q hq=>by
 by_cases e:q=k
 ·subst e;exact hk
 ·exact h q (by omega)
theorem cB (n lo hi:Int) (w:World) :
    Calls Tryz.prog 28 [.int .i64 n,.int .i64 lo,.int .i64 hi].toArray w (Ret (fun v w'=>v = .bool (decide (lo≤n)&&decide (n≤hi))∧w'=w)):=by
 refine enter Tryz.func28 rfl Tryz.ntmps28 rfl (fun a H=>?_)
 have S:=St.start w
 refine sS H fun K1 k1=>sr 1 G<|sE ?_;intro a H
 refine k1 _ ?_;replace H:=H.keep [0,1,2] rfl;refine sS H fun K2 k2=>sr 4 G<|sg 3 3 10 13 true G G (fun hg4=>sy hg4<|sr 1 G<|sy hg4<|sr 1 G<|sy hg4<|sr 1 G<|sz 3 G G G)<|sa G G G<|sr 1 G<|sE ?_;intro a H
 refine k2 _ ?_;refine wp_ret ?_;refine ret1 (fn:=Tryz.f28) rfl H rfl ?_;exact ⟨rfl,rfl⟩
theorem aAr (u:Unt) (ps:List Psg) (us:List Unt) (i mb:Nat) (w:World) (F:Nat→Prop) (S:St w F [mapK (fun n:Int=>Value.int .i64 n) mb (macP ps us ps.length i)] w) (hur:InS w F 2 u.RA u.rates.length (scell u.rates)) (hurn:u.rates.length≤9223372036854775807) (huu:InS w F 6 u.UA u.uses.length (ucell u.uses)) (huun:u.uses.length≤9223372036854775807) :
    Calls Tryz.prog 48 [.agg [.int .i64 u.mach,.int .i64 u.every,.int .i64 u.seen,.slice u.RA u.rates.length u.rc,.int .i64 u.worn,.int .i64 u.turns,.int .i64 u.age,.slice u.UA u.uses.length u.uc,.int .i64 u.old,.int .i64 u.tn,.int .i64 u.cl,.int .i64 u.kind].toArray,.map (some mb)].toArray w (Ret (fun v w'=>v = .bool (untU ps us i u)∧St w F [mapK (fun n:Int=>Value.int .i64 n) mb (macP ps us ps.length i)] w')):=by
 refine enter Tryz.func48 rfl Tryz.ntmps48 rfl (fun a H=>?_)
 skip
 refine aA fun K1 k1=>?_
 refine aO H rfl S G G ?_;intro b2 _ a hb2 hbw2 S H
 refine ls 1 H<|sr 1 G<|sE ?_;intro a H
 refine k1 _ _ ?_;refine wp_seq_k fun K2 k2=>?_
 replace H:=H.keep [1,2] rfl;refine sS H fun K3 k3=>sr 1 G<|sf nB rfl<|sl S 0 aC G G G<|sd ((nM S (i:=1) rfl zI (gU rfl) G G G (fun h hh=>hh u.mach):Does _ _ _ _ (.bool (freeM ps us i u.mach))))<|sr 2 G<|sg 4 5 14 18 false G G (fun hg6=>sy hg6<|sf pG rfl<|sy hg6<|sl S 0 aC G G G<|sy hg6<|sc rfl Tryz.func28 G G (cB _ _ _ _)<|sy hg6<|sr 1 G<|sz 4 G G G)<|so G G G<|sr 1 G<|sg 4 11 20 24 false G G (fun hg12=>sy hg12<|sf rL rfl<|sy hg12<|sl S 0 aC G G G<|sy hg12<|sc rfl Tryz.func28 G G (cB _ _ _ _)<|sy hg12<|sr 1 G<|sz 4 G G G)<|so G G G<|sr 1 G<|sg 4 17 26 30 false G G (fun hg18=>sy hg18<|sf uY rfl<|sy hg18<|sl S 0 aC G G G<|sy hg18<|sc rfl Tryz.func28 G G (cB _ _ _ _)<|sy hg18<|sr 1 G<|sz 4 G G G)<|so G G G<|sE ?_;intro a H
 refine k3 _ ?_;refine aU H rfl (fun hc1=>?_) (fun hc1=>?_)
 ·skip
  try simp only [oz] at hc1
  replace H:=H.keep [] rfl;refine sS H fun K4 k4=>sr 1 G<|sE ?_;intro a H
  refine k4 _ ?_;refine wp_ret ?_;refine ret1 (fn:=Tryz.f48) rfl H rfl ?_;rw [Ey (ps:=ps) (us:=us) (i:=i) (u:=u) (fun h=>by have h1:=h.free;have h2:=h.i;unfold untI at h2;rw [h1] at hc1;simp only [Bool.true_eq_false,Bool.not_true,Bool.false_eq_true,not_true_eq_false,false_or] at hc1;omega)];exact ⟨rfl,(S.sel [1] G G)⟩
 try simp only [oz] at hc1
 refine wp_skip ?_;refine k2 _ _ ?_;refine wp_seq_k fun K5 k5=>?_
 replace H:=H.keep [2] rfl;refine aA fun K6 k6=>?_
 refine ls 4 H<|sf kH rfl<|sd ((aD dJ eE rfl S (i:=0) G G))<|sf gM rfl<|sl S 0 jH G G G<|sE ?_;intro a H
 refine aB H G G Tryz.func67 G G (eD (qP u.rates u.worn u.turns u.age u.RA u.rc u.uses u.UA u.uc _ (hur.now S) hurn (huu.now S) huun) (fun _ _ h=>Us h)) ?_;clear H a
 rintro _ _ a ⟨WA,wn,wc,rfl,S2⟩ H;replace S:=S.call S2;clear S2;refine ls 5 H<|sr 5 G<|sE ?_;intro a H
 refine k6 _ _ ?_;replace H:=H.keep [2,6] rfl;refine sS H fun K7 k7=>sr 3 G<|sg 4 2 42 46 false G G (fun hg3=>sy hg3<|sf gM rfl<|sy hg3<|sl S 0 jH G G G<|sy hg3<|sL cJ rfl<|sy hg3<|sr 1 G<|sz 4 G G G)<|so G G G<|sE ?_;intro a H
 refine k7 _ ?_;refine aU H rfl (fun hc2=>?_) (fun hc2=>?_)
 ·skip
  try simp only [oz] at hc2
  refine sS H fun K8 k8=>sr 1 G<|sE ?_;intro a H
  refine k8 _ ?_;refine wp_ret ?_;refine ret1 (fn:=Tryz.f48) rfl H rfl ?_;rw [Ey (ps:=ps) (us:=us) (i:=i) (u:=u) (fun h=>by have h1:=h.wear;have h2:=h.i;unfold untI at h2;rcases hc2 with h9|h9;exact h9 h1;omega)];exact ⟨rfl,(S.sel [1] rfl rfl)⟩
 try simp only [oz] at hc2
 have hwe:wearE u.part u.uses=0:=by have h9:=hc2;show wearE ⟨u.rates,u.worn,u.turns,u.age⟩ u.uses=0;omega
 have hpv:=yM hwe
 refine wp_skip ?_;refine k5 _ _ ?_;replace H:=H.keep [2] rfl;refine sS H fun K9 k9=>sr 1 G<|sE ?_;intro a H
 refine k9 _ ?_;have SR:=(S.sel [0,1] G G);refine eZ (X:=Int) [2] H rfl (fun x=>[(7,.int .i64 x)]) (fun x=>[]) (fun x=>x=prevD u.uses u.uses.length) SR (fun K11 k11=>?_) ?_
 ·skip
  refine sS H fun K12 k12=>sf gM rfl<|sl S 0 jH G G G<|sL cJ rfl<|sr 1 G<|sE ?_;intro a H
  refine k12 _ ?_;refine sS H fun K13 k13=>sr 2 G<|sE ?_;intro a H
  refine k13 _ ?_;refine condL H rfl (fun hc3=>?_) (fun hc3=>?_)
  ·skip
   replace H:=H.keep [2,8] rfl;refine sO H<|sf gM rfl<|sl S 0 jH G G G<|sr 1 G<|sd (aS G G (by unfold i64ok;omega))<|sI cJ bZ G G (huu.adr (by omega)) (by omega) (by omega)<|sp hZ rfl<|slm aC rfl (huu.rd S (by omega) (by omega))<|sr 1 G<|sE ?_;intro a H
   exact k11 _ a _ (qY (k:=((u.uses.length:Int)-1).toNat) (by omega)) (S.sel [0,1] G G) (H.keep [7,2] rfl)
  refine wp_skip ?_;exact k11 _ a _ (by rw [show u.uses.length=0 by omega];rfl) (S.sel [0,1] G G) (H.keep [7,2] rfl)
 clear SR H S a;intro xm a wm hp S H;obtain ⟨x,rfl⟩:∃ y,y=xm:=⟨_,rfl⟩;replace H:=H.keep [2,7] rfl;refine sS H fun K15 k15=>sf rM rfl<|sl S 0 aC rfl rfl rfl<|sr 1 G<|sc rfl Tryz.func28 rfl rfl (cB _ _ _ _)<|sr 1 G<|sg 3 4 64 67 true rfl rfl (fun hg5=>sy hg5<|sf rN rfl<|sy hg5<|sl S 0 aC rfl rfl rfl<|sy hg5<|sc rfl Tryz.func28 rfl rfl (cB _ _ _ _)<|sz 3 rfl rfl rfl)<|sa rfl rfl rfl<|sr 1 G<|sg 8 9 69 77 true rfl rfl (fun hg10=>sy hg10<|sf rO rfl<|sy hg10<|sl S 0 aC rfl rfl rfl<|sy hg10<|sf kH rfl<|sy hg10<|sf fP rfl<|sy hg10<|sl S 0 iF rfl rfl rfl<|sy hg10<|sL dB rfl<|sy hg10<|sd (aS rfl rfl (by unfold i64ok;omega))<|sy hg10<|sc rfl Tryz.func28 rfl rfl (cB _ _ _ _)<|sz 8 rfl rfl rfl)<|sa rfl rfl rfl<|sr 1 G<|sE ?_;intro a H
 refine k15 _ ?_;refine wp_ret ?_;refine ret1 (fn:=Tryz.f48) rfl H rfl ?_;refine ⟨congrArg Value.bool ?_,(S.sel [1] G G)⟩;rw [Bool.eq_iff_iff,yD];simp only [Bool.and_eq_true,decide_eq_true_eq];constructor
 · intro h9
   refine ⟨?_,?_,hwe⟩
   · rcases hc1 with ⟨⟨⟨h1,_⟩,_⟩,_⟩;exact h1
   · unfold untI;omega
 · intro h9
   have h2:=h9.i
   unfold untI at h2
   omega
theorem Lc (y:Yr) (w:World) (hy:YIn w noF y) (hyb:YBd y) :
    Calls Tryz.prog 27 [.agg [.int .i64 y.days,.int .i64 y.pl,.slice y.PA y.ps.length y.pc,.slice y.XA y.xs.length y.xc,.slice y.BA y.pe.length y.bc,.int .i64 y.limit,.bool y.help,.slice y.QA y.prs.length y.qc,.slice y.VA y.us.length y.vc,.int .i64 y.crew,.slice y.SA y.sps.length y.sc].toArray].toArray w (Ret (fun v w'=>v = .int .i64 (yearE y)∧St w noF [] w')):=by
 have hn1:=hyb.psn;have hn2:=hyb.pen;have hn3:=hyb.usn;have hn4:=hyb.spn
 refine enter Tryz.func27 rfl Tryz.ntmps27 rfl (fun a H=>?_)
 have S:=St.start w
 refine aA fun K1 k1=>?_
 refine aO H rfl S G G ?_;intro b1 _ a hb1 hbw1 S H
 refine ls 1 H<|sr 1 G<|sE ?_;clear H a;intro a H
 refine k1 _ _ ?_;refine wp_seq_k fun K2 k2=>?_
 replace H:=H.keep [1] rfl;refine aA fun K3 k3=>?_
 refine ls 4 H<|sf eI rfl<|sd ((aD cE cV rfl S (i:=0) G G))<|sf lJ rfl<|sl S 0 qI G G G<|sE ?_;clear H a;intro a H
 refine aB H G G Tryz.func47 G G (Nb y.pl y.ps y.PA y.pc y.xs y.XA y.xc ([]:List Hq) none 0 (fun _=>none) (fun _=>0) y.prs y.QA y.qc _ (hy.ps.now S) hyb.psn (hy.xs.now S) hyb.xsn InS.nil (by decide) (fun k hk=>absurd hk (Nat.not_lt_zero k)) (fun k hk=>absurd hk (Nat.not_lt_zero k)) (hy.prs.now S) hyb.prn) ?_;clear H a
 rintro _ _ a ⟨rfl,S2⟩ H;replace S:=S.call S2;clear S2;rw [aAq] at H;refine ls 9 H<|sr 9 G<|sE ?_;clear H a;intro a H
 refine k3 _ _ ?_;replace H:=H.keep [1,6] rfl;refine sS H fun K4 k4=>sr 2 G<|sE ?_;clear H a;intro a H
 refine k4 _ ?_;refine condN H rfl (fun hc1=>?_) (fun hc1=>?_)
 ·skip
  refine sS H fun K5 k5=>sr 2 G<|sE ?_;clear H a;intro a H
  refine k5 _ ?_;refine wp_ret ?_;refine ret1 (fn:=Tryz.f27) rfl H rfl ?_;exact ⟨congrArg _ (qU hc1).symm,(S.sel [] G G)⟩
 have hke:keptE y.pl y.ps y.xs [] y.prs=0:=by omega
 have hV:=aAp hke
 refine wp_skip ?_;refine k2 _ _ ?_;refine wp_seq_k fun K6 k6=>?_
 replace H:=H.keep [1] rfl
 refine sS H fun K7 k7=>sf dN rfl<|sl S 0 aC G G G<|sc rfl Tryz.func28 G G (cB _ _ _ _)<|sr 2 G<|sg 7 4 33 40 false G G (fun hg5=>by
     have hq5:=hg5;try simp only [oz] at hq5
     exact sy hg5<|sf gX rfl<|sy hg5<|sl S 0 dQ G G G<|sy hg5<|sL aQ rfl<|sy hg5<|sf eI rfl<|sy hg5<|sf dP rfl<|sy hg5<|sl S 0 aC G G G<|sy hg5<|sr 1 G<|sz 7 G G G)<|so G G G<|sr 1 G<|sg 4 13 42 46 false G G (fun hg14=>by
     have hq14:=hg14;try simp only [oz] at hq14
     exact sy hg14<|sf mZ rfl<|sy hg14<|sl S 0 aC G G G<|sy hg14<|sc rfl Tryz.func28 G G (cB _ _ _ _)<|sy hg14<|sr 1 G<|sz 4 G G G)<|so G G G<|sr 1 G<|sg 4 19 48 52 false G G (fun hg20=>by
     have hq20:=hg20;try simp only [oz] at hq20
     exact sy hg20<|sf uW rfl<|sy hg20<|sl S 0 aC G G G<|sy hg20<|sc rfl Tryz.func28 G G (cB _ _ _ _)<|sy hg20<|sr 1 G<|sz 4 G G G)<|so G G G<|sr 1 G<|sg 4 25 54 58 false G G (fun hg26=>by
     have hq26:=hg26;try simp only [oz] at hq26
     exact sy hg26<|sf gY rfl<|sy hg26<|sl S 0 kA G G G<|sy hg26<|sL kU rfl<|sy hg26<|sr 1 G<|sz 4 G G G)<|so G G G<|sE ?_;clear H a;intro a H
 refine k7 _ ?_;refine aU H rfl (fun hc2=>?_) (fun hc2=>?_)
 ·skip
  try simp only [oz] at hc2
  replace H:=H.keep [] rfl;refine sS H fun K8 k8=>sr 1 G<|sE ?_;clear H a;intro a H
  refine k8 _ ?_;refine wp_ret ?_;refine ret1 (fn:=Tryz.f27) rfl H rfl ?_;rw [sH hke (fun h=>by unfold yrI at h;omega)];exact ⟨rfl,(S.sel [] G G)⟩
 try simp only [oz] at hc2
 refine wp_skip ?_;refine k6 _ _ ?_;refine wp_seq_k fun K9 k9=>?_
 refine sS H fun K10 k10=>sf gX rfl<|sl S 0 dQ G G G<|sL aQ rfl<|sr 1 G<|sE ?_;clear H a;intro a H
 refine k10 _ ?_;refine wp_block ?_;refine loop_st (X:=Nat) (R0:=_) [1,61,62] H rfl (fun k=>[(63,.int .i64 (k:Int))]) (fun k=>[]) (fun g k=>k≤y.pe.length∧g+k=y.pe.length∧∀ q,q<k→0≤y.pe.getD q 0∧y.pe.getD q 0≤1000) (y.pe.length) 0 ?_ (S.sel [0] G G) (H.keep [63,1,61,62] rfl) ?_
 · exact ⟨by omega,by omega,fun q hq=>absurd hq (Nat.not_lt_zero q)⟩
 clear H S a;intro g1 x1 a w1 hp S H K11 k11;obtain ⟨k,rfl⟩:∃ y,y=x1:=⟨_,rfl⟩;refine sS H fun K12 k12=>sr 1 G<|sE ?_;clear H a;intro a H
 refine k12 _ ?_;refine wp_seq_k fun K13 k13=>?_
 refine condL H rfl (fun hc3=>?_) (fun hc3=>?_)
 ·skip
  refine wp_skip ?_;refine k13 _ _ ?_;refine wp_seq_k fun K14 k14=>?_
  refine wp_block ?_;refine sS H fun K15 k15=>si aQ aY G G (hy.pe.adr (by omega)) (by omega)<|slm aC rfl (hy.pe.rd S (by omega) (by omega))<|sr 1 G<|sE ?_;clear H a;intro a H
  refine k15 _ ?_;refine sS H fun K16 k16=>sr 1 G<|sc rfl Tryz.func28 G G (cB _ _ _ _)<|sr 1 G<|sE ?_;clear H a;intro a H
  refine k16 _ ?_;refine aU H rfl (fun hc4=>?_) (fun hc4=>?_)
  ·skip
   try simp only [oz] at hc4
   refine sS H fun K17 k17=>sr 1 G<|sE ?_;clear H a;intro a H
   refine k17 _ ?_;refine wp_ret ?_;refine ret1 (fn:=Tryz.f27) rfl H rfl ?_;rw [sH hke (fun h=>by have h9:=h.2.1.2 k (by omega);omega)];exact ⟨rfl,(S.sel [] G G)⟩
  try simp only [oz] at hc4
  refine wp_skip ?_;refine k14 _ _ ?_;replace H:=H.keep [1,61,62,63] rfl;refine sO H<|sd (aH G G (by unfold i64ok;omega))<|sr 1 G<|sE ?_;clear H a;intro a H
  exact k11 (g1-1) (k+1) a _ (by omega) (⟨by omega,by omega,Ut hp.2.2 (by omega)⟩) (S.sel [0] G G) (H.keep [63,1,61,62] rfl)
 refine wp_exit ?_;refine k9 _ _ ?_;refine wp_seq_k fun K19 k19=>?_
 refine sS H fun K20 k20=>sf gY rfl<|sl S 0 kA G G G<|sL kU rfl<|sr 1 G<|sE ?_;clear H a;intro a H
 refine k20 _ ?_;refine wp_block ?_;have hpe9:∀ q,q<y.pe.length→0≤y.pe.getD q 0∧y.pe.getD q 0≤1000:=fun q hq=>hp.2.2 q (by omega)
 refine loop_st (X:=Nat) (R0:=_) [1,72,73] H rfl (fun k=>[(74,.int .i64 (k:Int))]) (fun k=>[]) (fun g k=>k≤y.sps.length∧g+k=y.sps.length∧∀ q,q<k→sprB y.days (y.sps.getD q aJs)=true) (y.sps.length) 0 ?_ (S.sel [0] G G) (H.keep [74,1,72,73] rfl) ?_
 · exact ⟨by omega,by omega,fun q hq=>absurd hq (Nat.not_lt_zero q)⟩
 clear H S a;intro g2 x2 a w2 hp S H K21 k21;obtain ⟨k,rfl⟩:∃ y,y=x2:=⟨_,rfl⟩;refine sS H fun K22 k22=>sr 1 G<|sE ?_;clear H a;intro a H
 refine k22 _ ?_;refine wp_seq_k fun K23 k23=>?_
 refine condL H rfl (fun hc5=>?_) (fun hc5=>?_)
 ·skip
  refine wp_skip ?_;refine k23 _ _ ?_;refine wp_seq_k fun K24 k24=>?_
  refine wp_block ?_;refine aA fun K25 k25=>?_
  refine ls 2 H<|si kU lG G G (hy.sps.adr (by omega)) (by omega)<|sd ((aV Gw lG rfl S hy.sps (by omega) (by omega)))<|sE ?_;clear H a;intro a H
  refine aM H rfl S Jt ?_;intro b10 _ a hb10 hbw10 S H
  refine aI H S (i:=0) G G G G lG G G ?_
  clear H a S;intro _ a S H;refine k25 _ _ ?_;replace H:=H.keep [1,10,72,73,74] rfl
  refine sS H fun K26 k26=>sf uZ rfl<|sl S 0 aC G G G<|sf dN rfl<|sl S 1 aC G G G<|sd (aS G G (by unfold i64ok;omega))<|sc rfl Tryz.func28 G G (cB _ _ _ _)<|sr 2 G<|sg 4 7 85 89 false G G (fun hg8=>by
      have hq8:=hg8;try simp only [oz] at hq8
      exact sy hg8<|sf vB rfl<|sy hg8<|sl S 0 aC G G G<|sy hg8<|sc rfl Tryz.func28 G G (cB _ _ _ _)<|sy hg8<|sr 1 G<|sz 4 G G G)<|so G G G<|sr 1 G<|sg 4 13 91 95 false G G (fun hg14=>by
      have hq14:=hg14;try simp only [oz] at hq14
      exact sy hg14<|sf vD rfl<|sy hg14<|sl S 0 aC G G G<|sy hg14<|sc rfl Tryz.func28 G G (cB _ _ _ _)<|sy hg14<|sr 1 G<|sz 4 G G G)<|so G G G<|sE ?_;clear H a;intro a H
  refine k26 _ ?_;refine aU H rfl (fun hc6=>?_) (fun hc6=>?_)
  ·skip
   try simp only [oz] at hc6
   replace H:=H.keep [] rfl;refine sS H fun K27 k27=>sr 1 G<|sE ?_;clear H a;intro a H
   refine k27 _ ?_;refine wp_ret ?_;refine ret1 (fn:=Tryz.f27) rfl H rfl ?_;rw [sH hke (fun h=>by have h9:=mS.1 (h.2.2.2.2.2 k (by omega));omega)];exact ⟨rfl,(S.sel [] G G)⟩
  try simp only [oz] at hc6
  refine wp_skip ?_;refine k24 _ _ ?_;refine sO H<|sd (aH G G (by unfold i64ok;omega))<|sr 1 G<|sE ?_;clear H a;intro a H
  exact k21 (g2-1) (k+1) a _ (by omega) (⟨by omega,by omega,gH (f:=fun q=>sprB y.days (y.sps.getD q aJs)) hp.2.2 (mS.2 (by omega))⟩) (S.sel [1] G G) (H.keep [74,1,72,73] rfl)
 refine wp_exit ?_;refine k19 _ _ ?_;refine wp_seq_k fun K29 k29=>?_
 refine sS H fun K30 k30=>sf cO rfl<|sl S 0 dR G G G<|sL cX rfl<|sr 1 G<|sE ?_;clear H a;intro a H
 refine k30 _ ?_;refine condL H rfl (fun hc7=>?_) (fun hc7=>?_)
 ·skip
  refine sS H fun K31 k31=>sr 1 G<|sE ?_;clear H a;intro a H
  refine k31 _ ?_;refine wp_ret ?_;refine ret1 (fn:=Tryz.f27) rfl H rfl ?_
  rw [xX hke (by
    unfold yrI
    have h9:=hp.2.2
    exact ⟨by omega,⟨by omega,hpe9⟩,by omega,by omega,by omega,fun q hq=>h9 q (by omega)⟩) (by omega)];exact ⟨rfl,(S.sel [] G G)⟩
 refine wp_skip ?_;refine k29 _ _ ?_;replace H:=H.keep [1] rfl;refine aA fun K32 k32=>?_
 refine iB (fun n:Int=>Value.int .i64 n) (macP y.ps y.us 0 0) Nw H rfl S ?_;intro mb _ a hmb S H
 refine ls 1 H<|sr 1 G<|sE ?_;clear H a;intro a H
 refine k32 _ _ ?_;refine wp_seq_k fun K33 k33=>?_
 refine sS H fun K34 k34=>sf eI rfl<|sf dZ rfl<|sl S 1 fF G G G<|sL eT rfl<|sr 1 G<|sE ?_;clear H a;intro a H
 refine k34 _ ?_;refine wp_block ?_
 have hyi:yrI y:=by
   unfold yrI
   have h9:=hp.2.2
   exact ⟨by omega,⟨by omega,hpe9⟩,by omega,by omega,by omega,fun q hq=>h9 q (by omega)⟩
 refine loop_st (X:=Nat) (R0:=_) [1,11,105,106] H rfl (fun k=>[(107,.int .i64 (k:Int))]) (fun k=>[mapK (fun n:Int=>Value.int .i64 n) mb (macP y.ps y.us k 0)]) (fun g k=>k≤y.ps.length∧g+k=y.ps.length) (y.ps.length) 0 ?_ (S.sel [0,1] G G) (H.keep [107,1,11,105,106] rfl) ?_
 · exact ⟨by omega,by omega⟩
 clear H S a;intro g3 x3 a w3 hp S H K35 k35;obtain ⟨k,rfl⟩:∃ y,y=x3:=⟨_,rfl⟩;refine sS H fun K36 k36=>sr 1 G<|sE ?_;clear H a;intro a H
 refine k36 _ ?_;refine wp_seq_k fun K37 k37=>?_
 refine condL H rfl (fun hc8=>?_) (fun hc8=>?_)
 ·skip
  refine wp_skip ?_;refine k37 _ _ ?_;refine wp_seq_k fun K38 k38=>?_
  refine wp_block ?_;refine aA fun K39 k39=>?_
  refine ls 2 H<|si eT dH G G (hy.ps.adr (by omega)) (by omega)<|sd ((aV fV dH rfl S hy.ps (by omega) (by omega)))<|sE ?_;clear H a;intro a H
  refine aM H rfl S kW ?_;intro b13 _ a hb13 hbw13 S H
  refine aI H S (i:=0) G G G G dH G G ?_
  clear H a S;intro _ a S H;refine k39 _ _ ?_;replace H:=H.keep [1,11,13,105,106,107] rfl;refine cN ?_;refine ls 6 H<|sr 1 G<|sf fD rfl<|sl S 0 aC G G G<|sf fD rfl<|sl S 0 aC G G G<|sr 1 G<|sE ?_;clear H a;intro a H
  refine fJ (k:=(y.ps.getD k aJj).mach) (macP y.ps y.us (k+1) 0) H S (i:=1) rfl zI (gU rfl) G G G (Zz (Fj hV (by omega)).1 (Fj hV (by omega)).2) ?_;intro _ a S H
  refine k38 _ _ ?_;refine sO H<|sd (aH G G (by unfold i64ok;omega))<|sr 1 G<|sE ?_;clear H a;intro a H
  exact k35 (g3-1) (k+1) a _ (by omega) (⟨by omega,by omega⟩) (S.sel [1,2] G G) (H.keep [107,1,11,105,106] rfl)
 refine wp_exit ?_;refine k33 _ _ ?_;refine wp_seq_k fun K42 k42=>?_
 replace H:=H.keep [1,11] rfl;refine sS H fun K43 k43=>sf cO rfl<|sl S 1 dR G G G<|sL cX rfl<|sr 1 G<|sE ?_;clear H a;intro a H
 refine k43 _ ?_;refine wp_block ?_;obtain rfl:k=y.ps.length:=by omega
 refine loop_st (X:=Nat) (R0:=_) [11,119,120] H rfl (fun k=>[(121,.int .i64 (k:Int))]) (fun k=>[mapK (fun n:Int=>Value.int .i64 n) mb (macP y.ps y.us y.ps.length k)]) (fun g k=>k≤y.us.length∧g+k=y.us.length∧∀ q,q<k→untB y.ps y.us q=true) (y.us.length) 0 ?_ (S.sel [0,1] G G) (H.keep [121,11,119,120] rfl) ?_
 · exact ⟨by omega,by omega,fun q hq=>absurd hq (Nat.not_lt_zero q)⟩
 clear H S a;intro g4 x4 a w4 hp S H K44 k44;obtain ⟨k,rfl⟩:∃ y,y=x4:=⟨_,rfl⟩;refine sS H fun K45 k45=>sr 1 G<|sE ?_;intro a H
 refine k45 _ ?_;refine wp_seq_k fun K46 k46=>?_
 refine condL H rfl (fun hc9=>?_) (fun hc9=>?_)
 ·skip
  refine wp_skip ?_;refine k46 _ _ ?_;refine wp_seq_k fun K47 k47=>?_
  refine wp_block ?_;refine aA fun K48 k48=>?_
  refine ls 2 H<|si cX dG G G (hy.us.adr (by omega)) (by omega)<|sd ((aV lR dG rfl S hy.us (by omega) (by omega)))<|sE ?_;intro a H
  refine aM H rfl S gF ?_;intro b15 _ a hb15 hbw15 S H
  refine aI H S (i:=0) G G G G dG G G ?_
  clear H a S;intro _ a S H;refine k48 _ _ ?_;refine wp_seq_k fun K49 k49=>?_
  refine aA fun K50 k50=>?_
  refine ls 2 H<|sd ((aD lR dG rfl S (i:=0) G G))<|sr 1 G<|sE ?_;intro a H
  refine aB H G G Tryz.func48 G G (aAr (y.u k) y.ps y.us k mb _ _ ((S.sel [1] G G).startR) ((hy.rt k (by omega)).nowR (S.sel [1] G G)) (hyb.rtn (by omega)) ((hy.ul k (by omega)).nowR (S.sel [1] G G)) (hyb.uln (by omega))) ?_;clear H a
  rintro _ _ a ⟨rfl,S2⟩ H;replace S:=St.callR (M:=[_]) (S.sel [1,0,2] rfl rfl) S2;clear S2;refine ls 1 H<|sr 1 G<|sE ?_;intro a H
  refine k50 _ _ ?_;refine aU H rfl (fun hc10=>?_) (fun hc10=>?_)
  ·skip
   try simp only [oz] at hc10
   replace H:=H.keep [] rfl;refine sS H fun K51 k51=>sr 1 G<|sE ?_;intro a H
   refine k51 _ ?_;refine wp_ret ?_;refine ret1 (fn:=Tryz.f27) rfl H rfl ?_;rw [xY hke hyi (by omega) (show k<y.us.length by omega) hc10];exact ⟨rfl,(S.sel [] G G)⟩
  try simp only [oz] at hc10
  refine wp_skip ?_;refine k49 _ _ ?_;refine cN ?_;refine ls 3 H<|sr 1 G<|sf nB rfl<|sl S 1 aC G G G<|sE ?_;intro a H
  refine fJ (k:=(y.us.getD k aJk).mach) (macP y.ps y.us y.ps.length (k+1)) H S (i:=0) rfl zI (gU rfl) G G G aAa ?_;intro _ a S H
  refine k47 _ _ ?_;refine sO H<|sd (aH G G (by unfold i64ok;omega))<|sr 1 G<|sE ?_;intro a H
  exact k44 (g4-1) (k+1) a _ (by omega) (⟨by omega,by omega,gH (f:=untB y.ps y.us) hp.2.2 hc10⟩) (S.sel [0,2] G G) (H.keep [121,11,119,120] rfl)
 refine wp_exit ?_;refine k42 _ _ ?_;refine sS H fun K54 k54=>sr 1 G<|sE ?_;intro a H
 refine k54 _ ?_;refine wp_ret ?_;refine ret1 (fn:=Tryz.f27) rfl H rfl ?_;rw [xZ hke hyi (by omega) (bS.2 fun q hq=>hp.2.2 q (by omega))];exact ⟨rfl,(S.sel [] G G)⟩
end
section
theorem chk5 (A B C:Prop) [Decidable A] [Decidable B] [Decidable C] (k:Nat):¬ A∨(A∧¬ B)∨(A∧B∧¬ C)∨(A∧B∧C∧k=0)∨(A∧B∧C∧0<k):=by
 by_cases hA:A <;> by_cases hB:B <;> by_cases hC:C <;> by_cases hk:k=0 <;> simp [hA,hB,hC,hk] <;> omega
section
variable {P:Program} {w:World} {L:List (Nat×Value)} {ty:TypeId} {pos:String} {af:Array Edge} {dd:Option Nat} {g:Option (Nat×Bool)}
theorem iL {x:Operand} {xt:TypeId} {lo n hi:Int} (hx:ev L x=some (.bool (decide (lo≤n)&&decide (n≤hi)))) (h:¬ (lo≤n∧n≤hi)):Does P L ⟨dd,.unOp .not xt x,ty,pos,af,g⟩ w (.bool true):=by
 have h1:=kO (P:=P) (d:=dd) (w:=w) (ty:=ty) (pos:=pos) (af:=af) (g:=g) (xt:=xt) hx
 have e:(!(decide (lo≤n)&&decide (n≤hi)))=true:=by simp only [Bool.not_eq_true',Bool.and_eq_false_iff,decide_eq_false_iff_not];omega
 rw [e] at h1;exact h1
theorem cK {x:Operand} {xt:TypeId} {lo n hi:Int} (hx:ev L x=some (.bool (decide (lo≤n)&&decide (n≤hi)))) (h:lo≤n∧n≤hi):Does P L ⟨dd,.unOp .not xt x,ty,pos,af,g⟩ w (.bool false):=by
 have h1:=kO (P:=P) (d:=dd) (w:=w) (ty:=ty) (pos:=pos) (af:=af) (g:=g) (xt:=xt) hx
 rw [decide_eq_true h.1,decide_eq_true h.2] at h1;exact h1
end
section
variable {y:Yr} {l:List Tsk} {k:Nat}
def tskI (y:Yr) (t:Tsk):Prop:=(0≤t.day∧t.day≤y.days-1)∧(0≤t.unit∧t.unit≤(y.us.length:Int)-1)∧(1≤t.kind∧t.kind≤2)
theorem mT (h:¬ ((0≤(l.getD k aJl).day∧(l.getD k aJl).day≤y.days-1)∧(0≤(l.getD k aJl).unit∧(l.getD k aJl).unit≤(y.us.length:Int)-1)∧(1≤(l.getD k aJl).kind∧(l.getD k aJl).kind≤2))):tskB y l k=false:=by
 unfold tskB;rw [decide_eq_false h,Bool.false_and]
theorem Fk (hB:(0≤(l.getD k aJl).day∧(l.getD k aJl).day≤y.days-1)∧(0≤(l.getD k aJl).unit∧(l.getD k aJl).unit≤(y.us.length:Int)-1)∧(1≤(l.getD k aJl).kind∧(l.getD k aJl).kind≤2)∧0<k) (h:befB (l.getD ((k:Int)-1).toNat aJl) (l.getD k aJl)=false):tskB y l k=false:=by
 rw [show ((k:Int)-1).toNat=k-1 by omega] at h;unfold tskB;rw [h,decide_eq_false (show ¬ k=0 by omega),Bool.or_self,Bool.and_false]
theorem pQ (hB:(0≤(l.getD k aJl).day∧(l.getD k aJl).day≤y.days-1)∧(0≤(l.getD k aJl).unit∧(l.getD k aJl).unit≤(y.us.length:Int)-1)∧(1≤(l.getD k aJl).kind∧(l.getD k aJl).kind≤2)∧k=0):tskB y l k=true:=by
 unfold tskB;rw [decide_eq_true ⟨hB.1,hB.2.1,hB.2.2.1⟩,decide_eq_true hB.2.2.2];rfl
theorem pR (hB:(0≤(l.getD k aJl).day∧(l.getD k aJl).day≤y.days-1)∧(0≤(l.getD k aJl).unit∧(l.getD k aJl).unit≤(y.us.length:Int)-1)∧(1≤(l.getD k aJl).kind∧(l.getD k aJl).kind≤2)∧0<k) (h:befB (l.getD ((k:Int)-1).toNat aJl) (l.getD k aJl)=true):tskB y l k=true:=by
 rw [show ((k:Int)-1).toNat=k-1 by omega] at h;unfold tskB;rw [decide_eq_true ⟨hB.1,hB.2.1,hB.2.2.1⟩,h,Bool.or_true];rfl
end
theorem Ai (a b:Tsk) (w:World) :
    Calls Tryz.prog 29 [.agg [.int .i64 a.day,.int .i64 a.unit,.int .i64 a.kind].toArray,.agg [.int .i64 b.day,.int .i64 b.unit,.int .i64 b.kind].toArray].toArray w (Ret (fun v w'=>v = .bool (befB a b)∧St w noF [] w')):=by
 refine enter Tryz.func29 rfl Tryz.ntmps29 rfl (fun a H=>?_)
 have S:=St.start w
 refine aA fun K1 k1=>?_
 refine aO H rfl S G G ?_;intro b2 _ a hb2 hbw2 S H
 refine aO H rfl S G G ?_;intro b3 _ a hb3 hbw3 S H
 refine ls 1 H<|sr 1 G<|sE ?_;intro a H
 refine k1 _ _ ?_;refine wp_seq_k fun K2 k2=>?_
 refine sS H fun K3 k3=>sf eB rfl<|sl S 1 aC G G G<|sf eB rfl<|sl S 0 aC G G G<|sr 1 G<|sE ?_;intro a H
 refine k3 _ ?_;refine condN H rfl (fun hc1=>?_) (fun hc1=>?_)
 ·skip
  replace H:=H.keep [2,3] rfl;refine sS H fun K4 k4=>sf eB rfl<|sl S 1 aC G G G<|sf eB rfl<|sl S 0 aC G G G<|sr 2 G<|sE ?_;intro a H
  refine k4 _ ?_;refine wp_ret ?_;refine ret1 (fn:=Tryz.f29) rfl H rfl ?_;refine ⟨?_,(S.sel [] G G)⟩;unfold befB;rw [if_pos hc1]
 refine wp_skip ?_;refine k2 _ _ ?_;refine wp_seq_k fun K5 k5=>?_
 replace H:=H.keep [2,3] rfl;refine sS H fun K6 k6=>sf eL rfl<|sl S 1 aC G G G<|sf eL rfl<|sl S 0 aC G G G<|sr 1 G<|sE ?_;intro a H
 refine k6 _ ?_;refine condN H rfl (fun hc2=>?_) (fun hc2=>?_)
 ·skip
  replace H:=H.keep [2,3] rfl;refine sS H fun K7 k7=>sf eL rfl<|sl S 1 aC G G G<|sf eL rfl<|sl S 0 aC G G G<|sr 2 G<|sE ?_;intro a H
  refine k7 _ ?_;refine wp_ret ?_;refine ret1 (fn:=Tryz.f29) rfl H rfl ?_;refine ⟨?_,(S.sel [] G G)⟩;unfold befB;rw [if_neg (fun h=>h (by omega)),if_pos hc2]
 refine wp_skip ?_;refine k5 _ _ ?_;replace H:=H.keep [2,3] rfl;refine sS H fun K8 k8=>sf gL rfl<|sl S 1 aC G G G<|sf gL rfl<|sl S 0 aC G G G<|sr 2 G<|sE ?_;intro a H
 refine k8 _ ?_;refine wp_ret ?_;refine ret1 (fn:=Tryz.f29) rfl H rfl ?_;refine ⟨?_,(S.sel [] G G)⟩;unfold befB;rw [if_neg (fun h=>h (by omega)),if_neg (fun h=>h (by omega))]
theorem Fm (y:Yr) (l:List Tsk) (LA:Option Addr) (lc:Nat) (w:World) (hy:YIn w noF y) (hyb:YBd y) (hl:InS w noF 3 LA l.length (aZ l)) (hln:l.length≤9223372036854775807) :
    Calls Tryz.prog 9 [.agg [.int .i64 y.days,.int .i64 y.pl,.slice y.PA y.ps.length y.pc,.slice y.XA y.xs.length y.xc,.slice y.BA y.pe.length y.bc,.int .i64 y.limit,.bool y.help,.slice y.QA y.prs.length y.qc,.slice y.VA y.us.length y.vc,.int .i64 y.crew,.slice y.SA y.sps.length y.sc].toArray,.slice LA l.length lc].toArray w (Ret (fun v w'=>v = .int .i64 (taskE y l)∧St w noF [] w')):=by
 have hn3:=hyb.usn
 refine enter Tryz.func9 rfl Tryz.ntmps9 rfl (fun a H=>?_)
 have S:=St.start w
 refine aA fun K1 k1=>?_
 refine aO H rfl S G G ?_;intro b2 _ a hb2 hbw2 S H
 refine ls 1 H<|sr 1 G<|sE ?_;intro a H
 refine k1 _ _ ?_;refine wp_seq_k fun K2 k2=>?_
 refine aA fun K3 k3=>?_
 refine ls 1 H<|sd ((aD bI bG rfl S (i:=0) G G))<|sE ?_;intro a H
 refine aB H G G Tryz.func27 G G (Lc y _ (hy.now S) hyb) ?_;clear H a
 rintro _ _ a ⟨rfl,S2⟩ H;replace S:=S.call S2;clear S2;refine ls 1 H<|sr 1 G<|sE ?_;intro a H
 refine k3 _ _ ?_;refine sS H fun K4 k4=>sr 2 G<|sE ?_;intro a H
 refine k4 _ ?_;refine condN H rfl (fun hc1=>?_) (fun hc1=>?_)
 ·skip
  refine sS H fun K5 k5=>sr 2 G<|sE ?_;intro a H
  refine k5 _ ?_;refine wp_ret ?_;refine ret1 (fn:=Tryz.f9) rfl H rfl ?_;exact ⟨congrArg _ (yA hc1).symm,(S.sel [] G G)⟩
 have hye:yearE y=0:=by omega
 have hyi:=(nN hye).yr
 unfold yrI at hyi
 refine wp_skip ?_;refine k2 _ _ ?_;refine wp_seq_k fun K6 k6=>?_
 replace H:=H.keep [1,2] rfl;refine sS H fun K7 k7=>sr 1 G<|sL bO rfl<|sr 1 G<|sE ?_;intro a H
 refine k7 _ ?_;refine condL H rfl (fun hc2=>?_) (fun hc2=>?_)
 ·skip
  refine sS H fun K8 k8=>sr 1 G<|sE ?_;intro a H
  refine k8 _ ?_;refine wp_ret ?_;refine ret1 (fn:=Tryz.f9) rfl H rfl ?_;rw [yB hye (by omega)];exact ⟨rfl,(S.sel [] G G)⟩
 refine wp_skip ?_;refine k6 _ _ ?_;refine wp_seq_k fun K9 k9=>?_
 refine sS H fun K10 k10=>sr 1 G<|sL bO rfl<|sr 1 G<|sE ?_;intro a H
 refine k10 _ ?_;refine wp_block ?_;refine loop_st (X:=Nat) (R0:=_) [1,2,16,17] H rfl (fun k=>[(18,.int .i64 (k:Int))]) (fun k=>[]) (fun g k=>k≤l.length∧g+k=l.length∧∀ q,q<k→tskB y l q=true) (l.length) 0 ?_ (S.sel [0] G G) (H.keep [18,1,2,16,17] rfl) ?_
 · exact ⟨by omega,by omega,fun q hq=>absurd hq (Nat.not_lt_zero q)⟩
 clear H S a;intro g1 x1 a w1 hp S H K11 k11;obtain ⟨k,rfl⟩:∃ y,y=x1:=⟨_,rfl⟩;refine sS H fun K12 k12=>sr 1 G<|sE ?_;intro a H
 refine k12 _ ?_;refine wp_seq_k fun K13 k13=>?_
 refine condL H rfl (fun hc3=>?_) (fun hc3=>?_)
 ·skip
  refine wp_skip ?_;refine k13 _ _ ?_;refine wp_seq_k fun K14 k14=>?_
  refine wp_block ?_;refine aA fun K15 k15=>?_
  refine ls 3 H<|sr 1 G<|si bO bK G G (hl.adr (by omega)) (by omega)<|sd ((aV jG bK rfl S hl (by omega) (by omega)))<|sE ?_;intro a H
  refine aM H rfl S fO ?_;intro b7 _ a hb7 hbw7 S H
  refine ls 1 H<|sr 1 G<|sE ?_;intro a H
  refine aI H S (i:=0) G G G G bK G G ?_
  clear H a S;intro _ a S H;refine k15 _ _ ?_;rcases chk5 (0≤(l.getD k aJl).day∧(l.getD k aJl).day≤y.days-1) (0≤(l.getD k aJl).unit∧(l.getD k aJl).unit≤(y.us.length:Int)-1) (1≤(l.getD k aJl).kind∧(l.getD k aJl).kind≤2) k with hB|hB|hB|hB|hB
  ·skip
   skip
   replace H:=H.keep [1,2,6,7,16,17,18] rfl;replace S:=S.drew;refine cQ [(0,true),(1,true),(2,true),(3,true),(4,true),(5,false),(6,true),(7,true),(8,true),(9,true),(10,true),(11,true),(12,true),(13,true),(14,true),(15,true),(16,true),(17,true),(18,true),(19,true),(20,true),(21,true),(22,true),(23,true),(24,true),(25,true),(26,true),(27,true),(28,true),(29,true),(30,true),(31,true),(32,true),(33,true),(34,true),(35,true),(36,true)] (by kernel_rfl) (by kernel_rfl) (S.sel [0,1] G G) fun K16 k16=>?_
   refine qF H<|qd G (fun _ S=>(aF eB rfl))<|qd G (fun _ S=>aE aC rfl (aIo S (i:=0) G G))<|qd G (fun _ S=>(aF dN rfl))<|qd G (fun _ S=>aE aC rfl (aIo S (i:=1) G G))<|qd G (fun _ S=>aS G G (by unfold i64ok;omega))<|qK ?_;intro a H
   refine bD rfl ?_
   refine aB H G G Tryz.func28 G G (cB _ _ _ _) ?_;clear H a
   rintro _ _ a ⟨rfl,rfl⟩ H;refine wpList_nil (And.intro (S.sel [0,1] rfl rfl) ?_);refine qF H<|qd G (fun _ S=>iL rfl (by omega))<|qr 1 G<|qK ?_;intro a H
   refine aP H G G G G G ?_;intro a H
   refine aP H G G G G G ?_;intro a H
   refine aP H G G G G G ?_;intro a H
   refine aP H G G G G G ?_;intro a H
   refine aP H G G G G G ?_;intro a H
   refine aP H G G G G G ?_;intro a H
   refine aP H G G G G G ?_;intro a H
   refine aP H G G G G G ?_;intro a H
   refine qF H<|qd G (fun _ S=>(bH G G G))<|qr 1 G<|qK ?_;intro a H
   refine aP H G G G G G ?_;intro a H
   refine aP H G G G G G ?_;intro a H
   refine aP H G G G G G ?_;intro a H
   refine aP H G G G G G ?_;intro a H
   refine qF H<|qd G (fun _ S=>(bH G G G))<|qr 1 G<|qK ?_;intro a H
   refine aP H G G G G G ?_;intro a H
   refine aP H G G G G G ?_;intro a H
   refine aP H G G G G G ?_;intro a H
   refine cI H G G G G ?_;intro a H
   refine cI H G G G G ?_;intro a H
   refine cI H G G G G ?_;intro a H
   refine cI H G G G G ?_;intro a H
   refine cI H G G G G ?_;intro a H
   refine cI H G G G G ?_;intro a H
   refine cI H G G G G ?_;intro a H
   refine cI H G G G G ?_;intro a H
   refine aP H G G G G G ?_;intro a H
   refine qF H<|qd G (fun _ S=>(bH G G G))<|qK ?_;intro a H
   refine bY ?_
   refine k16 _ _ ?_;refine aU H rfl (fun hc4=>?_) (fun hc4=>?_)
   ·skip
    skip
    replace H:=H.keep [] rfl;refine sS H fun K17 k17=>sr 1 G<|sE ?_;intro a H
    refine k17 _ ?_;refine wp_ret ?_;refine ret1 (fn:=Tryz.f9) rfl H rfl ?_;rw [iK hye (by omega) (show k<l.length by omega) (mT (by omega))];exact ⟨rfl,(S.sel [] G G)⟩
   skip
   cases hc4
  ·skip
   skip
   replace H:=H.keep [1,2,6,7,16,17,18] rfl;replace S:=S.drew;refine cQ [(0,true),(1,true),(2,true),(3,true),(4,true),(5,false),(6,true),(7,true),(8,true),(9,true),(10,true),(11,true),(12,true),(13,true),(14,false),(15,true),(16,true),(17,true),(18,true),(19,true),(20,true),(21,true),(22,true),(23,true),(24,true),(25,true),(26,true),(27,true),(28,true),(29,true),(30,true),(31,true),(32,true),(33,true),(34,true),(35,true),(36,true)] (by kernel_rfl) (by kernel_rfl) (S.sel [0,1] G G) fun K18 k18=>?_
   refine qF H<|qd G (fun _ S=>(aF eB rfl))<|qd G (fun _ S=>aE aC rfl (aIo S (i:=0) G G))<|qd G (fun _ S=>(aF dN rfl))<|qd G (fun _ S=>aE aC rfl (aIo S (i:=1) G G))<|qd G (fun _ S=>aS G G (by unfold i64ok;omega))<|qK ?_;intro a H
   refine bD rfl ?_
   refine aB H G G Tryz.func28 G G (cB _ _ _ _) ?_;clear H a
   rintro _ _ a ⟨rfl,rfl⟩ H;refine wpList_nil (And.intro (S.sel [0,1] rfl rfl) ?_);refine qF H<|qd G (fun _ S=>cK rfl (by omega))<|qr 1 G<|qK ?_;intro a H
   refine aL H G G G G (fun _ S=>(aF eL rfl)) ?_;intro a H
   refine aL H G G G G (fun _ S=>aE aC rfl (aIo S (i:=0) G G)) ?_;intro a H
   refine aL H G G G G (fun _ S=>(aF cO rfl)) ?_;intro a H
   refine aL H G G G G (fun _ S=>aE dR rfl (aIo S (i:=1) G G)) ?_;intro a H
   refine aL H G G G G (fun _ S=>dF cX rfl) ?_;intro a H
   refine aL H G G G G (fun _ S=>aS G G (by unfold i64ok;omega)) ?_;intro a H
   refine bD rfl ?_
   refine cD H G G ?_
   refine aB H G G Tryz.func28 G G (cB _ _ _ _) ?_;clear H a
   rintro _ _ a ⟨rfl,rfl⟩ H;refine wpList_nil (And.intro (S.sel [0,1] rfl rfl) ?_);refine aL H rfl rfl rfl rfl (fun _ S=>iL rfl (by omega)) ?_;intro a H;refine qF H<|qd G (fun _ S=>(dU rfl rfl rfl))<|qr 1 G<|qK ?_;intro a H
   refine aP H G G G G G ?_;intro a H
   refine aP H G G G G G ?_;intro a H
   refine aP H G G G G G ?_;intro a H
   refine aP H G G G G G ?_;intro a H
   refine qF H<|qd G (fun _ S=>(bH G G G))<|qr 1 G<|qK ?_;intro a H
   refine aP H G G G G G ?_;intro a H
   refine aP H G G G G G ?_;intro a H
   refine aP H G G G G G ?_;intro a H
   refine cI H G G G G ?_;intro a H
   refine cI H G G G G ?_;intro a H
   refine cI H G G G G ?_;intro a H
   refine cI H G G G G ?_;intro a H
   refine cI H G G G G ?_;intro a H
   refine cI H G G G G ?_;intro a H
   refine cI H G G G G ?_;intro a H
   refine cI H G G G G ?_;intro a H
   refine aP H G G G G G ?_;intro a H
   refine qF H<|qd G (fun _ S=>(bH G G G))<|qK ?_;intro a H
   refine bY ?_
   refine k18 _ _ ?_;refine aU H rfl (fun hc5=>?_) (fun hc5=>?_)
   ·skip
    skip
    replace H:=H.keep [] rfl;refine sS H fun K19 k19=>sr 1 G<|sE ?_;intro a H
    refine k19 _ ?_;refine wp_ret ?_;refine ret1 (fn:=Tryz.f9) rfl H rfl ?_;rw [iK hye (by omega) (show k<l.length by omega) (mT (by omega))];exact ⟨rfl,(S.sel [] G G)⟩
   skip
   cases hc5
  ·skip
   skip
   replace H:=H.keep [1,2,6,7,16,17,18] rfl;replace S:=S.drew;refine cQ [(0,true),(1,true),(2,true),(3,true),(4,true),(5,false),(6,true),(7,true),(8,true),(9,true),(10,true),(11,true),(12,true),(13,true),(14,false),(15,true),(16,true),(17,true),(18,true),(19,true),(20,false),(21,true),(22,true),(23,true),(24,true),(25,true),(26,true),(27,true),(28,true),(29,true),(30,true),(31,true),(32,true),(33,true),(34,true),(35,true),(36,true)] (by kernel_rfl) (by kernel_rfl) (S.sel [0,1] G G) fun K20 k20=>?_
   refine qF H<|qd G (fun _ S=>(aF eB rfl))<|qd G (fun _ S=>aE aC rfl (aIo S (i:=0) G G))<|qd G (fun _ S=>(aF dN rfl))<|qd G (fun _ S=>aE aC rfl (aIo S (i:=1) G G))<|qd G (fun _ S=>aS G G (by unfold i64ok;omega))<|qK ?_;intro a H
   refine bD rfl ?_
   refine aB H G G Tryz.func28 G G (cB _ _ _ _) ?_;clear H a
   rintro _ _ a ⟨rfl,rfl⟩ H;refine wpList_nil (And.intro (S.sel [0,1] rfl rfl) ?_);refine qF H<|qd G (fun _ S=>cK rfl (by omega))<|qr 1 G<|qK ?_;intro a H
   refine aL H G G G G (fun _ S=>(aF eL rfl)) ?_;intro a H
   refine aL H G G G G (fun _ S=>aE aC rfl (aIo S (i:=0) G G)) ?_;intro a H
   refine aL H G G G G (fun _ S=>(aF cO rfl)) ?_;intro a H
   refine aL H G G G G (fun _ S=>aE dR rfl (aIo S (i:=1) G G)) ?_;intro a H
   refine aL H G G G G (fun _ S=>dF cX rfl) ?_;intro a H
   refine aL H G G G G (fun _ S=>aS G G (by unfold i64ok;omega)) ?_;intro a H
   refine bD rfl ?_
   refine cD H G G ?_
   refine aB H G G Tryz.func28 G G (cB _ _ _ _) ?_;clear H a
   rintro _ _ a ⟨rfl,rfl⟩ H;refine wpList_nil (And.intro (S.sel [0,1] rfl rfl) ?_);refine aL H rfl rfl rfl rfl (fun _ S=>cK rfl (by omega)) ?_;intro a H;refine qF H<|qd G (fun _ S=>(dU rfl rfl rfl))<|qr 1 G<|qK ?_;intro a H
   refine aL H G G G G (fun _ S=>(aF gL rfl)) ?_;intro a H
   refine aL H G G G G (fun _ S=>aE aC rfl (aIo S (i:=0) G G)) ?_;intro a H
   refine bD rfl ?_
   refine cD H G G ?_
   refine aB H G G Tryz.func28 G G (cB _ _ _ _) ?_;clear H a
   rintro _ _ a ⟨rfl,rfl⟩ H;refine wpList_nil (And.intro (S.sel [0,1] rfl rfl) ?_);refine aL H rfl rfl rfl rfl (fun _ S=>iL rfl (by omega)) ?_;intro a H;refine qF H<|qd G (fun _ S=>(dU rfl rfl rfl))<|qr 1 G<|qK ?_;intro a H
   refine aP H G G G G G ?_;intro a H
   refine aP H G G G G G ?_;intro a H
   refine aP H G G G G G ?_;intro a H
   refine cI H G G G G ?_;intro a H
   refine cI H G G G G ?_;intro a H
   refine cI H G G G G ?_;intro a H
   refine cI H G G G G ?_;intro a H
   refine cI H G G G G ?_;intro a H
   refine cI H G G G G ?_;intro a H
   refine cI H G G G G ?_;intro a H
   refine cI H G G G G ?_;intro a H
   refine aP H G G G G G ?_;intro a H
   refine qF H<|qd G (fun _ S=>(bH G G G))<|qK ?_;intro a H
   refine bY ?_
   refine k20 _ _ ?_;refine aU H rfl (fun hc6=>?_) (fun hc6=>?_)
   ·skip
    skip
    replace H:=H.keep [] rfl;refine sS H fun K21 k21=>sr 1 G<|sE ?_;intro a H
    refine k21 _ ?_;refine wp_ret ?_;refine ret1 (fn:=Tryz.f9) rfl H rfl ?_;rw [iK hye (by omega) (show k<l.length by omega) (mT (by omega))];exact ⟨rfl,(S.sel [] G G)⟩
   skip
   cases hc6
  ·skip
   skip
   replace H:=H.keep [1,2,6,7,16,17,18] rfl;replace S:=S.drew;refine cQ [(0,true),(1,true),(2,true),(3,true),(4,true),(5,false),(6,true),(7,true),(8,true),(9,true),(10,true),(11,true),(12,true),(13,true),(14,false),(15,true),(16,true),(17,true),(18,true),(19,true),(20,false),(21,true),(22,true),(23,true),(24,true),(25,true),(26,true),(27,true),(28,true),(29,true),(30,true),(31,true),(32,true),(33,true),(34,true),(35,true),(36,true)] (by kernel_rfl) (by kernel_rfl) (S.sel [0,1] G G) fun K22 k22=>?_
   refine qF H<|qd G (fun _ S=>(aF eB rfl))<|qd G (fun _ S=>aE aC rfl (aIo S (i:=0) G G))<|qd G (fun _ S=>(aF dN rfl))<|qd G (fun _ S=>aE aC rfl (aIo S (i:=1) G G))<|qd G (fun _ S=>aS G G (by unfold i64ok;omega))<|qK ?_;intro a H
   refine bD rfl ?_
   refine aB H G G Tryz.func28 G G (cB _ _ _ _) ?_;clear H a
   rintro _ _ a ⟨rfl,rfl⟩ H;refine wpList_nil (And.intro (S.sel [0,1] rfl rfl) ?_);refine qF H<|qd G (fun _ S=>cK rfl (by omega))<|qr 1 G<|qK ?_;intro a H
   refine aL H G G G G (fun _ S=>(aF eL rfl)) ?_;intro a H
   refine aL H G G G G (fun _ S=>aE aC rfl (aIo S (i:=0) G G)) ?_;intro a H
   refine aL H G G G G (fun _ S=>(aF cO rfl)) ?_;intro a H
   refine aL H G G G G (fun _ S=>aE dR rfl (aIo S (i:=1) G G)) ?_;intro a H
   refine aL H G G G G (fun _ S=>dF cX rfl) ?_;intro a H
   refine aL H G G G G (fun _ S=>aS G G (by unfold i64ok;omega)) ?_;intro a H
   refine bD rfl ?_
   refine cD H G G ?_
   refine aB H G G Tryz.func28 G G (cB _ _ _ _) ?_;clear H a
   rintro _ _ a ⟨rfl,rfl⟩ H;refine wpList_nil (And.intro (S.sel [0,1] rfl rfl) ?_);refine aL H rfl rfl rfl rfl (fun _ S=>cK rfl (by omega)) ?_;intro a H;refine qF H<|qd G (fun _ S=>(dU rfl rfl rfl))<|qr 1 G<|qK ?_;intro a H
   refine aL H G G G G (fun _ S=>(aF gL rfl)) ?_;intro a H
   refine aL H G G G G (fun _ S=>aE aC rfl (aIo S (i:=0) G G)) ?_;intro a H
   refine bD rfl ?_
   refine cD H G G ?_
   refine aB H G G Tryz.func28 G G (cB _ _ _ _) ?_;clear H a
   rintro _ _ a ⟨rfl,rfl⟩ H;refine wpList_nil (And.intro (S.sel [0,1] rfl rfl) ?_);refine aL H rfl rfl rfl rfl (fun _ S=>cK rfl (by omega)) ?_;intro a H;refine qF H<|qd G (fun _ S=>(dU rfl rfl rfl))<|qr 1 G<|qK ?_;intro a H
   refine aL H G G G G (fun _ S=>aJ rfl) ?_;intro a H
   refine aL H G G G G (fun _ S=>tB G G (by omega)) ?_;intro a H
   refine aL H G G G G (fun _ S=>aJ rfl) ?_;intro a H
   refine aP H G G G G G ?_;intro a H
   refine aP H G G G G G ?_;intro a H
   refine aP H G G G G G ?_;intro a H
   refine aP H G G G G G ?_;intro a H
   refine aP H G G G G G ?_;intro a H
   refine aP H G G G G G ?_;intro a H
   refine aP H G G G G G ?_;intro a H
   refine aP H G G G G G ?_;intro a H
   refine aL H G G G G (fun _ S=>(bH G G G)) ?_;intro a H
   refine qF H<|qd G (fun _ S=>(dU G G G))<|qK ?_;intro a H
   refine bY ?_
   refine k22 _ _ ?_;refine aU H rfl (fun hc7=>?_) (fun hc7=>?_)
   ·skip
    skip
    cases hc7
   skip
   refine wp_skip ?_;refine k14 _ _ ?_;replace H:=H.keep [1,2,16,17,18] rfl;refine sO H<|sd (aH G G (by unfold i64ok;omega))<|sr 1 G<|sE ?_;intro a H
   exact k11 (g1-1) (k+1) a _ (by omega) (by first|exact ⟨by omega,by omega,gH (f:=tskB y l) hp.2.2 (pQ hB)⟩|exact ⟨by omega,by omega,gH (f:=tskB y l) hp.2.2 (pR hB hc8)⟩) (S.sel [1] G G) (H.keep [18,1,2,16,17] rfl)
  skip
  replace H:=H.keep [1,2,6,7,16,17,18] rfl;replace S:=S.drew;refine cQ [(0,true),(1,true),(2,true),(3,true),(4,true),(5,false),(6,true),(7,true),(8,true),(9,true),(10,true),(11,true),(12,true),(13,true),(14,false),(15,true),(16,true),(17,true),(18,true),(19,true),(20,false),(21,true),(22,true),(23,true),(24,true),(25,true),(26,true),(27,true),(28,true),(29,true),(30,true),(31,true),(32,true),(33,false),(34,true),(35,true),(36,true)] (by kernel_rfl) (by kernel_rfl) (S.sel [0,1] G G) fun K24 k24=>?_
  refine qF H<|qd G (fun _ S=>(aF eB rfl))<|qd G (fun _ S=>aE aC rfl (aIo S (i:=0) G G))<|qd G (fun _ S=>(aF dN rfl))<|qd G (fun _ S=>aE aC rfl (aIo S (i:=1) G G))<|qd G (fun _ S=>aS G G (by unfold i64ok;omega))<|qK ?_;intro a H
  refine bD rfl ?_
  refine aB H G G Tryz.func28 G G (cB _ _ _ _) ?_;clear H a
  rintro _ _ a ⟨rfl,rfl⟩ H;refine wpList_nil (And.intro (S.sel [0,1] rfl rfl) ?_);refine qF H<|qd G (fun _ S=>cK rfl (by omega))<|qr 1 G<|qK ?_;intro a H
  refine aL H G G G G (fun _ S=>(aF eL rfl)) ?_;intro a H
  refine aL H G G G G (fun _ S=>aE aC rfl (aIo S (i:=0) G G)) ?_;intro a H
  refine aL H G G G G (fun _ S=>(aF cO rfl)) ?_;intro a H
  refine aL H G G G G (fun _ S=>aE dR rfl (aIo S (i:=1) G G)) ?_;intro a H
  refine aL H G G G G (fun _ S=>dF cX rfl) ?_;intro a H
  refine aL H G G G G (fun _ S=>aS G G (by unfold i64ok;omega)) ?_;intro a H
  refine bD rfl ?_
  refine cD H G G ?_
  refine aB H G G Tryz.func28 G G (cB _ _ _ _) ?_;clear H a
  rintro _ _ a ⟨rfl,rfl⟩ H;refine wpList_nil (And.intro (S.sel [0,1] rfl rfl) ?_);refine aL H rfl rfl rfl rfl (fun _ S=>cK rfl (by omega)) ?_;intro a H;refine qF H<|qd G (fun _ S=>(dU rfl rfl rfl))<|qr 1 G<|qK ?_;intro a H
  refine aL H G G G G (fun _ S=>(aF gL rfl)) ?_;intro a H
  refine aL H G G G G (fun _ S=>aE aC rfl (aIo S (i:=0) G G)) ?_;intro a H
  refine bD rfl ?_
  refine cD H G G ?_
  refine aB H G G Tryz.func28 G G (cB _ _ _ _) ?_;clear H a
  rintro _ _ a ⟨rfl,rfl⟩ H;refine wpList_nil (And.intro (S.sel [0,1] rfl rfl) ?_);refine aL H rfl rfl rfl rfl (fun _ S=>cK rfl (by omega)) ?_;intro a H;refine qF H<|qd G (fun _ S=>(dU rfl rfl rfl))<|qr 1 G<|qK ?_;intro a H
  refine aL H G G G G (fun _ S=>aJ rfl) ?_;intro a H
  refine aL H G G G G (fun _ S=>sZ G G (by omega)) ?_;intro a H
  refine aL H G G G G (fun _ S=>aJ rfl) ?_;intro a H
  refine aL H G G G G (fun _ S=>aJ rfl) ?_;intro a H
  refine aL H G G G G (fun _ S=>aJ rfl) ?_;intro a H
  refine aL H G G G G (fun _ S=>aS G G (by unfold i64ok;omega)) ?_;intro a H
  refine aL H G G G G (fun _ S=>bU bO bK G G (hl.adr (by omega)) (by omega) (by omega)) ?_;intro a H
  refine aL H G G G G (fun _ S=>(aV jG bK rfl S hl (by omega) (by omega))) ?_;intro a H
  refine aL H G G G G (fun _ S=>(aD jG bK rfl S (i:=0) G G)) ?_;intro a H
  refine bD rfl ?_
  refine cD H G G ?_
  refine aB H G G Tryz.func29 G G (Ai (l.getD ((k:Int)-1).toNat aJl) (l.getD k aJl) _) ?_;clear H a
  rintro _ _ a ⟨rfl,S2⟩ H;replace S:=S.call S2;clear S2;refine wpList_nil (And.intro (S.sel [0,1] rfl rfl) ?_);refine aL H rfl rfl rfl rfl (fun _ S=>kO rfl) ?_;intro a H;refine aL H rfl rfl rfl rfl (fun _ S=>(fZ rfl rfl rfl)) ?_;intro a H;refine qF H<|qd G (fun _ S=>(dU rfl rfl rfl))<|qK ?_;intro a H
  refine bY ?_
  refine k24 _ _ ?_;refine aU H rfl (fun hc8=>?_) (fun hc8=>?_)
  ·skip
   try simp only [oz] at hc8
   replace hc8:befB (l.getD ((k:Int)-1).toNat aJl) (l.getD k aJl)=false:=by simpa using hc8
   replace H:=H.keep [] rfl;refine sS H fun K25 k25=>sr 1 G<|sE ?_;intro a H
   refine k25 _ ?_;refine wp_ret ?_;refine ret1 (fn:=Tryz.f9) rfl H rfl ?_;rw [iK hye (by omega) (show k<l.length by omega) (Fk hB hc8)];exact ⟨rfl,(S.sel [] G G)⟩
  try simp only [oz] at hc8
  replace hc8:befB (l.getD ((k:Int)-1).toNat aJl) (l.getD k aJl)=true:=by simpa using hc8
  refine wp_skip ?_;refine k14 _ _ ?_;refine sO H<|sd (aH G G (by unfold i64ok;omega))<|sr 1 G<|sE ?_;intro a H
  exact k11 (g1-1) (k+1) a _ (by omega) (by first|exact ⟨by omega,by omega,gH (f:=tskB y l) hp.2.2 (pQ hB)⟩|exact ⟨by omega,by omega,gH (f:=tskB y l) hp.2.2 (pR hB hc8)⟩) (S.sel [1] G G) (H.keep [18,1,2,16,17] rfl)
 refine wp_exit ?_;refine k9 _ _ ?_;refine sS H fun K27 k27=>sr 1 G<|sE ?_;intro a H
 refine k27 _ ?_;refine wp_ret ?_;refine ret1 (fn:=Tryz.f9) rfl H rfl ?_;rw [mP hye (by omega) (bS.2 fun q hq=>hp.2.2 q (by omega))];exact ⟨rfl,(S.sel [] G G)⟩
end
section
theorem six {p:Nat→Prop} (h0:p 0) (h1:p 1) (h2:p 2) (h3:p 3) (h4:p 4) (h5:p 5):∀ j,j<6→p j:=by
 intro j hj;match j,hj with
 | 0,_=>exact h0
 | 1,_=>exact h1
 | 2,_=>exact h2
 | 3,_=>exact h3
 | 4,_=>exact h4
 | 5,_=>exact h5
theorem qZ {l:List Use} {x:Use} {vs:List Value} (h:∀ j,j<6→vs.getD j undef=x.cell j):∀ q j,q<l.length+1→j<6→capp l.length (ucell l) (fun k' j=>([vs].getD k' []).getD j undef) q j=ucell (l++[x]) q j:=by
  intro q j hq hj;unfold capp ucell;by_cases h1:q<l.length
  · rw [if_pos h1,List.getD_eq_getElem?_getD,List.getD_eq_getElem?_getD,List.getElem?_append_left h1]
  · rw [if_neg h1]
    have e:q=l.length:=by omega
    subst e;rw [Nat.sub_self,List.getD_eq_getElem?_getD (l:=l++[x]),List.getElem?_append_right (Nat.le_refl _),Nat.sub_self];exact h j hj
theorem aAs {w:World} {p:Part} {l:List Use} {v:Value} {w':World} (h:v = .tuple #[.int .i64 (bM p l Prod.snd).1,.int .i64 (bM p l Prod.snd).2]∧St w noF [] w'):∃ n e:Int,v = .tuple #[.int .i64 n,.int .i64 e]∧bydB p l=(!decide (e=0)||decide (0≤n))∧St w noF [] w':=⟨_,_,h.1,rfl,h.2⟩
theorem Uu {w:World} {F:Nat→Prop} {sz n:Nat} {A:Option Addr} {cell:Nat→Nat→Value} (h:InS w F sz A n cell):A=none→n=0∧n=0:=fun e=>by
  rcases Nat.eq_zero_or_pos n with h0|h0
  · exact ⟨h0,h0⟩
  · obtain ⟨b,o,h1,_⟩:=h h0
    rw [e] at h1;cases h1
theorem Of (u:Unt) (l:List Use) (LA:Option Addr) (lc:Nat) (age:Int) (w:World) (hur:InS w noF 2 u.RA u.rates.length (scell u.rates)) (hurn:u.rates.length≤9223372036854775807) (huu:InS w noF 6 u.UA u.uses.length (ucell u.uses)) (huun:u.uses.length≤9223372036854775807) (hl:InS w noF 6 LA l.length (ucell l)) (hln:l.length≤1000000) (hlc:l.length≤lc) :
    Calls Tryz.prog 83 [.agg [.int .i64 u.mach,.int .i64 u.every,.int .i64 u.seen,.slice u.RA u.rates.length u.rc,.int .i64 u.worn,.int .i64 u.turns,.int .i64 u.age,.slice u.UA u.uses.length u.uc,.int .i64 u.old,.int .i64 u.tn,.int .i64 u.cl,.int .i64 u.kind].toArray,.slice LA l.length lc,.int .i64 age].toArray w (Ret (fun v w'=>v = .bool (bydB u.part (l++[⟨age,u.tn,u.cl,false,0,0⟩]))∧St w noF [] w')):=by
 refine enter Tryz.func83 rfl Tryz.ntmps83 rfl (fun a H=>?_)
 have S:=St.start w
 refine aA fun K1 k1=>?_
 refine aO H rfl S G G ?_;intro b3 _ a hb3 hbw3 S H
 refine ls 1 H<|sr 1 G<|sE ?_;intro a H
 refine k1 _ _ ?_;replace H:=H.keep [1,2,3] rfl;refine aA fun K2 k2=>?_
 refine ls 6 H<|sr 1 G<|sf rN rfl<|sl S 0 aC G G G<|sf rO rfl<|sl S 0 aC G G G<|sd (aN Hc G G)<|sE ?_;intro a H
 refine aM H rfl S gJ ?_;intro b7 _ a hb7 hbw7 S H
 refine aI H S (i:=0) G G G G bZ G G ?_
 clear H a S;intro _ a S H;refine k2 _ _ ?_;replace H:=H.keep [1,3,7] rfl;replace S:=S.drew;refine lQ 999999 (.q 0 (.q 1 (.q 2 (.q 3 (.q 4 (.q 5 (.q 6 (.q 7 (.q 8 (.e 9 (.e 10 (.e 11 (.q 12 (.q 13 (.q 14 (.q 15 (.q 16 .nil))))))))))))))))) (by kernel_rfl) (by kernel_rfl) (S.sel [0,1] G G) fun K3 k3=>?_
 refine aG H G G (fun _ S=>(aF kH rfl)) ?_;intro a H
 refine aG H G G (fun _ S=>(aD dJ eE rfl S (i:=1) G G)) ?_;intro a H
 refine aG H G G (fun _ S=>aJ rfl) ?_;intro a H
 refine aG H G G (fun _ S=>aJ rfl) ?_;intro a H
 refine aG H G G (fun _ S=>dF cJ rfl) ?_;intro a H
 refine aG H G G (fun _ S=>aJ rfl) ?_;intro a H
 refine aG H G G (fun _ S=>dF cJ rfl) ?_;intro a H
 refine aG H G G (fun _ S=>uM cJ bZ G G G hlc) ?_;intro a H
 refine aG H G G (fun _ S=>(aD jR bZ rfl S (i:=0) G G)) ?_;intro a H
 refine bA rfl ?_
 refine aK H rfl S cJ bZ gJ G G G G G G G G G ?_;intro A1 _ a hA1 S H
 refine wpList_nil (And.intro (Or.inr (S.sel [1,2] rfl rfl)) ?_);refine bA rfl ?_;refine sK H rfl S cJ bZ gJ qL rfl rfl rfl rfl (n:=l.length) (cell:=ucell l) (cell':=_) (hl.now S) (Uu (hl.now S)) (by omega) (by omega) (aIr S (i:=0) rfl) (lV (six rfl rfl rfl rfl rfl rfl)) (by omega) (by omega) ?_;intro A2 c2 _ a S H;replace S:=S.recell (i:=0) rfl (cell':=ucell (l++[⟨age,u.tn,u.cl,false,0,0⟩])) (qZ (x:=⟨age,u.tn,u.cl,false,0,0⟩) (six rfl rfl rfl rfl rfl rfl));refine wpList_nil (And.intro (Or.inr (S.sel [2,3] rfl rfl)) ?_);refine bA rfl ?_;rw [show l.length+1=(l++[(⟨age,u.tn,u.cl,false,0,0⟩:Use)]).length by simp] at H S;have hcl9:=eD (Bv u.rates u.worn u.turns u.age u.RA u.rc (l++[⟨age,u.tn,u.cl,false,0,0⟩]) A2 c2 _ (hur.now S) hurn ((aIr S (i:=0) rfl)) (by simp;omega)) (fun _ _ h=>aAs h);refine aB H rfl rfl Tryz.func101 rfl rfl hcl9 ?_;clear H a hcl9;rintro _ _ a ⟨n9,e9,rfl,hb9,S2⟩ H;replace S:=S.call S2;clear S2;refine wpList_nil (And.intro (Or.inr (S.sel [2,3] rfl rfl)) ?_);refine aG H rfl rfl (fun _ S=>aJ rfl) ?_;intro a H;refine aG H rfl rfl (fun _ S=>bN rfl rfl) ?_;intro a H;refine aG H rfl rfl (fun _ S=>bN rfl rfl) ?_;intro a H;refine aG H rfl rfl (fun _ S=>cF rfl) ?_;intro a H;refine aG H rfl rfl (fun _ S=>cF rfl) ?_;intro a H;refine dI ?_;refine k3 _ _ ?_;replace H:=H.keep [8,9] rfl;refine sS H fun K4 k4=>sr 3 G<|sg 2 2 33 35 false rfl rfl (fun hg3=>sy hg3<|sr 1 G<|sy hg3<|sr 1 G<|sz 2 rfl rfl rfl)<|so rfl rfl rfl<|sr 1 G<|sE ?_;intro a H
 refine k4 _ ?_;refine wp_ret ?_;refine ret1 (fn:=Tryz.f83) rfl H rfl ?_;exact ⟨congrArg Value.bool hb9.symm,(S.sel [] G G)⟩
theorem aAt (u:Unt) (J:Nat→Int) (dy:Nat) (w:World) (hur:InS w noF 2 u.RA u.rates.length (scell u.rates)) (hurn:u.rates.length≤9223372036854775807) (huu:InS w noF 6 u.UA u.uses.length (ucell u.uses)) (huun:u.uses.length≤9223372036854775807) (hucp:u.uses.length≤u.uc) (hui:untI u) (ho0:0≤u.old) (hJ:∀ d,0≤J d∧J d≤6) (hdy:dy≤20) :
    Calls Tryz.prog 68 [.agg [.int .i64 u.mach,.int .i64 u.every,.int .i64 u.seen,.slice u.RA u.rates.length u.rc,.int .i64 u.worn,.int .i64 u.turns,.int .i64 u.age,.slice u.UA u.uses.length u.uc,.int .i64 u.old,.int .i64 u.tn,.int .i64 u.cl,.int .i64 u.kind].toArray,.agg ((List.range 20).map fun k=>Value.int .i64 (J k)).toArray,.int .i64 (dy:Int)].toArray w (Ret (fun v w'=>v = .agg [.int .i64 (bsum (runB' u J) dy),.int .i64 (bsum (certB u J) dy)].toArray∧St w noF [] w')):=by
 have hmx:maxLen=9223372036854775807:=rfl
 unfold untI at hui
 refine enter Tryz.func68 rfl Tryz.ntmps68 rfl (fun a H=>?_)
 have S:=St.start w
 refine aA fun K1 k1=>?_
 refine aO H rfl S G G ?_;intro b3 _ a hb3 hbw3 S H
 refine aO H rfl S G G ?_;intro b4 _ a hb4 hbw4 S H
 refine aM H rfl S zH ?_;intro b6 _ a hb6 hbw6 S H
 refine k1 _ _ ?_;replace S:=aAe S (i:=1) rfl (by omega);refine aA fun K2 k2=>?_
 refine aM H rfl S zH ?_;intro b7 _ a hb7 hbw7 S H
 refine k2 _ _ ?_;replace H:=H.keep [2,3,4,6,7] rfl;replace S:=S.drew;refine sD H fun K3 k3=>sf gM rfl<|sl S 3 jH G G G<|sf rM rfl<|sl S 3 aC G G G<|sd (Cv rfl (by unfold i64ok;omega))<|sf rL rfl<|sl S 3 aC G G G<|sr 3 G<|sE ?_;intro a H
 refine k3 _ ?_;refine wp_seq_k fun K4 k4=>?_
 replace H:=H.keep [2,3,4,6,7,8,9,10] rfl;refine sS H fun K5 k5=>sr 2 G<|sE ?_;intro a H
 refine k5 _ ?_;refine wp_block ?_;replace S:=S.frz0;refine loop_st (X:=Nat×LSt×Option Addr×Nat×(Nat→Prop)×World) (R0:=_) [3,4,6,7,21] H rfl (fun ⟨d,st,A9,c9,B9,wz⟩=>[(8,.slice A9 st.uses.length c9),(9,.int .i64 st.born),(10,.int .i64 st.seen),(22,.int .i64 (d:Int))]) (fun ⟨d,st,A9,c9,B9,wz⟩=>[boxM b7 96 [.int .i64 (bsum (runB' u J) d),.int .i64 (bsum (certB u J) d)],frzM B9 wz]) (fun g ⟨d,st,A9,c9,B9,wz⟩=>(d≤dy∧g+d=dy)∧(RdF w noF B9 wz 6 A9 st.uses.length (ucell st.uses)∧st.uses.length≤c9)∧st=lifeS u J d) (dy) (0,lifeS u J 0,u.UA,u.uc,noF,_) ?_ (S.sel [1,0,2,3,4] G G) (H.keep [8,9,10,22,3,4,6,7,21] rfl) ?_
 · exact ⟨⟨by omega,by omega⟩,⟨RdF.base huu,hucp⟩,rfl⟩
 clear H S a;intro g1 x1 a w1 hp S H K6 k6;obtain ⟨d,st,A9,c9,B9,wz⟩:=x1;dsimp only at hp S H;obtain ⟨⟨hdl,hgd⟩,⟨hrd,hcap⟩,hst9⟩:=hp;subst hst9;have hln:=Aa (u:=u) (J:=J) d;have hbo:=yG (u:=u) (J:=J) (by omega) d;have hsn:=Ij (u:=u) (J:=J) (by omega) d;skip;refine sS H fun K7 k7=>sr 1 G<|sE ?_;intro a H
 refine k7 _ ?_;refine wp_seq_k fun K8 k8=>?_
 refine condL H rfl (fun hc1=>?_) (fun hc1=>?_)
 ·skip
  refine wp_skip ?_;refine k8 _ _ ?_;refine wp_seq_k fun K9 k9=>?_
  refine wp_block ?_;refine sS H fun K10 k10=>sr 2 G<|sE ?_;intro a H
  refine k10 _ ?_;have hJd:=hJ d;replace H:=H.keep [3,4,6,7,8,9,10,11,21,22] rfl;replace S:=S.drew;refine sD H fun K11 k11=>sr 1 G<|sd (dS Tryz.underlying123 aY G G (by omega) (by omega))<|slm aC rfl (aIq S (i:=3) (k:=d) (j:=0) rfl (by omega) (by omega))<|sd (lZ G G (by omega) (by omega))<|sd (kK G G)<|sr 2 G<|sd (dS Tryz.underlying123 aY G G (by omega) (by omega))<|slm aC rfl (aIq S (i:=3) (k:=d) (j:=0) rfl (by omega) (by omega))<|sd (lZ G G (by omega) (by omega))<|sd (kK G G)<|sr 3 G<|sE ?_;intro a H
  refine k11 _ ?_;have SR:=(S.sel [0,1,2,3,4] G G);refine eZ (X:=Int) [3,4,6,7,8,9,11,13,21,22] H rfl (fun x=>[(10,.int .i64 x)]) (fun x=>[]) (fun x=>x=seenN (lifeS u J d) (J d) d) SR (fun K13 k13=>?_) ?_
  ·skip
   replace H:=H.keep [3,4,6,7,8,9,10,11,12,13,21,22] rfl;refine sS H fun K14 k14=>sr 1 G<|sE ?_;intro a H
   refine k14 _ ?_;refine condE H rfl (fun hc2=>?_) (fun hc2=>?_)
   ·skip
    refine sO H<|sr 2 G<|sE ?_;intro a H
    exact k13 _ a _ ((if_pos (show insp (J d)=true from decide_eq_true hc2)).symm) (S.sel [0,1,2,3,4] G G) (H.keep [10,3,4,6,7,8,9,11,13,21,22] rfl)
   refine wp_skip ?_;exact k13 _ a _ ((if_neg (show ¬ insp (J d)=true from fun h=>hc2 (of_decide_eq_true h))).symm) (S.sel [0,1,2,3,4] G G) (H.keep [10,3,4,6,7,8,9,11,13,21,22] rfl)
  clear SR H S a;intro xm a wm hp S H;obtain ⟨x,rfl⟩:∃ y,y=xm:=⟨_,rfl⟩;have hx9:=hp;have hxb:=Fb (s:=(lifeS u J d)) (j:=J d) (d:=d) hsn;rw [←hx9] at hxb;have SR:=(S.sel [1,2,3,4] rfl rfl);refine eZ (X:=Unit) [3,4,6,7,8,9,10,11,13,21,22] H rfl (fun u3=>[]) (fun u3=>[boxM b7 96 [.int .i64 (bsum (runB' u J) d),.int .i64 (bsum (certB u J) (d+1))]]) (fun u3=>True) SR (fun K17 k17=>?_) ?_
  ·skip
   refine sS H fun K18 k18=>sr 2 G<|sd (aS G G (by unfold i64ok;omega))<|sf pG rfl<|sl S 4 aC G G G<|sr 1 G<|sE ?_;intro a H
   refine k18 _ ?_;refine condG H rfl (fun hc3=>?_) (fun hc3=>?_)
   ·skip
    replace H:=H.keep [3,4,6,7,8,9,10,11,13,21,22] rfl;refine iO 6 (by kernel_rfl) (by kernel_rfl) ?_;replace S:=S.drew;refine sF H<|sf Jq rfl<|sl S 0 aC G G G<|sr 1 G<|sd (nV G G (by omega) (by omega) (Ii (by omega)))<|sd (yF G G (zZ _ (by omega)) (by omega) (La (Nat.le_refl d)))<|sf Jq rfl<|sE ?_;intro a H
    refine aI H S (i:=0) G G G G aY G G ?_
    clear H a S;intro _ a S H;replace S:=aIs S (i:=0) rfl (cs':=[.int .i64 (bsum (runB' u J) d),.int .i64 (bsum (certB u J) (d+1))]) (by rw [←Tz (f:=certB u J) (n:=d) ((Fd u J d x hx9).symm.trans (decide_eq_true hc3))] <;> rfl);exact k17 () a _ (trivial) (S.sel [0,1,2,3,4] G G) (H.keep [3,4,6,7,8,9,10,11,13,21,22] rfl)
   refine wp_skip ?_;replace S:=aIs S (i:=0) rfl (cs':=[.int .i64 (bsum (runB' u J) d),.int .i64 (bsum (certB u J) (d+1))]) (by rw [←Ua (f:=certB u J) (n:=d) ((Fd u J d x hx9).symm.trans (decide_eq_false (by omega)))] <;> rfl);exact k17 () a _ (trivial) (S.sel [0,1,2,3,4] G G) (H.keep [3,4,6,7,8,9,10,11,13,21,22] rfl)
  clear SR H S a;intro xm a wm hp S H;obtain ⟨u3,rfl⟩:∃ y,y=xm:=⟨_,rfl⟩;skip;have SR:=(S.sel [2,3,4] rfl rfl);refine eZ (X:=Option Addr×Nat×(Nat→Prop)×World) [3,4,6,7,9,10,11,13,21,22] H rfl (fun ⟨A8,c8,B8,wy⟩=>[(8,.slice A8 (usesN u J d).length c8)]) (fun ⟨A8,c8,B8,wy⟩=>[boxM b7 96 [.int .i64 (bsum (runB' u J) (d+1)),.int .i64 (bsum (certB u J) (d+1))],frzM B8 wy]) (fun ⟨A8,c8,B8,wy⟩=>RdF w noF B8 wy 6 A8 (usesN u J d).length (ucell (usesN u J d))∧(usesN u J d).length≤c8) SR (fun K21 k21=>?_) ?_
  ·skip
   replace H:=H.keep [3,4,6,7,8,9,10,11,13,21,22] rfl;refine aA fun K22 k22=>?_
   refine ls 13 H<|sr 1 G<|sd (dS Tryz.underlying123 aY G G (by omega) (by omega))<|slm aC rfl (aIq S (i:=3) (k:=d) (j:=0) rfl (by omega) (by omega))<|sr 2 G<|sg 6 4 55 61 true G G (fun hg5=>sy hg5<|sr 1 G<|sy hg5<|sr 1 G<|sy hg5<|sd (aS G G (by unfold i64ok;omega))<|sy hg5<|sf pG rfl<|sy hg5<|sl S 4 aC G G G<|sy hg5<|sr 1 G<|sz 6 G G G)<|sa G G G<|sr 1 G<|sE ?_;intro a H
   apply dV (i:=12) (g:=63) (t:=70) (b:=true) 7 H S G G (by kernel_rfl) (by kernel_rfl) G G
   case h1=>
    intro hg13;refine ls 5 H<|sy hg13<|sd ((aD lR dG rfl S (i:=4) G G))<|sy hg13<|sr 1 G<|sy hg13<|sr 1 G<|sy hg13<|sr 1 G<|sy hg13<|sd (aS G G (by unfold i64ok;omega))<|sE ?_;intro a H
    refine eV H G G (by assumption) ?_
    refine aB H G G Tryz.func83 G G (Of u (lifeS u J d).uses A9 c9 ((d:Int)-(lifeS u J d).born) _ (hur.now S) hurn (huu.now S) huun (hrd.now S (i:=1) rfl) (by omega) hcap) ?_
    rintro _ _ a ⟨rfl,S2⟩ H;replace S:=S.call S2;clear S2;refine ls 1 H<|sy hg13<|sr 1 G<|sE ?_;intro a H
    exact wpList_nil ⟨H.strip 7 G G,(S.sel [0,1,2,3,4] G G)⟩
   clear H a S;intro a _ H S;refine ls 1 H<|sa G G G<|sE ?_;intro a H
   refine k22 _ _ ?_;refine aU H rfl (fun hc4=>?_) (fun hc4=>?_)
   ·skip
    rw [Lb u J d x hx9] at hc4;replace H:=H.keep [3,4,6,7,8,9,10,11,13,21,22] rfl;refine jW 6 (by kernel_rfl) (by kernel_rfl) fun K23 k23=>?_
    replace S:=S.drew;refine sF H<|sf Bi rfl<|sl S 0 aC G G G<|sr 1 G<|sd (nV G G (by omega) (by omega) (Ii (by omega)))<|sd (yF G G (zZ _ (by omega)) (by omega) (La (Nat.le_refl d)))<|sf Bi rfl<|sE ?_;intro a H
    refine aI H S (i:=0) G G G G aY G G ?_
    clear H a S;intro _ a S H;refine k23 _ _ ?_;replace H:=H.keep [3,4,6,7,8,9,10,11,13,21,22] rfl;replace S:=S.drew;refine one_wq [(0,true),(1,true),(2,true),(3,true),(4,true),(5,true),(6,true),(7,true),(8,true),(9,true),(10,true),(11,true),(12,true),(13,true),(14,false),(15,false),(16,true)] (by kernel_rfl) (by kernel_rfl) (S.sel [0,1,2,3,4] G G) ?_;refine qF H<|qr 2 G<|qd G (fun _ S=>dF cJ rfl)<|qr 1 G<|qd G (fun _ S=>dF cJ rfl)<|qd G (fun _ S=>uM cJ bZ G G G hcap)<|qr 2 G<|qd G (fun _ S=>aS G G (by unfold i64ok;omega))<|qd G (fun _ S=>(aF rN rfl))<|qd G (fun _ S=>aE aC rfl (aIo S (i:=4) G G))<|qd G (fun _ S=>(aF rO rfl))<|qd G (fun _ S=>aE aC rfl (aIo S (i:=4) G G))<|qd G (fun _ S=>aN Hc G G)<|qK ?_;intro a H
    refine bD rfl ?_
    refine aK H rfl S cJ bZ gJ G G G G G G G G G ?_;intro A1 _ a hA1 S H
    refine wpList_nil (And.intro (S.sel [1,2,3,4,5] G G) ?_);refine bD rfl ?_;refine sK H rfl S cJ bZ gJ qL G G G G (n:=(lifeS u J d).uses.length) (cell:=ucell (lifeS u J d).uses) (cell':=_) (hrd.now S (i:=2) rfl) (Uu (hrd.now S (i:=2) rfl)) (by omega) (by omega) (aIr S (i:=0) rfl) (lV (six G G G G G G)) (by omega) (by omega) ?_;intro A3 c3 _ a S H;replace S:=S.recell (i:=0) rfl (cell':=ucell ((lifeS u J d).uses++[useAt u d (lifeS u J d).born])) (qZ (x:=useAt u d (lifeS u J d).born) (six G G G G G G));refine wpList_nil (And.intro (S.sel [2,3,4,5,6] G G) ?_);refine qF H<|qr 1 G<|qK ?_;intro a H
    refine bY ?_
    replace S:=aIs S (i:=2) rfl (cs':=[.int .i64 (bsum (runB' u J) (d+1)),.int .i64 (bsum (certB u J) (d+1))]) (by rw [←Tz (f:=runB' u J) (n:=d) hc4] <;> rfl);replace S:=(S.sel [0,1,2,3,4,5,6] rfl rfl);have hle3:=aIx S (i:=0) rfl;obtain ⟨B2,S,hA2,_⟩:=St.freeze S (i:=2) rfl;rw [show (lifeS u J d).uses.length+1=(usesN u J d).length by unfold usesN;rw [if_pos hc4];simp] at H;exact k21 (A3,c3,B2,_) a _ (⟨by rw [vK hc4,List.length_append];exact hA2,by rw [vK hc4,List.length_append];exact hle3.1⟩) (S.sel [1,2,3,4,5] rfl rfl) (H.keep [8,3,4,6,7,9,10,11,13,21,22] rfl)
   rw [Lb u J d x hx9] at hc4;refine wp_skip ?_;replace S:=aIs S (i:=0) rfl (cs':=[.int .i64 (bsum (runB' u J) (d+1)),.int .i64 (bsum (certB u J) (d+1))]) (by rw [←Ua (f:=runB' u J) (n:=d) hc4] <;> rfl);rw [←vL hc4] at H;exact k21 (A9,c9,B9,wz) a _ (⟨by rw [vL hc4];exact hrd,by rw [vL hc4];exact hcap⟩) (S.sel [0,1,2,3,4] G G) (H.keep [8,3,4,6,7,9,10,11,13,21,22] rfl)
  clear SR H S a;intro xm a wm hp S H;obtain ⟨A8,c8,B8,wy⟩:=xm;rw [show Value.bool (decide (J d/2^(2:Int).toNat%2=1))=Value.bool (renw (J d)) from rfl] at H;replace H:=H.keep [3,4,6,7,8,9,10,11,13,21,22] rfl;refine sS H fun K25 k25=>sr 1 G<|sE ?_;intro a H
  refine k25 _ ?_;refine aU H rfl (fun hc5=>?_) (fun hc5=>?_)
  ·skip
   skip
   refine sO H<|sr 3 G<|sE ?_;intro a H
   refine k9 _ _ ?_;refine sO H<|sd (aH G G (by unfold i64ok;omega))<|sr 1 G<|sE ?_;intro a H
   have hp8:=hp
   exact k6 (g1-1) (d+1,⟨[],(d:Int),x⟩,none,0,B8,wy) a _ (by omega) (⟨⟨by omega,by omega⟩,⟨RdF.nil,Nat.le_refl 0⟩,Ub hc5 hx9⟩) (S.sel [0,1,2,3,4] G G) (H.keep [8,9,10,22,3,4,6,7,21] rfl)
  skip
  refine wp_skip ?_;refine k9 _ _ ?_;refine sO H<|sd (aH G G (by unfold i64ok;omega))<|sr 1 G<|sE ?_;intro a H
  have hp8:=hp
  exact k6 (g1-1) (d+1,⟨usesN u J d,(lifeS u J d).born,x⟩,A8,c8,B8,wy) a _ (by omega) (⟨⟨by omega,by omega⟩,hp8,Uc hc5 hx9⟩) (S.sel [0,1,2,3,4] G G) (H.keep [8,9,10,22,3,4,6,7,21] rfl)
 refine wp_exit ?_;refine k4 _ _ ?_;replace H:=H.keep [6,7] rfl;refine aA fun K29 k29=>?_
 refine ls 1 H<|sd ((aD qJ lH rfl S (i:=0) G G))<|sE ?_;intro a H
 refine aI H S (i:=2) G G G G lH G G ?_
 clear H a S;intro _ a S H;refine k29 _ _ ?_;refine wp_ret ?_;refine retA (fn:=Tryz.f68) rfl H rfl qJ (by exact lH) (cY S (i:=2) rfl) ?_;obtain rfl:d=dy:=by omega
 exact ⟨rfl,(S.sel [] G G)⟩
end
section
theorem keyOK:KeyOk Tryz.prog 125 (encN (n:=21)):=
 Ky (Ex Tryz.underlying125 wM (.cons (by decide) rfl (PartK.int2 Tryz.underlying3 aC) (.cons (by decide) rfl (PartK.of (Ew Tryz.underlying123 Qk (PartK.int Tryz.underlying3 aC) aY)) (.nil 21))) (by kernel_rfl)) (by omega) (by rw [Tryz.underlying125])
theorem YIn.nowR {w w0:World} {F0:Nat→Prop} {R:List Mem} {y:Yr} (h:YIn w0 F0 y) (S:St w0 F0 R w):YIn w (fps R) y:=
 ⟨h.ps.nowR S,h.xs.nowR S,h.pe.nowR S,h.prs.nowR S,h.us.nowR S,h.sps.nowR S,fun k hk=>(h.rt k hk).nowR S,fun k hk=>(h.ul k hk).nowR S⟩
theorem YOk.days {y:Yr} (h:YOk y):1≤y.days∧y.days≤20:=h.yr.1
theorem YOk.unit {y:Yr} (h:YOk y) {i:Nat} (hi:i<y.us.length):UntOk y.ps y.us (y.us.getD i aJk) i:=jY.1 (h.un i hi)
theorem YOk.old {y:Yr} (h:YOk y) {i:Nat} (hi:i<y.us.length):0≤(y.us.getD i aJk).old:=by
 have h1:=h.unit hi
 have h2:=yM h1.wear
 have h3:=h1.i
 unfold untI at h3
 omega
theorem Cg (y:Yr) (w:World) :
    Calls Tryz.prog 32 [.agg [.int .i64 y.days,.int .i64 y.pl,.slice y.PA y.ps.length y.pc,.slice y.XA y.xs.length y.xc,.slice y.BA y.pe.length y.bc,.int .i64 y.limit,.bool y.help,.slice y.QA y.prs.length y.qc,.slice y.VA y.us.length y.vc,.int .i64 y.crew,.slice y.SA y.sps.length y.sc].toArray].toArray w (Ret (fun v w'=>∃ cb bl bs bk,v = .pointer (some ⟨cb,0,none⟩)∧St w noF [boxM cb 94 [.int .i64 y.days,.int .i64 y.pl,.slice y.PA y.ps.length y.pc,.slice y.XA y.xs.length y.xc,.slice y.BA y.pe.length y.bc,.int .i64 y.limit,.bool y.help,.slice y.QA y.prs.length y.qc,.slice y.VA y.us.length y.vc,.int .i64 y.crew,.slice y.SA y.sps.length y.sc,.map (some bl),.map (some bs),.map (some bk)],mapK (encN (n:=21)) bl (livP y),mapK (fun n:Int=>Value.int .i64 n) bs (safP y),mapK enc2 bk (kepP y)] w')):=by
 refine enter Tryz.func32 rfl Tryz.ntmps32 rfl (fun a H=>?_)
 have S:=St.start w
 refine aA fun K1 k1=>?_
 refine aO H rfl S G G ?_;intro b1 _ a hb1 hbw1 S H
 refine ls 1 H<|sr 1 G<|sE ?_;intro a H
 refine k1 _ _ ?_;refine aA fun K2 k2=>?_
 refine ls 1 H<|sd ((aD bI bG rfl S (i:=0) G G))<|sE ?_;intro a H
 refine iB (encN (n:=21)) (livP y) Ob H rfl S ?_;intro bl _ a hbl S H
 refine iB (fun n:Int=>Value.int .i64 n) (safP y) Oc H rfl S ?_;intro bs _ a hbs S H
 refine iB enc2 (kepP y) Od H rfl S ?_;intro bk _ a hbk S H
 refine ls 1 H<|sd (aN aHh G G)<|sE ?_;intro a H
 refine aO H rfl S G G ?_;intro b8 _ a hb8 hbw8 S H
 refine ls 1 H<|sr 1 G<|sE ?_;intro a H
 refine k2 _ _ ?_;refine wp_ret ?_;refine ret1 (fn:=Tryz.f32) rfl H rfl ?_;exact ⟨b8,bl,bs,bk,rfl,(S.sel [0,3,2,1] G G)⟩
theorem Uv (y:Yr) (cb bl bs bk:Nat) (i:Nat) (l:List Tsk) (LA:Option Addr) (lc:Nat) (w:World) (F:Nat→Prop) (S:St w F [boxM cb 94 [.int .i64 y.days,.int .i64 y.pl,.slice y.PA y.ps.length y.pc,.slice y.XA y.xs.length y.xc,.slice y.BA y.pe.length y.bc,.int .i64 y.limit,.bool y.help,.slice y.QA y.prs.length y.qc,.slice y.VA y.us.length y.vc,.int .i64 y.crew,.slice y.SA y.sps.length y.sc,.map (some bl),.map (some bs),.map (some bk)],mapK (encN (n:=21)) bl (livP y),mapK (fun n:Int=>Value.int .i64 n) bs (safP y),mapK enc2 bk (kepP y)] w) (hy:YIn w F y) (hyb:YBd y) (hok:YOk y) (hi:i<y.us.length) (hl:InS w F 3 LA l.length (aZ l)) (hln:l.length≤9223372036854775807) (htk:∀ k,k<l.length→tskI y (l.getD k aJl)) :
    Calls Tryz.prog 49 [.pointer (some ⟨cb,0,none⟩),.int .i64 (i:Int),.slice LA l.length lc].toArray w (Ret (fun v w'=>v=lifeV (y.us.getD i aJk) (jobF l i) y.days.toNat∧St w F [boxM cb 94 [.int .i64 y.days,.int .i64 y.pl,.slice y.PA y.ps.length y.pc,.slice y.XA y.xs.length y.xc,.slice y.BA y.pe.length y.bc,.int .i64 y.limit,.bool y.help,.slice y.QA y.prs.length y.qc,.slice y.VA y.us.length y.vc,.int .i64 y.crew,.slice y.SA y.sps.length y.sc,.map (some bl),.map (some bs),.map (some bk)],mapK (encN (n:=21)) bl (livP y),mapK (fun n:Int=>Value.int .i64 n) bs (safP y),mapK enc2 bk (kepP y)] w')):=by
 have hmx:maxLen=9223372036854775807:=rfl
 have hdy:=hok.days;have husn:=hyb.usn
 have hD:((y.days.toNat:Nat):Int)=y.days:=by omega
 refine enter Tryz.func49 rfl Tryz.ntmps49 rfl (fun a H=>?_)
 skip
 refine aA fun K1 k1=>?_
 refine aM H rfl S zH ?_;intro b6 _ a hb6 hbw6 S H
 refine k1 _ _ ?_;refine aA fun K2 k2=>?_
 refine ls 2 H<|sr 1 G<|sd (aN aDz G G)<|sE ?_;intro a H
 refine aM H rfl S Rb ?_;intro b7 _ a hb7 hbw7 S H
 refine aI H S (i:=0) G G G G wM G G ?_
 clear H a S;intro _ a S H;refine k2 _ _ ?_;refine wp_seq_k fun K3 k3=>?_
 replace S:=aIs S (i:=0) rfl (cs':=[.int .i64 (i:Int),.int .i64 0,.int .i64 0,.int .i64 0,.int .i64 0,.int .i64 0,.int .i64 0,.int .i64 0,.int .i64 0,.int .i64 0,.int .i64 0,.int .i64 0,.int .i64 0,.int .i64 0,.int .i64 0,.int .i64 0,.int .i64 0,.int .i64 0,.int .i64 0,.int .i64 0,.int .i64 0]) rfl;replace S:=Ff S (i:=0) rfl (by show 21≤maxLen;decide);replace S:=S.recell (i:=0) rfl (cell':=kcl i (jobP l 0 i)) (fun k j hk hj=>Ug hk hj);refine sS H fun K4 k4=>sr 1 G<|sL bO rfl<|sr 1 G<|sE ?_;intro a H
 refine k4 _ ?_;refine wp_block ?_;refine loop_st (X:=Nat) (R0:=_) [0,1,6,7,14,15] H rfl (fun k=>[(16,.int .i64 (k:Int))]) (fun k=>[ownM 125 1 (some ⟨b7,0,none⟩) 21 21 (kcl i (jobP l k i))]) (fun g k=>k≤l.length∧g+k=l.length) (l.length) 0 ?_ (S.sel [0,1,2,3,4,5] G G) (H.keep [16,0,1,6,7,14,15] rfl) ?_
 · exact ⟨by omega,by omega⟩
 clear H S a;intro g1 x1 a w1 hp S H K5 k5;obtain ⟨k,rfl⟩:∃ y,y=x1:=⟨_,rfl⟩;refine sS H fun K6 k6=>sr 1 G<|sE ?_;intro a H
 refine k6 _ ?_;refine wp_seq_k fun K7 k7=>?_
 refine condL H rfl (fun hc1=>?_) (fun hc1=>?_)
 ·skip
  refine wp_skip ?_;refine k7 _ _ ?_;refine wp_seq_k fun K8 k8=>?_
  refine wp_block ?_;refine aA fun K9 k9=>?_
  refine ls 2 H<|si bO bK G G (hl.adr (by omega)) (by omega)<|sd ((aV jG bK rfl S hl (by omega) (by omega)))<|sE ?_;intro a H
  refine aM H rfl S fO ?_;intro b9 _ a hb9 hbw9 S H
  refine aI H S (i:=0) G G G G bK G G ?_
  clear H a S;intro _ a S H;refine k9 _ _ ?_;have htt:=htk k (by omega);unfold tskI at htt;refine sS H fun K10 k10=>sf eL rfl<|sl S 0 aC G G G<|sr 2 G<|sE ?_;intro a H
  refine k10 _ ?_;refine condE H rfl (fun hc2=>?_) (fun hc2=>?_)
  ·skip
   replace H:=H.keep [0,1,6,7,9,14,15,16] rfl;refine iO 11 (by kernel_rfl) (by kernel_rfl) ?_;replace S:=S.drew;refine sF H<|sf eB rfl<|sl S 0 aC G G G<|sf wP rfl<|sd ((dS Tryz.underlying123 aY G G (by omega) (by omega)).to (v' := .pointer (some (pt (some ⟨b7,0,none⟩) 1 ((l.getD k aJl).day.toNat+1) 0))) (congrArg (fun o=>Value.pointer (some ⟨b7,o,none⟩)) (show 0+1+(l.getD k aJl).day.toNat*1=0+((l.getD k aJl).day.toNat+1)*1+0 by omega)))<|slm aC rfl (aIq S (i:=1) (k:=(l.getD k aJl).day.toNat+1) (j:=0) rfl (by omega) (by omega))<|sf gL rfl<|sl S 0 aC G G G<|sd (nV G G (by omega) (by omega) (aAh htt.2.2))<|sd (Ud G G (Ny _ _ _) (by omega))<|sf wP rfl<|sd ((dS Tryz.underlying123 aY G G (by omega) (by omega)).to (v' := .pointer (some (pt (some ⟨b7,0,none⟩) 1 ((l.getD k aJl).day.toNat+1) 0))) (congrArg (fun o=>Value.pointer (some ⟨b7,o,none⟩)) (show 0+1+(l.getD k aJl).day.toNat*1=0+((l.getD k aJl).day.toNat+1)*1+0 by omega)))<|sE ?_;intro a H
   refine bB H S (i:=1) G G G (by omega) (by omega) aY rfl ?_
   clear H a S;intro _ a S H;refine k8 _ _ ?_;replace H:=H.keep [0,1,6,7,14,15,16] rfl;refine sO H<|sd (aH G G (by unfold i64ok;omega))<|sr 1 G<|sE ?_;intro a H
   replace S:=S.recell (i:=1) rfl (cell':=kcl i (jobP l (k+1) i)) (fun k9 j9 hk9 hj9=>aAj (d:=(l.getD k aJl).day.toNat) (by omega) htt.2.2 (by omega) (by omega) k9 j9 hj9);exact k5 (g1-1) (k+1) a _ (by omega) (⟨by omega,by omega⟩) (S.sel [1,2,3,4,5,6] G G) (H.keep [16,0,1,6,7,14,15] rfl)
  refine wp_skip ?_;refine k8 _ _ ?_;refine sO H<|sd (aH G G (by unfold i64ok;omega))<|sr 1 G<|sE ?_;intro a H
  rw [←aAi (l:=l) (n:=k) (i:=i) (by omega) htt.2.2 (by omega)] at S;exact k5 (g1-1) (k+1) a _ (by omega) (⟨by omega,by omega⟩) (S.sel [1,2,3,4,5,6] G G) (H.keep [16,0,1,6,7,14,15] rfl)
 refine wp_exit ?_;refine k3 _ _ ?_;obtain rfl:k=l.length:=by omega
 rw [Uf] at S;replace S:=aAg S (i:=0) rfl;obtain ⟨h0,hh0,S⟩:=aJa S (i:=3) rfl;rcases hk0:h0 (keyOf i (jobF l i)) with _|v0
 ·skip
  skip
  replace H:=H.keep [0,1,6,7] rfl;replace S:=S.drew;refine cQ [(0,true),(1,true),(2,true),(3,true),(4,true),(5,true),(6,true),(7,true),(8,true),(9,false),(10,false),(11,true)] (by kernel_rfl) (by kernel_rfl) (S.sel [0,1,2,3,4,5] G G) fun K14 k14=>?_
  refine qF H<|qr 2 G<|qd G (fun _ S=>(aF Bf rfl))<|qd G (fun _ S=>aE Gy rfl (aIo S (i:=2) G G))<|qd G (fun _ S=>(aD Bd wM rfl S (i:=0) G G))<|qd G (fun _ S=>fU S (i:=3) rfl Ro keyOK aDe rfl (k:=keyOf i (jobF l i)) rfl (fun h e=>by subst e;rw [hk0];exact ⟨rfl,rfl⟩))<|qr 3 G<|qK ?_;intro a H
  refine bD rfl ?_
  refine aM H rfl S zH ?_;intro b10 _ a hb10 hbw10 S H
  refine wpList_nil (And.intro (S.sel [1,2,3,4,5,6] G G) ?_);refine bD rfl ?_;refine aI H S (i:=0) G G G G lH G G ?_;clear H a S;intro _ a S H;refine wpList_nil (And.intro (S.sel [1,2,3,4,5,6] G G) ?_);refine qF H<|qr 1 G<|qK ?_;intro a H
  refine bY ?_
  refine k14 _ _ ?_;refine wp_seq_k fun K15 k15=>?_
  replace H:=H.keep [0,1,6,7,10,11] rfl;refine sS H fun K16 k16=>sr 2 G<|sE ?_;intro a H
  refine k16 _ ?_;refine aU H rfl (fun hc3=>?_) (fun hc3=>?_)
  ·skip
   skip
   replace H:=H.keep [0,1,6,7,10] rfl;replace S:=S.drew;refine cQ [(0,true),(1,true),(2,true),(3,true),(4,true),(5,true),(6,true),(7,true),(8,true),(9,true),(10,true),(11,true),(12,true),(13,true),(14,true),(15,false),(16,false)] (by kernel_rfl) (by kernel_rfl) (S.sel [1,2,3,4,5,6] G G) fun K17 k17=>?_
   refine qF H<|qr 2 G<|qd G (fun _ S=>(aF fE rfl))<|qd G (fun _ S=>(aF cO rfl))<|qd G (fun _ S=>aE dR rfl (aIo S (i:=2) G G))<|qr 1 G<|qd G (fun _ S=>aW cX dG G G (hy.us.adr (by omega)) (by omega))<|qd G (fun _ S=>(aV lR dG rfl S hy.us (by omega) (by omega)))<|qd G (fun _ S=>(aF wP rfl))<|qd G (fun _ S=>(aD Yj Qk rfl S (i:=0) G G))<|qr 2 G<|qd G (fun _ S=>(aF fE rfl))<|qd G (fun _ S=>(aF dN rfl))<|qd G (fun _ S=>aE aC rfl (aIo S (i:=2) G G))<|qK ?_;intro a H
   refine bD rfl ?_
   rw [←hD] at H;refine aB H rfl rfl Tryz.func68 rfl rfl (aAt (y.us.getD i aJk) (jobF l i) y.days.toNat _ ((hy.rt i hi).now S) (hyb.rtn hi) ((hy.ul i hi).now S) (hyb.uln hi) (hyb.cap i hi) (hok.unit hi).i (hok.old hi) (fun d=>aAf _ _ _) (by omega)) ?_;clear H a;rintro _ _ a ⟨rfl,S2⟩ H;replace S:=S.call S2;clear S2;refine wpList_nil (And.intro (S.sel [1,2,3,4,5,6] rfl rfl) ?_);refine bD rfl ?_;refine aI H S (i:=0) rfl rfl rfl rfl lH rfl rfl ?_;clear H a S;intro _ a S H;refine wpList_nil (And.intro (S.sel [1,2,3,4,5,6] rfl rfl) ?_);refine bY ?_;refine k17 _ _ ?_;replace H:=H.keep [0,6,7,10] rfl;refine iO 6 (by kernel_rfl) (by kernel_rfl) ?_;replace S:=S.drew;refine sF H<|sr 2 G<|sf Bf rfl<|sl S 3 Gy rfl rfl rfl<|sd ((aD Bd wM rfl S (i:=1) rfl rfl))<|sd ((aD qJ lH rfl S (i:=0) rfl rfl))<|sE ?_;intro a H
   refine fJ (k:=keyOf i (jobF l i)) (livP y) H S (i:=4) rfl Ro keyOK G G G (fun h e=>by subst e;exact Uh (by omega) rfl h hh0) ?_;intro _ a S H
   refine k15 _ _ ?_;refine aA fun K19 k19=>?_
   refine ls 1 H<|sd ((aD qJ lH rfl S (i:=0) G G))<|sE ?_;intro a H
   refine aI H S (i:=2) G G G G lH G G ?_
   clear H a S;intro _ a S H;refine k19 _ _ ?_;refine wp_ret ?_;refine retA (fn:=Tryz.f49) rfl H rfl qJ (by exact lH) (cY S (i:=2) rfl) ?_;exact ⟨rfl,(S.sel [3,4,5,6] G G)⟩
  skip
  cases hc3
 obtain rfl:=hh0 _ _ _ hi hk0
 replace H:=H.keep [0,1,6,7] rfl;replace S:=S.drew;refine cQ [(0,true),(1,true),(2,true),(3,true),(4,true),(5,true),(6,true),(7,true),(8,true),(9,false),(10,false),(11,true)] (by kernel_rfl) (by kernel_rfl) (S.sel [0,1,2,3,4,5] G G) fun K20 k20=>?_
 refine qF H<|qr 2 G<|qd G (fun _ S=>(aF Bf rfl))<|qd G (fun _ S=>aE Gy rfl (aIo S (i:=2) G G))<|qd G (fun _ S=>(aD Bd wM rfl S (i:=0) G G))<|qd G (fun _ S=>fU S (i:=3) rfl Ro keyOK aDe rfl (k:=keyOf i (jobF l i)) rfl (fun h e=>by subst e;rw [hk0];exact ⟨rfl,rfl⟩))<|qr 3 G<|qK ?_;intro a H
 refine bD rfl ?_
 refine aM H rfl S zH ?_;intro b10 _ a hb10 hbw10 S H
 refine wpList_nil (And.intro (S.sel [1,2,3,4,5,6] G G) ?_);refine bD rfl ?_;refine aI H S (i:=0) G G G G lH G G ?_;clear H a S;intro _ a S H;refine wpList_nil (And.intro (S.sel [1,2,3,4,5,6] G G) ?_);refine qF H<|qr 1 G<|qK ?_;intro a H
 refine bY ?_
 refine k20 _ _ ?_;refine wp_seq_k fun K21 k21=>?_
 replace H:=H.keep [0,1,6,7,10,11] rfl;refine sS H fun K22 k22=>sr 2 G<|sE ?_;intro a H
 refine k22 _ ?_;refine aU H rfl (fun hc4=>?_) (fun hc4=>?_)
 ·skip
  skip
  cases hc4
 skip
 refine wp_skip ?_;refine k21 _ _ ?_;refine aA fun K23 k23=>?_
 refine ls 1 H<|sd ((aD qJ lH rfl S (i:=0) G G))<|sE ?_;intro a H
 refine aI H S (i:=2) G G G G lH G G ?_
 clear H a S;intro _ a S H;refine k23 _ _ ?_;refine wp_ret ?_;refine retA (fn:=Tryz.f49) rfl H rfl qJ (by exact lH) (cY S (i:=2) rfl) ?_;replace S:=aIu S (i:=4) rfl (Φ':=livP y) (fun g e=>by subst e;exact hh0);exact ⟨rfl,(S.sel [3,4,5,6] G G)⟩
end
section
theorem Ch {l:List Int} (h:∀ k,k<l.length→0≤l.getD k 0∧l.getD k 0≤1000):∀ k,k≤l.length→0≤sumI l k∧sumI l k≤1000*k:=by
  intro k;induction k with
  | zero=>intro _;simp [sumI,sm]
  | succ k ih=>
    intro hk;have h1:=ih (by omega);have h2:=h k (by omega);unfold sumI at *;rw [sm];push_cast;omega
theorem Og (P T:Nat) (ps:List Psg) (PA:Option Addr) (pc:Nat) (xs:List Int) (XA:Option Addr) (xc:Nat) (out:Int) (pe:List Int) (BA:Option Addr) (bc:Nat) (w:World) (hps:InS w noF 7 PA ps.length (pcell ps)) (hpn:ps.length≤9223372036854775807) (hxs:InS w noF 1 XA xs.length (icl xs)) (hxn:xs.length≤9223372036854775807) (hpe:InS w noF 1 BA pe.length (icl pe)) (hpl:pe.length=P) (hV:StV P ps xs) (hou:0≤out∧out≤4095) (hpp:∀ k,k<pe.length→0≤pe.getD k 0∧pe.getD k 0≤1000) (hT:T≤60) :
  Calls Tryz.prog 89 [.agg [.int .i64 (P:Int),.slice PA ps.length pc,.slice XA xs.length xc].toArray,.int .i64 out,.slice BA pe.length bc,.int .i64 (T:Int)].toArray w (Ret fun u w'=>∃ b31 EA A' c',u = .pointer (some ⟨b31,0,none⟩)∧St w noF [boxM b31 168 [.int .i64 (P:Int),.slice PA ps.length pc,.slice XA xs.length xc,.int .i64 (T:Int),.slice EA (layN P T pe xs (hds out xs ps)).k (layN P T pe xs (hds out xs ps)).k,.int .i64 (((P*(T+1)):Nat):Int),.int .i64 (((P*(T+1))+1:Nat):Int)],ownM 187 1 EA (layN P T pe xs (hds out xs ps)).k (layN P T pe xs (hds out xs ps)).k (hdc A' (layN P T pe xs (hds out xs ps)).n c'),ragM 189 7 (fun q=>q<(layN P T pe xs (hds out xs ps)).k) A' (layN P T pe xs (hds out xs ps)).n c' (edgeC (layN P T pe xs (hds out xs ps)) (layT P T pe xs (hds out xs ps)).room (layT P T pe xs (hds out xs ps)).mv)] w'):=by
 have h:=Sp P T ps PA pc xs XA xc out pe BA bc w hps hpn hxs hxn (fun k hk h3=>by have:=bW.1 (hV.pas k hk);omega) hou.1 hpe hpl (by have:=hV.size;omega) hT hV.size.2.2 (tK hV)
 refine tJ h fun u w' ⟨b31,EA,A',c',h1,S⟩=>⟨b31,EA,A',c',h1,?_⟩
 rw [Hh (joins (jAll P T pe xs (hds out xs ps))) (P*(T+1)+2)] at S;exact S
theorem Oh (pl:Int) (ps:List Psg) (PA:Option Addr) (pc:Nat) (xs:List Int) (XA:Option Addr) (xc:Nat) (out:Int) (pe:List Int) (BA:Option Addr) (bc:Nat) (T0:Int) (w:World) (hps:InS w noF 7 PA ps.length (pcell ps)) (hpn:ps.length≤9223372036854775807) (hxs:InS w noF 1 XA xs.length (icl xs)) (hxn:xs.length≤9223372036854775807) (hpe:InS w noF 1 BA pe.length (icl pe)) (hpen:pe.length≤9223372036854775807) :
    Calls Tryz.prog 73 [.agg [.int .i64 pl,.slice PA ps.length pc,.slice XA xs.length xc].toArray,.int .i64 out,.slice BA pe.length bc,.int .i64 T0].toArray w (Ret (fun u w'=>(dY pl ps xs out pe T0≠0∧u = .tuple #[.int .i64 0,.int .i64 (dY pl ps xs out pe T0)]∧St w noF [] w')∨(dY pl ps xs out pe T0=0∧u = .tuple #[.int .i64 (mfv pl.toNat T0.toNat pe xs (hds out xs ps)),.int .i64 0]∧St w noF [] w'))):=by
 refine enter Tryz.func73 rfl Tryz.ntmps73 rfl (fun a H=>?_)
 have S:=St.start w
 refine aA fun K1 k1=>?_
 refine aO H rfl S G G ?_;intro b4 _ a hb4 hbw4 S H
 refine ls 2 H<|sr 2 G<|sE ?_;intro a H
 refine k1 _ _ ?_;refine wp_seq_k fun K2 k2=>?_
 refine aA fun K3 k3=>?_
 refine ls 4 H<|sd ((aD cE cV rfl S (i:=0) G G))<|sr 3 G<|sE ?_;intro a H
 refine aB H G G Tryz.func88 G G (Bs pl ps PA pc xs XA xc out pe BA bc T0 _ (hps.now S) hpn (hxs.now S) hxn (hpe.now S) hpen) ?_;clear H a
 rintro _ _ a ⟨rfl,S2⟩ H;replace S:=S.call S2;clear S2;refine ls 1 H<|sr 1 G<|sE ?_;intro a H
 refine k3 _ _ ?_;replace H:=H.keep [1,2,3,4,10] rfl;refine sS H fun K4 k4=>sr 2 G<|sE ?_;intro a H
 refine k4 _ ?_;refine condN H rfl (fun hc1=>?_) (fun hc1=>?_)
 ·skip
  refine sS H fun K5 k5=>sr 3 G<|sE ?_;intro a H
  refine k5 _ ?_;refine wp_ret ?_;refine ret2 (fn:=Tryz.f73) rfl H G G ?_;exact .inl ⟨hc1,rfl,(S.sel [] G G)⟩
 obtain ⟨hst,hou,hcr,hti⟩:=pH hc1;have hV0:=gR hst;obtain ⟨P,rfl⟩:∃ P:Nat,pl=P:=⟨pl.toNat,by have:=hV0.size;omega⟩;have hV:=hV0;obtain ⟨hpp,hpl'⟩:=rU hcr;have hpl:pe.length=P:=by omega
 obtain ⟨T,rfl⟩:∃ T:Nat,T0=T:=⟨T0.toNat,by omega⟩;have hT:T≤60:=by omega
 have hO9:=qN (T:=T) (out:=out) hV hpp
 have hC:P*(T+1)≤10*61:=Nat.mul_le_mul (by have:=hV.size;omega) (by omega)
 refine wp_skip ?_;refine k2 _ _ ?_;replace H:=H.keep [1,2,3,4] rfl;refine aA fun K6 k6=>?_
 refine ls 4 H<|sd ((aD cE cV rfl S (i:=0) G G))<|sr 3 G<|sE ?_;intro a H
 refine aB H G G Tryz.func89 G G (Og P T ps PA pc xs XA xc out pe BA bc _ (hps.now S) hpn (hxs.now S) hxn (hpe.now S) hpl hV hou hpp hT) ?_;clear H a
 rintro _ _ a ⟨b31,EA,A',c',rfl,S2⟩ H;replace S:=S.call S2;clear S2;have S1:=(S.sel [0,1,2] rfl rfl);refine aB H rfl rfl Tryz.func90 rfl rfl (Sh (layN P T pe xs (hds out xs ps)) (layT P T pe xs (hds out xs ps)).room (layT P T pe xs (hds out xs ps)).mv b31 (P:Int) (T:Int) _ _ EA A' c' (P*(T+1)) ((P*(T+1))+1) _ _ S1.startR hO9.wf hO9.ok (by show _<P*(T+1)+2;omega) (by show _<P*(T+1)+2;omega) (by omega) (by show P*(T+1)+2≤_;omega) (by have:=hO9.beg;have:=hV.size;omega)) ?_;clear H a;rintro _ _ a ⟨v,r,rfl,hF,h0v,⟨L,hLv,hLx⟩,S2⟩ H;replace S:=(S.sel [0,1,2,3] rfl rfl).callR (M:=[_,_,_]) S2;clear S1 S2;refine ls 2 H<|sr 2 G<|sE ?_;intro a H
 refine k6 _ _ ?_;refine wp_ret ?_;refine ret2 (fn:=Tryz.f73) rfl H G G ?_;have hE:EndP P T pe xs (hds out xs ps) v r L:=⟨hF,h0v,hLv,hLx⟩;rw [Int.toNat_natCast,Int.toNat_natCast,Bo hO9 hE];exact .inr ⟨hc1,rfl,(S.sel [] G G)⟩
end
section
theorem Fo {y:Yr} {out:Int} {w w':World} {u:Value} (hl:dY y.pl y.ps y.xs out y.pe y.limit=0) (h:(dY y.pl y.ps y.xs out y.pe y.limit≠0∧u = .tuple #[.int .i64 0,.int .i64 (dY y.pl y.ps y.xs out y.pe y.limit)]∧St w noF [] w')∨(dY y.pl y.ps y.xs out y.pe y.limit=0∧u = .tuple #[.int .i64 (mfv y.pl.toNat y.limit.toNat y.pe y.xs (hds out y.xs y.ps)),.int .i64 0]∧St w noF [] w')):∃ n:Int,u = .tuple #[.int .i64 n,.int .i64 0]∧leavB y out=decide (n=sumI y.pe y.pe.length)∧St w noF [] w':=by
 rcases h with ⟨h0,_⟩|⟨_,rfl,S⟩
 ·exact absurd hl h0
 ·exact ⟨_,rfl,rfl,S⟩
theorem vO {y:Yr} {out fr to:Int} {help:Bool} {w w':World} {u:Value} (ha:askE y.pl y.ps y.xs out [fr,to]=0) (h:(askE y.pl y.ps y.xs out [fr,to]≠0∧u = .tuple #[.int .i64 0,.slice none 0 0,.int .i64 (askE y.pl y.ps y.xs out [fr,to])]∧St w noF [] w')∨(askE y.pl y.ps y.xs out [fr,to]=0∧FarOk y.pl.toNat y.ps out help to.toNat (dst y.pl.toNat y.ps out help to.toNat)∧((dst y.pl.toNat y.ps out help to.toNat fr.toNat<0∧u = .tuple #[.int .i64 0,.slice none 0 0,.int .i64 3]∧St w noF [] w')∨(0≤dst y.pl.toNat y.ps out help to.toNat fr.toNat∧∃ A c,u = .tuple #[.int .i64 (dst y.pl.toNat y.ps out help to.toNat fr.toNat),.slice A (wayL y.pl.toNat y.ps out help fr.toNat to.toNat).length c,.int .i64 0]∧St w noF [ownM 3 1 A (wayL y.pl.toNat y.ps out help fr.toNat to.toNat).length c (wcl (wayL y.pl.toNat y.ps out help fr.toNat to.toNat))] w')))):∃ (t e:Int) (A:Option Addr) (n c:Nat),u = .tuple #[.int .i64 t,.slice A n c,.int .i64 e]∧(decide (e=0)=decide (0≤dst y.pl.toNat y.ps out help to.toNat fr.toNat))∧St w noF [] w':=by
 rcases h with ⟨h0,_⟩|⟨_,_,⟨h1,rfl,S⟩|⟨h1,A,c,rfl,S⟩⟩
 ·exact absurd ha h0
 ·exact ⟨0,3,none,0,0,rfl,by rw [decide_eq_false (show ¬ 0≤dst y.pl.toNat y.ps out help to.toNat fr.toNat by omega)];rfl,S⟩
 ·exact ⟨_,0,A,_,c,rfl,by rw [decide_eq_true h1];rfl,S.sel [] rfl rfl⟩
theorem lt40 {m:Int} (h:m≤4095):m<2^40:=by
 have e9:(2:Int)^40=1099511627776:=by decide
 omega
theorem Uw {y:Yr} {l:List Tsk} {k q:Nat}:setsQ y l k q q 0 = .int .i64 (outY y l q k):=by unfold setsQ;rw [if_neg (Nat.lt_irrefl q)]
theorem sets0 {y:Yr} {l:List Tsk} {k j:Nat} (hj:j<1):([Value.int .i64 0]:List Value).getD j undef=setsV y l 0 k j:=by
 have:j=0:=by omega
 subst this;rfl
theorem Ld {m:Int} (h:0≤m∧m≤11):i64ok (1*2^m.toNat):=by
 have:=Ii (d:=m.toNat) (by omega)
 rw [Int.toNat_natCast] at this;exact this
section
variable {y:Yr} {d out:Int} {k:Nat} {b:Bool} {e:Int}
theorem Oi (hb:b=allN (prmB y d out) k) (h:d<(y.prs.getD k aJn).first∨(y.prs.getD k aJn).last<d):b=allN (prmB y d out) (k+1):=by
 have:prmB y d out k=true:=by
  unfold prmB
  rcases h with h|h
  ·rw [decide_eq_false (p:=(y.prs.getD k aJn).first≤d) (by omega)];rfl
  ·rw [decide_eq_false (p:=d≤(y.prs.getD k aJn).last) (by omega),Bool.and_false];rfl
 rw [allN,this,Bool.and_true,hb]
theorem Fp (hb:b=allN (prmB y d out) k) (h:(y.prs.getD k aJn).first≤d∧d≤(y.prs.getD k aJn).last) (hw:decide (e=0)=decide (0≤dst y.pl.toNat y.ps out (y.help&&(y.prs.getD k aJn).helped) (y.prs.getD k aJn).to.toNat (y.prs.getD k aJn).fr.toNat)) (he:¬ e=0):false=allN (prmB y d out) (k+1):=by
 have:prmB y d out k=false:=by
  unfold prmB
  rw [←hw,decide_eq_true h.1,decide_eq_true h.2,decide_eq_false he];rfl
 rw [allN,this,Bool.and_false]
theorem Aj (hb:b=allN (prmB y d out) k) (h:(y.prs.getD k aJn).first≤d∧d≤(y.prs.getD k aJn).last) (hw:decide (e=0)=decide (0≤dst y.pl.toNat y.ps out (y.help&&(y.prs.getD k aJn).helped) (y.prs.getD k aJn).to.toNat (y.prs.getD k aJn).fr.toNat)) (he:e=0):b=allN (prmB y d out) (k+1):=by
 have:prmB y d out k=true:=by
  unfold prmB
  rw [←hw,decide_eq_true he,Bool.or_true]
 rw [allN,this,Bool.and_true,hb]
end
theorem Ci {y:Yr} (h:YOk y) {out:Int} (ho:0≤out∧out≤4095) {k:Nat} (hk:k<y.prs.length):askE y.pl y.ps y.xs out [(y.prs.getD k aJn).fr,(y.prs.getD k aJn).to]=0:=by
 have h1:=rX h.kept
 have h2:=pK.1 (h1.2.2 k hk)
 have h3:=(rW h1.1).1
 unfold askE
 rw [if_neg (by omega),if_pos];rw [decide_eq_true ho,xJ.2 ⟨by omega,by omega⟩];rfl
theorem Le (y:Yr) (cb bl bs bk:Nat) (l:List Tsk) (LA:Option Addr) (lc:Nat) (w:World) (F:Nat→Prop) (S:St w F [boxM cb 94 [.int .i64 y.days,.int .i64 y.pl,.slice y.PA y.ps.length y.pc,.slice y.XA y.xs.length y.xc,.slice y.BA y.pe.length y.bc,.int .i64 y.limit,.bool y.help,.slice y.QA y.prs.length y.qc,.slice y.VA y.us.length y.vc,.int .i64 y.crew,.slice y.SA y.sps.length y.sc,.map (some bl),.map (some bs),.map (some bk)],mapK (encN (n:=21)) bl (livP y),mapK (fun n:Int=>Value.int .i64 n) bs (safP y),mapK enc2 bk (kepP y)] w) (hy:YIn w F y) (hyb:YBd y) (hok:YOk y) (hl:InS w F 3 LA l.length (aZ l)) (hln:l.length≤9223372036854775807) (htk:∀ k,k<l.length→tskI y (l.getD k aJl)) :
    Calls Tryz.prog 33 [.pointer (some ⟨cb,0,none⟩),.slice LA l.length lc].toArray w (Ret (fun v w'=>∃ A c,v = .slice A y.days.toNat c∧St w F (ownM 3 1 A y.days.toNat c (setsV y l y.us.length)::[boxM cb 94 [.int .i64 y.days,.int .i64 y.pl,.slice y.PA y.ps.length y.pc,.slice y.XA y.xs.length y.xc,.slice y.BA y.pe.length y.bc,.int .i64 y.limit,.bool y.help,.slice y.QA y.prs.length y.qc,.slice y.VA y.us.length y.vc,.int .i64 y.crew,.slice y.SA y.sps.length y.sc,.map (some bl),.map (some bs),.map (some bk)],mapK (encN (n:=21)) bl (livP y),mapK (fun n:Int=>Value.int .i64 n) bs (safP y),mapK enc2 bk (kepP y)]) w')):=by
 have hmx:maxLen=9223372036854775807:=rfl
 have hdy:=hok.days;have husn:=hyb.usn
 have hD:((y.days.toNat:Nat):Int)=y.days:=by omega
 refine enter Tryz.func33 rfl Tryz.ntmps33 rfl (fun a H=>?_)
 skip
 refine sS H fun K1 k1=>sr 1 G<|sE ?_;intro a H
 refine k1 _ ?_;refine aA fun K2 k2=>?_
 refine ls 5 H<|sr 2 G<|sf fE rfl<|sf dN rfl<|sl S 0 aC G G G<|sE ?_;intro a H
 rw [←hD] at H;refine eU (n:=y.days.toNat) H rfl S aQ aY eF lU rfl (by decide) G G (by omega) (by omega) ?_;intro A1 _ a hA1 S H;refine ls 1 H<|sr 1 G<|sE ?_;intro a H
 refine k2 _ _ ?_;refine wp_seq_k fun K3 k3=>?_
 replace H:=H.keep [0,1,5] rfl;refine sS H fun K4 k4=>sr 2 G<|sf fE rfl<|sf cO rfl<|sl S 1 dR G G G<|sL cX rfl<|sr 1 G<|sE ?_;intro a H
 refine k4 _ ?_;refine wp_block ?_;replace S:=S.recell (i:=0) rfl (cell':=setsV y l 0) (fun k9 j9 hk9 hj9=>sets0 hj9);refine loop_st (X:=Nat) (R0:=_) [0,1,5,20,21] H rfl (fun k=>[(22,.int .i64 (k:Int))]) (fun k=>[ownM 3 1 A1 y.days.toNat y.days.toNat (setsV y l k)]) (fun g k=>k≤y.us.length∧g+k=y.us.length) (y.us.length) 0 ?_ (S.sel [0,1,2,3,4] G G) (H.keep [22,0,1,5,20,21] rfl) ?_
 · exact ⟨by omega,by omega⟩
 clear H S a;intro g1 x1 a w1 hp S H K5 k5;obtain ⟨k,rfl⟩:∃ y,y=x1:=⟨_,rfl⟩;refine sS H fun K6 k6=>sr 1 G<|sE ?_;intro a H
 refine k6 _ ?_;refine wp_seq_k fun K7 k7=>?_
 refine condL H rfl (fun hc1=>?_) (fun hc1=>?_)
 ·skip
  refine wp_skip ?_;refine k7 _ _ ?_;refine wp_seq_k fun K8 k8=>?_
  refine wp_block ?_;refine aA fun K9 k9=>?_
  refine ls 3 H<|sr 1 G<|si cX dG G G (hy.us.adr (by omega)) (by omega)<|sd ((aV lR dG rfl S hy.us (by omega) (by omega)))<|sE ?_;intro a H
  refine aM H rfl S gF ?_;intro b7 _ a hb7 hbw7 S H
  refine ls 1 H<|sr 1 G<|sE ?_;intro a H
  refine aI H S (i:=0) G G G G dG G G ?_
  clear H a S;intro _ a S H;refine k9 _ _ ?_;replace H:=H.keep [0,1,5,6,7,20,21,22] rfl;refine aA fun K10 k10=>?_
  refine ls 3 H<|sr 3 G<|sE ?_;intro a H
  refine aB H G G Tryz.func49 G G (Uv y cb bl bs bk k l LA lc _ _ ((S.sel [2,3,4,5] G G).startR) (hy.nowR (S.sel [2,3,4,5] G G)) hyb hok (by omega) (hl.nowR (S.sel [2,3,4,5] G G)) hln htk) ?_;clear H a
  rintro _ _ a ⟨rfl,S2⟩ H;replace S:=St.callR (M:=[_,_,_,_]) (S.sel [2,3,4,5,0,1] rfl rfl) S2;clear S2;refine aM H rfl S zH ?_;intro b8 _ a hb8 hbw8 S H;refine aI H S (i:=0) rfl rfl rfl rfl lH rfl rfl ?_;clear H a S;intro _ a S H;refine k10 _ _ ?_;refine sS H fun K11 k11=>sr 1 G<|sL aQ rfl<|sr 1 G<|sE ?_;intro a H
  refine k11 _ ?_;refine wp_block ?_;rw [←yK] at S;refine loop_st (X:=Nat) (R0:=_) [0,1,5,7,8,20,21,22,32] H rfl (fun q=>[(33,.int .i64 (q:Int))]) (fun q=>[ownM 3 1 A1 y.days.toNat y.days.toNat (setsQ y l k q)]) (fun g q=>q≤y.days.toNat∧g+q=y.days.toNat) (y.days.toNat) 0 ?_ (S.sel [6,0,1,2,3,4,5] G G) (H.keep [33,0,1,5,7,8,20,21,22,32] rfl) ?_
  · exact ⟨by omega,by omega⟩
  clear H S a;intro g2 x2 a w2 hp S H K12 k12;obtain ⟨q,rfl⟩:∃ y,y=x2:=⟨_,rfl⟩;refine sS H fun K13 k13=>sr 1 G<|sE ?_;intro a H
  refine k13 _ ?_;refine wp_seq_k fun K14 k14=>?_
  refine condL H rfl (fun hc2=>?_) (fun hc2=>?_)
  ·skip
   refine wp_skip ?_;refine k14 _ _ ?_;refine wp_seq_k fun K15 k15=>?_
   refine wp_block ?_;refine sS H fun K16 k16=>sr 2 G<|sE ?_;intro a H
   refine k16 _ ?_;have hmk:=mQ hok.V (hok.unit (show k<y.us.length by omega));refine sS H fun K17 k17=>sf Bi rfl<|sl S 1 aC G G G<|sr 1 G<|sd (lZ G G (by omega) (by omega))<|sd (kK G G)<|sr 1 G<|sE ?_;intro a H
   refine k17 _ ?_;refine condE H rfl (fun hc3=>?_) (fun hc3=>?_)
   ·skip
    have hrn:=aHv (y:=y) (l:=l) (k:=k) (show q<y.days.toNat by omega) hc3
    have hob:=sM (l:=l) (d:=q) hok (show k≤y.us.length by omega)
    replace H:=H.keep [0,1,5,7,8,9,20,21,22,32,33] rfl;refine iO 9 (by kernel_rfl) (by kernel_rfl) ?_;replace S:=S.drew;refine sF H<|sr 2 G<|si aQ aY G G (aIp S (i:=0) rfl (by omega)) (by omega)<|sd ((aE aC rfl (aIq S (i:=0) (k:=q) (j:=0) rfl (by omega) (by omega))).to Uw)<|sf nB rfl<|sl S 6 aC G G G<|sd (nV G G (by omega) (by omega) (Ld hmk.1))<|sd (yF G G ⟨hob.1,lt40 hob.2⟩ (by omega) (Ik hok (by omega)))<|si aQ aY G G (aIp S (i:=0) rfl (by omega)) (by omega)<|sE ?_;intro a H
    refine bB H S (i:=0) G G G (by omega) (by omega) aY rfl ?_
    clear H a S;intro _ a S H;refine k15 _ _ ?_;replace H:=H.keep [0,1,5,7,8,20,21,22,32,33] rfl;refine sO H<|sd (aH G G (by unfold i64ok;omega))<|sr 1 G<|sE ?_;intro a H
    replace S:=S.recell (i:=0) rfl (cell':=setsQ y l k (q+1)) (fun k9 j9 hk9 hj9=>Ah hrn rfl k9 j9 hj9);exact k12 (g2-1) (q+1) a _ (by omega) (⟨by omega,by omega⟩) (S.sel [0,1,2,3,4,5,6] G G) (H.keep [33,0,1,5,7,8,20,21,22,32] rfl)
   refine wp_skip ?_;refine k15 _ _ ?_;refine sO H<|sd (aH G G (by unfold i64ok;omega))<|sr 1 G<|sE ?_;intro a H
   rw [Ag (aHw (show q<y.days.toNat by omega) hc3)] at S;exact k12 (g2-1) (q+1) a _ (by omega) (⟨by omega,by omega⟩) (S.sel [0,1,2,3,4,5,6] G G) (H.keep [33,0,1,5,7,8,20,21,22,32] rfl)
  refine wp_exit ?_;refine k8 _ _ ?_;refine sO H<|sd (aH G G (by unfold i64ok;omega))<|sr 1 G<|sE ?_;intro a H
  obtain rfl:q=y.days.toNat:=by omega
  replace S:=S.recell (i:=0) rfl (cell':=setsV y l (k+1)) Ae;exact k5 (g1-1) (k+1) a _ (by omega) (⟨by omega,by omega⟩) (S.sel [0,2,3,4,5] G G) (H.keep [22,0,1,5,20,21] rfl)
 refine wp_exit ?_;refine k3 _ _ ?_;refine sS H fun K22 k22=>sr 2 G<|sE ?_;intro a H
 refine k22 _ ?_;refine wp_ret ?_;refine ret1 (fn:=Tryz.f33) rfl H rfl ?_;obtain rfl:k=y.us.length:=by omega
 exact ⟨_,_,rfl,(S.sel [0,1,2,3,4] G G)⟩
theorem Im (y:Yr) (cb bl bs bk:Nat) (out:Int) (w:World) (F:Nat→Prop) (S:St w F [boxM cb 94 [.int .i64 y.days,.int .i64 y.pl,.slice y.PA y.ps.length y.pc,.slice y.XA y.xs.length y.xc,.slice y.BA y.pe.length y.bc,.int .i64 y.limit,.bool y.help,.slice y.QA y.prs.length y.qc,.slice y.VA y.us.length y.vc,.int .i64 y.crew,.slice y.SA y.sps.length y.sc,.map (some bl),.map (some bs),.map (some bk)],mapK (encN (n:=21)) bl (livP y),mapK (fun n:Int=>Value.int .i64 n) bs (safP y),mapK enc2 bk (kepP y)] w) (hy:YIn w F y) (hyb:YBd y) (hok:YOk y) (ho:0≤out∧out≤4095) :
    Calls Tryz.prog 52 [.pointer (some ⟨cb,0,none⟩),.int .i64 out].toArray w (Ret (fun v w'=>v = .bool (leavB y out)∧St w F [boxM cb 94 [.int .i64 y.days,.int .i64 y.pl,.slice y.PA y.ps.length y.pc,.slice y.XA y.xs.length y.xc,.slice y.BA y.pe.length y.bc,.int .i64 y.limit,.bool y.help,.slice y.QA y.prs.length y.qc,.slice y.VA y.us.length y.vc,.int .i64 y.crew,.slice y.SA y.sps.length y.sc,.map (some bl),.map (some bs),.map (some bk)],mapK (encN (n:=21)) bl (livP y),mapK (fun n:Int=>Value.int .i64 n) bs (safP y),mapK enc2 bk (kepP y)] w')):=by
 have hmx:maxLen=9223372036854775807:=rfl
 have hdy:=hok.days;have husn:=hyb.usn
 have hD:((y.days.toNat:Nat):Int)=y.days:=by omega
 have hpel:y.pe.length≤1000∧∀ k,k<y.pe.length→0≤y.pe.getD k 0∧y.pe.getD k 0≤1000:=⟨by have h1:=hok.yr.2.1.1;have h2:=hok.V.size;omega,hok.yr.2.1.2⟩
 refine enter Tryz.func52 rfl Tryz.ntmps52 rfl (fun a H=>?_)
 skip
 refine sS H fun K1 k1=>sr 1 G<|sE ?_;intro a H
 refine k1 _ ?_;obtain ⟨h0,hh0,S⟩:=aJa S (i:=2) rfl;rcases hk0:h0 out with _|v0
 ·skip
  skip
  replace H:=H.keep [0,1] rfl;refine sS H fun K2 k2=>sr 2 G<|sf Bg rfl<|sl S 0 Gx G G G<|sr 1 G<|sd (fU S (i:=2) rfl zI (gU rfl) Mm rfl (k:=out) rfl (fun h e=>by subst e;rw [hk0];exact ⟨rfl,rfl⟩))<|sr 5 G<|sE ?_;intro a H
  refine k2 _ ?_;refine wp_seq_k fun K3 k3=>?_
  replace H:=H.keep [0,1,5,6] rfl;refine sS H fun K4 k4=>sr 2 G<|sE ?_;intro a H
  refine k4 _ ?_;refine aU H rfl (fun hc1=>?_) (fun hc1=>?_)
  ·skip
   skip
   refine sS H fun K5 k5=>sr 1 G<|sE ?_;intro a H
   refine k5 _ ?_;refine wp_seq_k fun K6 k6=>?_
   replace H:=H.keep [0,1,7] rfl;refine sS H fun K7 k7=>sr 2 G<|sf fE rfl<|sf gX rfl<|sl S 0 dQ G G G<|sL aQ rfl<|sr 1 G<|sE ?_;intro a H
   refine k7 _ ?_;refine wp_block ?_;refine loop_st (X:=Nat) (R0:=_) [0,1,27,28] H rfl (fun k=>[(7,.int .i64 (sumI y.pe k)),(29,.int .i64 (k:Int))]) (fun k=>[]) (fun g k=>k≤y.pe.length∧g+k=y.pe.length) (y.pe.length) 0 ?_ (S.sel [0,1,2,3] G G) (H.keep [7,29,0,1,27,28] rfl) ?_
   · exact ⟨by omega,by omega⟩
   clear H S a;intro g1 x1 a w1 hp S H K8 k8;obtain ⟨k,rfl⟩:∃ y,y=x1:=⟨_,rfl⟩;refine sS H fun K9 k9=>sr 1 G<|sE ?_;intro a H
   refine k9 _ ?_;refine wp_seq_k fun K10 k10=>?_
   refine condL H rfl (fun hc2=>?_) (fun hc2=>?_)
   ·skip
    refine wp_skip ?_;refine k10 _ _ ?_;refine wp_seq_k fun K11 k11=>?_
    refine wp_block ?_;refine sS H fun K12 k12=>si aQ aY G G (hy.pe.adr (by omega)) (by omega)<|slm aC rfl (hy.pe.rd S (by omega) (by omega))<|sr 1 G<|sE ?_;intro a H
    refine k12 _ ?_;have hsb:=Ch hpel.2 k (by omega);have hsk:=hpel.2 k (by omega);refine sO H<|sr 2 G<|sd (aH G G (by unfold i64ok;omega))<|sr 1 G<|sE ?_;intro a H
    refine k11 _ _ ?_;replace H:=H.keep [0,1,7,27,28,29] rfl;refine sO H<|sd (aH G G (by unfold i64ok;omega))<|sr 1 G<|sE ?_;intro a H
    exact k8 (g1-1) (k+1) a _ (by omega) (⟨by omega,by omega⟩) (S.sel [0,1,2,3] G G) (H.keep [7,29,0,1,27,28] rfl)
   refine wp_exit ?_;refine k6 _ _ ?_;replace H:=H.keep [0,1,7] rfl;replace S:=S.drew;refine cQ [(0,true),(1,true),(2,true),(3,true),(4,true),(5,true),(6,true),(7,true),(8,true),(9,true),(10,true),(11,true),(12,true),(13,true),(14,true),(15,true),(16,false),(17,true),(18,true),(19,true),(20,true),(21,true)] (by kernel_rfl) (by kernel_rfl) (S.sel [0,1,2,3] G G) fun K15 k15=>?_
   refine qF H<|qr 2 G<|qd G (fun _ S=>(aF fE rfl))<|qd G (fun _ S=>(aF eI rfl))<|qd G (fun _ S=>(aD cE cV rfl S (i:=0) G G))<|qr 3 G<|qd G (fun _ S=>(aF fE rfl))<|qd G (fun _ S=>(aF gX rfl))<|qd G (fun _ S=>aE dQ rfl (aIo S (i:=0) G G))<|qr 2 G<|qd G (fun _ S=>(aF fE rfl))<|qd G (fun _ S=>(aF mZ rfl))<|qd G (fun _ S=>aE aC rfl (aIo S (i:=0) G G))<|qK ?_;intro a H
   refine bD rfl ?_
   have hcl9:=eD (Oh y.pl y.ps y.PA y.pc y.xs y.XA y.xc out y.pe y.BA y.bc y.limit _ (hy.ps.now S) hyb.psn (hy.xs.now S) hyb.xsn (hy.pe.now S) hyb.pen) (fun _ _ h=>Fo (hok.leave ho) h)
   refine aB H G G Tryz.func73 G G hcl9 ?_;clear H a hcl9
   rintro _ _ a ⟨n9,rfl,hlb,S2⟩ H;replace S:=S.call S2;clear S2;refine wpList_nil (And.intro (S.sel [0,1,2,3] rfl rfl) ?_);refine qF H<|qr 5 G<|qK ?_;intro a H
   refine bY ?_
   refine k15 _ _ ?_;replace H:=H.keep [0,1,7,10] rfl;refine sS H fun K16 k16=>sr 4 G<|sE ?_;intro a H
   refine k16 _ ?_;replace H:=H.keep [0,1,5] rfl;refine cN ?_;refine ls 6 H<|sr 2 G<|sf Bg rfl<|sl S 0 Gx G G G<|sr 2 G<|sE ?_;intro a H
   refine fJ (k:=out) (safP y) H S (i:=2) rfl zI (gU rfl) G G G (fun h e=>by subst e;exact Ui (congrArg Value.bool (by rw [hlb,show k=y.pe.length by omega])) h hh0) ?_;intro _ a S H
   refine k3 _ _ ?_;refine sS H fun K18 k18=>sr 2 G<|sE ?_;intro a H
   refine k18 _ ?_;refine wp_ret ?_;refine ret1 (fn:=Tryz.f52) rfl H rfl ?_;exact ⟨congrArg Value.bool (by rw [hlb,show k=y.pe.length by omega]),(S.sel [0,1,2,3] G G)⟩
  skip
  cases hc1
 obtain rfl:=hh0 _ _ ho hk0
 replace H:=H.keep [0,1] rfl;refine sS H fun K19 k19=>sr 2 G<|sf Bg rfl<|sl S 0 Gx G G G<|sr 1 G<|sd (fU S (i:=2) rfl zI (gU rfl) Mm rfl (k:=out) rfl (fun h e=>by subst e;rw [hk0];exact ⟨rfl,rfl⟩))<|sr 5 G<|sE ?_;intro a H
 refine k19 _ ?_;refine wp_seq_k fun K20 k20=>?_
 replace H:=H.keep [0,1,5,6] rfl;refine sS H fun K21 k21=>sr 2 G<|sE ?_;intro a H
 refine k21 _ ?_;refine aU H rfl (fun hc3=>?_) (fun hc3=>?_)
 ·skip
  skip
  cases hc3
 skip
 refine wp_skip ?_;refine k20 _ _ ?_;refine sS H fun K22 k22=>sr 2 G<|sE ?_;intro a H
 refine k22 _ ?_;refine wp_ret ?_;refine ret1 (fn:=Tryz.f52) rfl H rfl ?_;replace S:=aIu S (i:=2) rfl (Φ':=safP y) (fun g e=>by subst e;exact hh0);exact ⟨rfl,(S.sel [0,1,2,3] G G)⟩
theorem Oj (y:Yr) (cb bl bs bk:Nat) (d out:Int) (w:World) (F:Nat→Prop) (S:St w F [boxM cb 94 [.int .i64 y.days,.int .i64 y.pl,.slice y.PA y.ps.length y.pc,.slice y.XA y.xs.length y.xc,.slice y.BA y.pe.length y.bc,.int .i64 y.limit,.bool y.help,.slice y.QA y.prs.length y.qc,.slice y.VA y.us.length y.vc,.int .i64 y.crew,.slice y.SA y.sps.length y.sc,.map (some bl),.map (some bs),.map (some bk)],mapK (encN (n:=21)) bl (livP y),mapK (fun n:Int=>Value.int .i64 n) bs (safP y),mapK enc2 bk (kepP y)] w) (hy:YIn w F y) (hyb:YBd y) (hok:YOk y) (ho:0≤out∧out≤4095) :
    Calls Tryz.prog 51 [.pointer (some ⟨cb,0,none⟩),.int .i64 d,.int .i64 out].toArray w (Ret (fun v w'=>v = .bool (keepB y d out)∧St w F [boxM cb 94 [.int .i64 y.days,.int .i64 y.pl,.slice y.PA y.ps.length y.pc,.slice y.XA y.xs.length y.xc,.slice y.BA y.pe.length y.bc,.int .i64 y.limit,.bool y.help,.slice y.QA y.prs.length y.qc,.slice y.VA y.us.length y.vc,.int .i64 y.crew,.slice y.SA y.sps.length y.sc,.map (some bl),.map (some bs),.map (some bk)],mapK (encN (n:=21)) bl (livP y),mapK (fun n:Int=>Value.int .i64 n) bs (safP y),mapK enc2 bk (kepP y)] w')):=by
 have hprn:=hyb.prn
 refine enter Tryz.func51 rfl Tryz.ntmps51 rfl (fun a H=>?_)
 skip
 refine sS H fun K1 k1=>sr 1 G<|sE ?_;intro a H
 refine k1 _ ?_;obtain ⟨h0,hh0,S⟩:=aJa S (i:=3) rfl;rcases hk0:h0 (d,out) with _|v0
 ·skip
  skip
  replace H:=H.keep [0,1,2] rfl;refine sS H fun K2 k2=>sr 2 G<|sf Bh rfl<|sl S 0 Gz G G G<|sr 2 G<|sd (aN He G G)<|sd (fU S (i:=3) rfl Rp (Ih Tryz.underlying133 Tryz.underlying3 aC aY) Mm rfl (k:=(d,out)) rfl (fun h e=>by subst e;rw [hk0];exact ⟨rfl,rfl⟩))<|sr 5 G<|sE ?_;intro a H
  refine k2 _ ?_;refine wp_seq_k fun K3 k3=>?_
  replace H:=H.keep [0,1,2,7,8] rfl;refine sS H fun K4 k4=>sr 1 G<|sE ?_;intro a H
  refine k4 _ ?_;refine aU H rfl (fun hc1=>?_) (fun hc1=>?_)
  ·skip
   skip
   cases hc1
  skip
  refine wp_skip ?_;refine k3 _ _ ?_;refine sS H fun K5 k5=>sr 1 G<|sE ?_;intro a H
  refine k5 _ ?_;refine wp_seq_k fun K6 k6=>?_
  refine sS H fun K7 k7=>sr 2 G<|sf fE rfl<|sf lJ rfl<|sl S 0 qI G G G<|sL eX rfl<|sr 1 G<|sE ?_;intro a H
  refine k7 _ ?_;refine wp_block ?_;refine loop_st (X:=Nat×Bool) (R0:=_) [0,1,2,31,32] H rfl (fun ⟨k,b⟩=>[(7,.bool b),(33,.int .i64 (k:Int))]) (fun ⟨k,b⟩=>[]) (fun g ⟨k,b⟩=>k≤y.prs.length∧g+k=y.prs.length∧b=allN (prmB y d out) k) (y.prs.length) (0,true) ?_ (S.sel [0,1,2,3] G G) (H.keep [7,33,0,1,2,31,32] rfl) ?_
  · exact ⟨by omega,by omega,rfl⟩
  clear H S a;intro g1 x1 a w1 hp S H K8 k8;obtain ⟨k,b⟩:=x1;dsimp only at hp S H;refine sS H fun K9 k9=>sr 1 G<|sE ?_;intro a H
  refine k9 _ ?_;refine wp_seq_k fun K10 k10=>?_
  refine condL H rfl (fun hc2=>?_) (fun hc2=>?_)
  ·skip
   refine wp_skip ?_;refine k10 _ _ ?_;refine wp_seq_k fun K11 k11=>?_
   refine wp_block ?_;refine aA fun K12 k12=>?_
   refine ls 2 H<|si eX eP G G (hy.prs.adr (by omega)) (by omega)<|sd ((aV wK eP rfl S hy.prs (by omega) (by omega)))<|sE ?_;intro a H
   refine aM H rfl S gP ?_;intro b10 _ a hb10 hbw10 S H
   refine aI H S (i:=0) G G G G eP G G ?_
   clear H a S;intro _ a S H;refine k12 _ _ ?_;refine wp_seq_k fun K13 k13=>?_
   replace H:=H.keep [0,1,2,7,10,31,32,33] rfl;refine sS H fun K14 k14=>sr 1 G<|sf nF rfl<|sl S 0 aC G G G<|sf lK rfl<|sl S 0 aC G G G<|sc rfl Tryz.func28 G G (cB _ _ _ _)<|sr 1 G<|sE ?_;intro a H
   refine k14 _ ?_;refine aU H rfl (fun hc3=>?_) (fun hc3=>?_)
   ·skip
    try simp only [oz] at hc3
    refine wp_exit ?_;refine k11 _ _ ?_;refine sO H<|sd (aH G G (by unfold i64ok;omega))<|sr 1 G<|sE ?_;intro a H
    exact k8 (g1-1) (k+1,_) a _ (by omega) (⟨by omega,by omega,Oi hp.2.2 (by omega)⟩) (S.sel [1,2,3,4] G G) (H.keep [7,33,0,1,2,31,32] rfl)
   try simp only [oz] at hc3
   refine wp_skip ?_;refine k13 _ _ ?_;rcases hhp:y.help with _|_
   ·skip
    skip
    replace H:=H.keep [0,1,2,7,10,31,32,33] rfl;replace S:=S.drew;refine cQ [(0,true),(1,true),(2,true),(3,true),(4,true),(5,true),(6,true),(7,true),(8,true),(9,true),(10,true),(11,true),(12,true),(13,true),(14,true),(15,true),(16,true),(17,true),(18,true),(19,false),(20,true),(21,true),(22,true),(23,true),(24,true),(25,true),(26,true)] (by kernel_rfl) (by kernel_rfl) (S.sel [0,1,2,3,4] G G) fun K16 k16=>?_
    refine qF H<|qr 2 G<|qd G (fun _ S=>(aF fE rfl))<|qd G (fun _ S=>(aF eI rfl))<|qd G (fun _ S=>(aD cE cV rfl S (i:=1) G G))<|qr 3 G<|qd G (fun _ S=>(aF fE rfl))<|qd G (fun _ S=>(aF uV rfl))<|qd G (fun _ S=>(aE jF rfl (aIo S (i:=1) G G)).to (v' := .bool false) (congrArg Value.bool hhp))<|qr 1 G<|qK ?_;intro a H
    refine aP H G G G G G ?_;intro a H
    refine aP H G G G G G ?_;intro a H
    refine qF H<|qd G (fun _ S=>(bH G G G))<|qd G (fun _ S=>(aF nD rfl))<|qd G (fun _ S=>aE aC rfl (aIo S (i:=0) G G))<|qd G (fun _ S=>(aF nE rfl))<|qd G (fun _ S=>aE aC rfl (aIo S (i:=0) G G))<|qK ?_;intro a H
    refine bD rfl ?_
    have hcl9:=eD (Dw y.pl y.ps y.PA y.pc y.xs y.XA y.xc out false (y.prs.getD k aJn).fr (y.prs.getD k aJn).to _ (hy.ps.now S) hyb.psn (hy.xs.now S) hyb.xsn) (fun _ _ h=>vO (Ci hok ho (show k<y.prs.length by omega)) h)
    refine aB H G G Tryz.func72 G G hcl9 ?_;clear H a hcl9
    rintro _ _ a ⟨t9,e9,A9,n9,c9,rfl,hwb,S2⟩ H;replace S:=S.call S2;clear S2;refine wpList_nil (And.intro (S.sel [0,1,2,3,4] rfl rfl) ?_);refine qF H<|qr 7 G<|qK ?_;intro a H
    refine bY ?_
    refine k16 _ _ ?_;replace H:=H.keep [0,1,2,7,13,31,32,33] rfl;refine sS H fun K17 k17=>sr 2 G<|sE ?_;intro a H
    refine k17 _ ?_;refine condN H rfl (fun hc4=>?_) (fun hc4=>?_)
    ·skip
     refine sO H<|sr 1 G<|sE ?_;intro a H
     refine k11 _ _ ?_;refine sO H<|sd (aH G G (by unfold i64ok;omega))<|sr 1 G<|sE ?_;intro a H
     exact k8 (g1-1) (k+1,_) a _ (by omega) (⟨by omega,by omega,Fp hp.2.2 (by omega) (by rw [hhp];exact hwb) (by omega)⟩) (S.sel [1,2,3,4] G G) (H.keep [7,33,0,1,2,31,32] rfl)
    refine wp_skip ?_;refine k11 _ _ ?_;refine sO H<|sd (aH G G (by unfold i64ok;omega))<|sr 1 G<|sE ?_;intro a H
    exact k8 (g1-1) (k+1,_) a _ (by omega) (⟨by omega,by omega,Aj hp.2.2 (by omega) (by rw [hhp];exact hwb) (by omega)⟩) (S.sel [1,2,3,4] G G) (H.keep [7,33,0,1,2,31,32] rfl)
   skip
   replace H:=H.keep [0,1,2,7,10,31,32,33] rfl;replace S:=S.drew;refine cQ [(0,true),(1,true),(2,true),(3,true),(4,true),(5,true),(6,true),(7,true),(8,true),(9,true),(10,true),(11,true),(12,true),(13,true),(14,true),(15,true),(16,true),(17,true),(18,true),(19,false),(20,true),(21,true),(22,true),(23,true),(24,true),(25,true),(26,true)] (by kernel_rfl) (by kernel_rfl) (S.sel [0,1,2,3,4] G G) fun K21 k21=>?_
   refine qF H<|qr 2 G<|qd G (fun _ S=>(aF fE rfl))<|qd G (fun _ S=>(aF eI rfl))<|qd G (fun _ S=>(aD cE cV rfl S (i:=1) G G))<|qr 3 G<|qd G (fun _ S=>(aF fE rfl))<|qd G (fun _ S=>(aF uV rfl))<|qd G (fun _ S=>(aE jF rfl (aIo S (i:=1) G G)).to (v' := .bool true) (congrArg Value.bool hhp))<|qr 1 G<|qK ?_;intro a H
   refine aL H G G G G (fun _ S=>(aF Be rfl)) ?_;intro a H
   refine aL H G G G G (fun _ S=>aE jF rfl (aIo S (i:=0) G G)) ?_;intro a H
   refine qF H<|qd G (fun _ S=>(fZ G G G))<|qd G (fun _ S=>(aF nD rfl))<|qd G (fun _ S=>aE aC rfl (aIo S (i:=0) G G))<|qd G (fun _ S=>(aF nE rfl))<|qd G (fun _ S=>aE aC rfl (aIo S (i:=0) G G))<|qK ?_;intro a H
   refine bD rfl ?_
   have hcl9:=eD (Dw y.pl y.ps y.PA y.pc y.xs y.XA y.xc out (y.prs.getD k aJn).helped (y.prs.getD k aJn).fr (y.prs.getD k aJn).to _ (hy.ps.now S) hyb.psn (hy.xs.now S) hyb.xsn) (fun _ _ h=>vO (Ci hok ho (show k<y.prs.length by omega)) h)
   refine aB H G G Tryz.func72 G G hcl9 ?_;clear H a hcl9
   rintro _ _ a ⟨t9,e9,A9,n9,c9,rfl,hwb,S2⟩ H;replace S:=S.call S2;clear S2;refine wpList_nil (And.intro (S.sel [0,1,2,3,4] rfl rfl) ?_);refine qF H<|qr 7 G<|qK ?_;intro a H
   refine bY ?_
   refine k21 _ _ ?_;replace H:=H.keep [0,1,2,7,13,31,32,33] rfl;refine sS H fun K22 k22=>sr 2 G<|sE ?_;intro a H
   refine k22 _ ?_;refine condN H rfl (fun hc5=>?_) (fun hc5=>?_)
   ·skip
    refine sO H<|sr 1 G<|sE ?_;intro a H
    refine k11 _ _ ?_;refine sO H<|sd (aH G G (by unfold i64ok;omega))<|sr 1 G<|sE ?_;intro a H
    exact k8 (g1-1) (k+1,_) a _ (by omega) (⟨by omega,by omega,Fp hp.2.2 (by omega) (by rw [hhp];exact hwb) (by omega)⟩) (S.sel [1,2,3,4] G G) (H.keep [7,33,0,1,2,31,32] rfl)
   refine wp_skip ?_;refine k11 _ _ ?_;refine sO H<|sd (aH G G (by unfold i64ok;omega))<|sr 1 G<|sE ?_;intro a H
   exact k8 (g1-1) (k+1,_) a _ (by omega) (⟨by omega,by omega,Aj hp.2.2 (by omega) (by rw [hhp];exact hwb) (by omega)⟩) (S.sel [1,2,3,4] G G) (H.keep [7,33,0,1,2,31,32] rfl)
  refine wp_exit ?_;refine k6 _ _ ?_;have hb9:b=keepB y d out:=by rw [hp.2.2,show k=y.prs.length by omega];rfl
  subst hb9;replace H:=H.keep [0,1,2,7] rfl;refine aA fun K26 k26=>?_
  refine ls 8 H<|sr 2 G<|sf Bh rfl<|sl S 0 Gz G G G<|sr 2 G<|sd (aN He G G)<|sr 1 G<|sE ?_;intro a H
  refine fJ (k:=(d,out)) (kepP y) H S (i:=3) rfl Rp (Ih Tryz.underlying133 Tryz.underlying3 aC aY) G G G (fun h e=>by subst e;exact Uj rfl h hh0) ?_;intro _ a S H
  refine k26 _ _ ?_;replace H:=H.keep [7] rfl;refine sS H fun K27 k27=>sr 2 G<|sE ?_;intro a H
  refine k27 _ ?_;refine wp_ret ?_;refine ret1 (fn:=Tryz.f51) rfl H rfl ?_;exact ⟨rfl,(S.sel [0,1,2,3] G G)⟩
 obtain rfl:=hh0 _ _ _ ho hk0
 replace H:=H.keep [0,1,2] rfl;refine sS H fun K28 k28=>sr 2 G<|sf Bh rfl<|sl S 0 Gz G G G<|sr 2 G<|sd (aN He G G)<|sd (fU S (i:=3) rfl Rp (Ih Tryz.underlying133 Tryz.underlying3 aC aY) Mm rfl (k:=(d,out)) rfl (fun h e=>by subst e;rw [hk0];exact ⟨rfl,rfl⟩))<|sr 5 G<|sE ?_;intro a H
 refine k28 _ ?_;refine wp_seq_k fun K29 k29=>?_
 replace H:=H.keep [0,1,2,7,8] rfl;refine sS H fun K30 k30=>sr 1 G<|sE ?_;intro a H
 refine k30 _ ?_;refine aU H rfl (fun hc6=>?_) (fun hc6=>?_)
 ·skip
  skip
  refine sS H fun K31 k31=>sr 2 G<|sE ?_;intro a H
  refine k31 _ ?_;refine wp_ret ?_;refine ret1 (fn:=Tryz.f51) rfl H rfl ?_;replace S:=aIu S (i:=3) rfl (Φ':=kepP y) (fun g e=>by subst e;exact hh0);exact ⟨rfl,(S.sel [0,1,2,3] G G)⟩
 skip
 cases hc6
end
section
theorem Lf {y:Yr} (hok:YOk y) {i:Nat} (hi:i<y.us.length):0≤(y.us.getD i aJk).kind∧(y.us.getD i aJk).kind≤3:=by
 have h:=(hok.unit hi).i
 unfold untI at h
 exact h.2.2.1
theorem stk0 {y:Yr} {l:List Tsk} {k j:Nat} (hk:k<4) (hj:j<1):([Value.int .i64 0,Value.int .i64 0,Value.int .i64 0,Value.int .i64 0]:List Value).getD k undef=stkC y l 0 0 0 k j:=by
 have e:stkC y l 0 0 0 k j = .int .i64 0:=rfl
 rw [e];match k,hk with
 | 0,_=>rfl
 | 1,_=>rfl
 | 2,_=>rfl
 | 3,_=>rfl
theorem Ak (y:Yr) (cb bl bs bk:Nat) (l:List Tsk) (LA:Option Addr) (lc:Nat) (w:World) (F:Nat→Prop) (S:St w F [boxM cb 94 [.int .i64 y.days,.int .i64 y.pl,.slice y.PA y.ps.length y.pc,.slice y.XA y.xs.length y.xc,.slice y.BA y.pe.length y.bc,.int .i64 y.limit,.bool y.help,.slice y.QA y.prs.length y.qc,.slice y.VA y.us.length y.vc,.int .i64 y.crew,.slice y.SA y.sps.length y.sc,.map (some bl),.map (some bs),.map (some bk)],mapK (encN (n:=21)) bl (livP y),mapK (fun n:Int=>Value.int .i64 n) bs (safP y),mapK enc2 bk (kepP y)] w) (hy:YIn w F y) (hyb:YBd y) (hok:YOk y) (hl:InS w F 3 LA l.length (aZ l)) (hln:l.length≤9223372036854775807) (htk:∀ k,k<l.length→tskI y (l.getD k aJl)) (hl60:l.length≤60) :
    Calls Tryz.prog 35 [.pointer (some ⟨cb,0,none⟩),.slice LA l.length lc].toArray w (Ret (fun v w'=>v = .tuple #[.int .i64 (cS y l).1,.int .i64 (cS y l).2]∧St w F [boxM cb 94 [.int .i64 y.days,.int .i64 y.pl,.slice y.PA y.ps.length y.pc,.slice y.XA y.xs.length y.xc,.slice y.BA y.pe.length y.bc,.int .i64 y.limit,.bool y.help,.slice y.QA y.prs.length y.qc,.slice y.VA y.us.length y.vc,.int .i64 y.crew,.slice y.SA y.sps.length y.sc,.map (some bl),.map (some bs),.map (some bk)],mapK (encN (n:=21)) bl (livP y),mapK (fun n:Int=>Value.int .i64 n) bs (safP y),mapK enc2 bk (kepP y)] w')):=by
 have hmx:maxLen=9223372036854775807:=rfl
 have hdy:=hok.days;have husn:=hyb.usn;have hspn:=hyb.spn
 have hD:((y.days.toNat:Nat):Int)=y.days:=by omega
 refine enter Tryz.func35 rfl Tryz.ntmps35 rfl (fun a H=>?_)
 skip
 refine sS H fun K1 k1=>sr 2 G<|sE ?_;intro a H
 refine k1 _ ?_;refine aA fun K2 k2=>?_
 refine ls 2 H<|sr 2 G<|sE ?_;intro a H
 refine aB H G G Tryz.func33 G G (Le y cb bl bs bk l LA lc _ _ ((S.sel [0,1,2,3] G G).startR) (hy.nowR (S.sel [0,1,2,3] G G)) hyb hok (hl.nowR (S.sel [0,1,2,3] G G)) hln htk) ?_;clear H a
 rintro _ _ a ⟨A6,c6,rfl,S2⟩ H;replace S:=St.callR (M:=[_,_,_,_]) (S.sel [0,1,2,3] rfl rfl) S2;clear S2;refine ls 1 H<|sr 1 G<|sE ?_;intro a H
 refine k2 _ _ ?_;refine aA fun K3 k3=>?_
 refine aM H rfl S aDv ?_;intro b7 _ a hb7 hbw7 S H
 refine k3 _ _ ?_;refine wp_seq_k fun K4 k4=>?_
 replace S:=Ff S (i:=0) rfl (by show 4≤maxLen;decide);replace S:=S.recell (i:=0) rfl (cell':=stkC y l 0 0 0) (fun k9 j9 hk9 hj9=>stk0 hk9 hj9);replace H:=H.keep [0,1,6,7] rfl;refine sS H fun K5 k5=>sr 2 G<|sf fE rfl<|sf dN rfl<|sl S 2 aC G G G<|sr 1 G<|sE ?_;intro a H
 refine k5 _ ?_;refine wp_block ?_;refine loop_st (X:=Nat) (R0:=_) [0,1,6,7,23] H rfl (fun d=>[(24,.int .i64 (d:Int))]) (fun d=>[ownM 101 1 (some ⟨b7,0,none⟩) 4 4 (stkC y l d 0 0)]) (fun g d=>(d≤y.days.toNat∧g+d=y.days.toNat)∧∀ q,q<d→faultD y l q=0) (y.days.toNat) 0 ?_ (S.sel [0,1,2,3,4,5] G G) (H.keep [24,0,1,6,7,23] rfl) ?_
 · exact ⟨⟨by omega,by omega⟩,fun q hq=>absurd hq (Nat.not_lt_zero q)⟩
 clear H S a;intro g1 x1 a w1 hp S H K6 k6;obtain ⟨d,rfl⟩:∃ y,y=x1:=⟨_,rfl⟩;obtain ⟨⟨hdl,hgd⟩,hfl⟩:=hp;refine sS H fun K7 k7=>sr 1 G<|sE ?_;intro a H
 refine k7 _ ?_;refine wp_seq_k fun K8 k8=>?_
 refine condL H rfl (fun hc1=>?_) (fun hc1=>?_)
 ·skip
  refine wp_skip ?_;refine k8 _ _ ?_;refine wp_seq_k fun K9 k9=>?_
  refine wp_block ?_;refine sS H fun K10 k10=>sr 2 G<|sE ?_;intro a H
  refine k10 _ ?_;refine wp_seq_k fun K11 k11=>?_
  replace H:=H.keep [0,1,6,7,8,23,24] rfl;refine sS H fun K12 k12=>sr 2 G<|sf fE rfl<|sf gY rfl<|sl S 2 kA G G G<|sL kU rfl<|sr 1 G<|sE ?_;intro a H
  refine k12 _ ?_;refine wp_block ?_;refine loop_st (X:=Nat) (R0:=_) [0,1,6,7,8,23,24,31,32] H rfl (fun n=>[(33,.int .i64 (n:Int))]) (fun n=>[ownM 101 1 (some ⟨b7,0,none⟩) 4 4 (stkC y l d n 0)]) (fun g n=>n≤y.sps.length∧g+n=y.sps.length) (y.sps.length) 0 ?_ (S.sel [0,1,2,3,4,5] G G) (H.keep [33,0,1,6,7,8,23,24,31,32] rfl) ?_
  · exact ⟨by omega,by omega⟩
  clear H S a;intro g2 x2 a w2 hp S H K13 k13;obtain ⟨n,rfl⟩:∃ y,y=x2:=⟨_,rfl⟩;refine sS H fun K14 k14=>sr 1 G<|sE ?_;intro a H
  refine k14 _ ?_;refine wp_seq_k fun K15 k15=>?_
  refine condL H rfl (fun hc2=>?_) (fun hc2=>?_)
  ·skip
   refine wp_skip ?_;refine k15 _ _ ?_;refine wp_seq_k fun K16 k16=>?_
   refine wp_block ?_;refine aA fun K17 k17=>?_
   refine ls 2 H<|si kU lG G G (hy.sps.adr (by omega)) (by omega)<|sd ((aV Gw lG rfl S hy.sps (by omega) (by omega)))<|sE ?_;intro a H
   refine aM H rfl S Jt ?_;intro b10 _ a hb10 hbw10 S H
   refine aI H S (i:=0) G G G G lG G G ?_
   clear H a S;intro _ a S H;refine k17 _ _ ?_;have hsq:=mS.1 (hok.yr.2.2.2.2.2 n (by omega));refine sS H fun K18 k18=>sf uZ rfl<|sl S 0 aC G G G<|sr 2 G<|sE ?_;intro a H
   refine k18 _ ?_;refine condE H rfl (fun hc3=>?_) (fun hc3=>?_)
   ·skip
    have hb0:=nO (d:=d) (k:=(y.sps.getD n aJs).kind.toNat) hok n (by omega)
    have hb1:=nO (d:=d) (k:=(y.sps.getD n aJs).kind.toNat) hok y.sps.length (Nat.le_refl _)
    have hb2:=Cf (y:=y) (l:=l) (d:=d) (k:=(y.sps.getD n aJs).kind.toNat) 0
    have hb3:=Up (l:=l) (k:=(y.sps.getD n aJs).kind.toNat) hok (by omega) d
    have hb4:=hok.yr.2.2.2.2.1
    replace H:=H.keep [0,1,6,7,8,10,23,24,31,32,33] rfl;refine iO 8 (by kernel_rfl) (by kernel_rfl) ?_;replace S:=S.drew;refine sF H<|sf vB rfl<|sl S 0 aC G G G<|sd (dS Tryz.underlying101 aY G G (by omega) (by omega))<|slm aC rfl (aIq S (i:=1) (k:=(y.sps.getD n aJs).kind.toNat) (j:=0) rfl (by omega) (by omega))<|sf vD rfl<|sl S 0 aC G G G<|sd (aH G G (by unfold i64ok;omega))<|sd (dS Tryz.underlying101 aY G G (by omega) (by omega))<|sE ?_;intro a H
    refine bB H S (i:=1) (kk:=(y.sps.getD n aJs).kind.toNat) (j:=0) G G G (by omega) (by omega) aY rfl ?_
    clear H a S;intro _ a S H;refine k16 _ _ ?_;replace H:=H.keep [0,1,6,7,8,23,24,31,32,33] rfl;refine sO H<|sd (aH G G (by unfold i64ok;omega))<|sr 1 G<|sE ?_;intro a H
    replace S:=S.recell (i:=1) rfl (cell':=stkC y l d (n+1) 0) (fun k9 j9 hk9 hj9=>aAk (q:=(y.sps.getD n aJs).kind.toNat) hc3 (by omega) rfl k9 j9 hj9);exact k13 (g2-1) (n+1) a _ (by omega) (⟨by omega,by omega⟩) (S.sel [1,2,3,4,5,6] G G) (H.keep [33,0,1,6,7,8,23,24,31,32] rfl)
   refine wp_skip ?_;refine k16 _ _ ?_;refine sO H<|sd (aH G G (by unfold i64ok;omega))<|sr 1 G<|sE ?_;intro a H
   rw [aAl hc3] at S;exact k13 (g2-1) (n+1) a _ (by omega) (⟨by omega,by omega⟩) (S.sel [1,2,3,4,5,6] G G) (H.keep [33,0,1,6,7,8,23,24,31,32] rfl)
  refine wp_exit ?_;refine k11 _ _ ?_;refine sS H fun K22 k22=>sr 2 G<|sE ?_;intro a H
  refine k22 _ ?_;refine wp_seq_k fun K23 k23=>?_
  refine sS H fun K24 k24=>sr 1 G<|sL bO rfl<|sr 1 G<|sE ?_;intro a H
  refine k24 _ ?_;refine wp_block ?_;obtain rfl:n=y.sps.length:=by omega
  refine loop_st (X:=Nat×Int×Bool) (R0:=_) [0,1,6,7,8,23,24,50,51] H rfl (fun ⟨q,jb,sh⟩=>[(11,.int .i64 jb),(12,.bool sh),(52,.int .i64 (q:Int))]) (fun ⟨q,jb,sh⟩=>[ownM 101 1 (some ⟨b7,0,none⟩) 4 4 (stkC y l d y.sps.length q)]) (fun g ⟨q,jb,sh⟩=>(q≤l.length∧g+q=l.length)∧jb=jbS l d q∧sh=shS y l d q) (l.length) (0,0,false) ?_ (S.sel [0,1,2,3,4,5] G G) (H.keep [11,12,52,0,1,6,7,8,23,24,50,51] rfl) ?_
  · exact ⟨⟨by omega,by omega⟩,rfl,rfl⟩
  clear H S a;intro g3 x3 a w3 hp S H K25 k25;obtain ⟨q,jb,sh⟩:=x3;dsimp only at hp S H;obtain ⟨⟨hql,hgq⟩,hjb9,hsh9⟩:=hp;refine sS H fun K26 k26=>sr 1 G<|sE ?_;intro a H
  refine k26 _ ?_;refine wp_seq_k fun K27 k27=>?_
  refine condL H rfl (fun hc4=>?_) (fun hc4=>?_)
  ·skip
   refine wp_skip ?_;refine k27 _ _ ?_;refine wp_seq_k fun K28 k28=>?_
   refine wp_block ?_;refine aA fun K29 k29=>?_
   refine ls 2 H<|si bO bK G G (hl.adr (by omega)) (by omega)<|sd ((aV jG bK rfl S hl (by omega) (by omega)))<|sE ?_;intro a H
   refine aM H rfl S fO ?_;intro b14 _ a hb14 hbw14 S H
   refine aI H S (i:=0) G G G G bK G G ?_
   clear H a S;intro _ a S H;refine k29 _ _ ?_;refine wp_seq_k fun K30 k30=>?_
   have htt:=htk q (by omega);unfold tskI at htt
   refine sS H fun K31 k31=>sf eB rfl<|sl S 0 aC G G G<|sr 2 G<|sE ?_;intro a H
   refine k31 _ ?_;refine condN H rfl (fun hc5=>?_) (fun hc5=>?_)
   ·skip
    refine wp_exit ?_;refine k28 _ _ ?_;replace H:=H.keep [0,1,6,7,8,11,12,23,24,50,51,52] rfl;refine sO H<|sd (aH G G (by unfold i64ok;omega))<|sr 1 G<|sE ?_;intro a H
    rw [Fh (fun h=>hc5 h.1)] at S;exact k25 (g3-1) (q+1,_,_) a _ (by omega) (⟨⟨by omega,by omega⟩,aDm hjb9 hc5,Uq hsh9 (fun h=>hc5 h.1)⟩) (S.sel [1,2,3,4,5,6] G G) (H.keep [11,12,52,0,1,6,7,8,23,24,50,51] rfl)
   refine wp_skip ?_;refine k30 _ _ ?_;have hjb:=Il (l:=l) (d:=d) q;rw [←hjb9] at hjb;refine sS H fun K33 k33=>sr 1 G<|sd (aH G G (by unfold i64ok;omega))<|sr 1 G<|sE ?_;intro a H
   refine k33 _ ?_;refine sS H fun K34 k34=>sf gL rfl<|sl S 0 aC G G G<|sr 1 G<|sE ?_;intro a H
   refine k34 _ ?_;refine condE H rfl (fun hc6=>?_) (fun hc6=>?_)
   ·skip
    have hkk:=Lf hok (show (l.getD q aJl).unit.toNat<y.us.length by omega)
    replace H:=H.keep [0,1,6,7,8,11,12,14,23,24,50,51,52] rfl;replace S:=S.drew;refine sD H fun K35 k35=>sr 2 G<|sf fE rfl<|sf cO rfl<|sl S 3 dR G G G<|sf eL rfl<|sl S 0 aC G G G<|sI cX dG G G (hy.us.adr (by omega)) (by omega) (by omega)<|sp uY rfl<|slm aC rfl (hy.us.rd S (by omega) (by omega))<|sr 1 G<|sE ?_;intro a H
    refine k35 _ ?_;have hb1:=nO (d:=d) (k:=(y.us.getD (l.getD q aJl).unit.toNat aJk).kind.toNat) hok y.sps.length (Nat.le_refl _);have hb2:=Cf (y:=y) (l:=l) (d:=d) (k:=(y.us.getD (l.getD q aJl).unit.toNat aJk).kind.toNat) q;have hb3:=Up (l:=l) (k:=(y.us.getD (l.getD q aJl).unit.toNat aJk).kind.toNat) hok (by omega) d;have hb4:=hok.yr.2.2.2.2.1;replace H:=H.keep [0,1,6,7,8,11,12,15,23,24,50,51,52] rfl;refine aA fun K36 k36=>?_
    refine ls 5 H<|sr 1 G<|sd (dS Tryz.underlying101 aY G G (by omega) (by omega))<|slm aC rfl (aIq S (i:=1) (k:=(y.us.getD (l.getD q aJl).unit.toNat aJk).kind.toNat) (j:=0) rfl (by omega) (by omega))<|sd (aS G G (by unfold i64ok;omega))<|sd (dS Tryz.underlying101 aY G G (by omega) (by omega))<|sE ?_;intro a H
    refine bB H S (i:=1) (kk:=(y.us.getD (l.getD q aJl).unit.toNat aJk).kind.toNat) (j:=0) G G G (by omega) (by omega) aY rfl ?_
    clear H a S;intro _ a S H;refine k36 _ _ ?_;replace S:=S.recell (i:=1) rfl (cell':=stkC y l d y.sps.length (q+1)) (fun k9 j9 hk9 hj9=>aAm (q:=(y.us.getD (l.getD q aJl).unit.toNat aJk).kind.toNat) ⟨by omega,hc6⟩ (show tkK y l q=_ by unfold tkK;omega) rfl k9 j9 hj9);replace H:=H.keep [0,1,6,7,8,11,12,15,23,24,50,51,52] rfl;refine sO H<|sr 2 G<|sg 4 1 81 85 false G G (fun hg2=>sy hg2<|sr 1 G<|sy hg2<|sd (dS Tryz.underlying101 aY G G (by omega) (by omega))<|sy hg2<|slm aC rfl (aIq S (i:=1) (k:=(y.us.getD (l.getD q aJl).unit.toNat aJk).kind.toNat) (j:=0) rfl (by omega) (by omega))<|sy hg2<|sr 1 G<|sz 4 G G G)<|so G G G<|sr 1 G<|sE ?_;intro a H
    refine k28 _ _ ?_;replace H:=H.keep [0,1,6,7,8,11,12,23,24,50,51,52] rfl;refine sO H<|sd (aH G G (by unfold i64ok;omega))<|sr 1 G<|sE ?_;intro a H
    exact k25 (g3-1) (q+1,_,_) a _ (by omega) (⟨⟨by omega,by omega⟩,yL hjb9 (by omega),Ur (q:=(y.us.getD (l.getD q aJl).unit.toNat aJk).kind.toNat) hsh9 ⟨by omega,hc6⟩ (show tkK y l q=_ by unfold tkK;omega) rfl⟩) (S.sel [1,2,3,4,5,6] G G) (H.keep [11,12,52,0,1,6,7,8,23,24,50,51] rfl)
   skip
   refine wp_skip ?_;refine k28 _ _ ?_;refine sO H<|sd (aH G G (by unfold i64ok;omega))<|sr 1 G<|sE ?_;intro a H
   rw [Fh (fun h=>hc6 h.2)] at S;exact k25 (g3-1) (q+1,_,_) a _ (by omega) (⟨⟨by omega,by omega⟩,yL hjb9 (by omega),Uq hsh9 (fun h=>hc6 h.2)⟩) (S.sel [1,2,3,4,5,6] G G) (H.keep [11,12,52,0,1,6,7,8,23,24,50,51] rfl)
  refine wp_exit ?_;refine k23 _ _ ?_;refine wp_block ?_;obtain rfl:q=l.length:=by omega
  subst hjb9;subst hsh9;replace H:=H.keep [0,1,6,7,8,11,12,23,24] rfl;refine sS H fun K40 k40=>sr 3 G<|sf fE rfl<|sf uW rfl<|sl S 2 aC G G G<|sr 2 G<|sE ?_;intro a H
  refine k40 _ ?_;refine condL H rfl (fun hc7=>?_) (fun hc7=>?_)
  ·skip
   replace H:=H.keep [8] rfl;refine sS H fun K41 k41=>sr 3 G<|sE ?_;intro a H
   refine k41 _ ?_;refine wp_ret ?_;refine ret2 (fn:=Tryz.f35) rfl H G G ?_;rw [mR (show d<y.days.toNat by omega) hfl (by rw [nP (by omega)];decide),nP (by omega)];exact ⟨rfl,(S.sel [2,3,4,5] G G)⟩
  refine sS H fun K42 k42=>sr 2 G<|sE ?_;intro a H
  refine k42 _ ?_;refine aU H rfl (fun hc8=>?_) (fun hc8=>?_)
  ·skip
   try simp only [oz] at hc8
   refine sS H fun K43 k43=>sr 3 G<|sE ?_;intro a H
   refine k43 _ ?_;refine wp_ret ?_;refine ret2 (fn:=Tryz.f35) rfl H G G ?_;rw [mR (show d<y.days.toNat by omega) hfl (by rw [pP (by omega) hc8];decide),pP (by omega) hc8];exact ⟨rfl,(S.sel [2,3,4,5] G G)⟩
  try simp only [oz] at hc8
  replace H:=H.keep [0,1,6,7,8,23,24] rfl;refine aA fun K44 k44=>?_
  refine ls 6 H<|sr 4 G<|si aQ aY G G (aIp S (i:=1) rfl (by omega)) (by omega)<|slm aC rfl (aIq S (i:=1) (k:=d) (j:=0) rfl (by omega) (by omega))<|sE ?_;intro a H
  refine aB H G G Tryz.func51 G G (Oj y cb bl bs bk (d:Int) (outY y l d y.us.length) _ _ ((S.sel [2,3,4,5] G G).startR) (hy.nowR (S.sel [2,3,4,5] G G)) hyb hok (sM hok (Nat.le_refl _))) ?_;clear H a
  rintro _ _ a ⟨rfl,S2⟩ H;replace S:=St.callR (M:=[_,_,_,_]) (S.sel [2,3,4,5,0,1] rfl rfl) S2;clear S2;refine ls 2 H<|sr 2 G<|sE ?_;intro a H
  refine k44 _ _ ?_;refine aU H rfl (fun hc9=>?_) (fun hc9=>?_)
  ·skip
   try simp only [oz] at hc9
   replace H:=H.keep [8] rfl;refine sS H fun K45 k45=>sr 3 G<|sE ?_;intro a H
   refine k45 _ ?_;refine wp_ret ?_;refine ret2 (fn:=Tryz.f35) rfl H G G ?_;rw [mR (show d<y.days.toNat by omega) hfl (by rw [sN (by omega) hc8 hc9];decide),sN (by omega) hc8 hc9];exact ⟨rfl,(S.sel [0,1,2,3] G G)⟩
  try simp only [oz] at hc9
  replace H:=H.keep [0,1,6,7,8,23,24] rfl;refine aA fun K46 k46=>?_
  refine ls 5 H<|sr 3 G<|si aQ aY G G (aIp S (i:=5) rfl (by omega)) (by omega)<|slm aC rfl (aIq S (i:=5) (k:=d) (j:=0) rfl (by omega) (by omega))<|sE ?_;intro a H
  refine aB H G G Tryz.func52 G G (Im y cb bl bs bk (outY y l d y.us.length) _ _ ((S.sel [0,1,2,3] G G).startR) (hy.nowR (S.sel [0,1,2,3] G G)) hyb hok (sM hok (Nat.le_refl _))) ?_;clear H a
  rintro _ _ a ⟨rfl,S2⟩ H;replace S:=St.callR (M:=[_,_,_,_]) (S.sel [0,1,2,3,4,5] rfl rfl) S2;clear S2;refine ls 2 H<|sr 2 G<|sE ?_;intro a H
  refine k46 _ _ ?_;refine aU H rfl (fun hc10=>?_) (fun hc10=>?_)
  ·skip
   try simp only [oz] at hc10
   replace H:=H.keep [8] rfl;refine sS H fun K47 k47=>sr 3 G<|sE ?_;intro a H
   refine k47 _ ?_;refine wp_ret ?_;refine ret2 (fn:=Tryz.f35) rfl H G G ?_;rw [mR (show d<y.days.toNat by omega) hfl (by rw [vM (by omega) hc8 hc9 hc10];decide),vM (by omega) hc8 hc9 hc10];exact ⟨rfl,(S.sel [0,1,2,3] G G)⟩
  try simp only [oz] at hc10
  refine wp_skip ?_;refine k9 _ _ ?_;refine sO H<|sd (aH G G (by unfold i64ok;omega))<|sr 1 G<|sE ?_;intro a H
  rw [Oe] at S;exact k6 (g1-1) (d+1) a _ (by omega) (⟨⟨by omega,by omega⟩,Fi hfl (vN (by omega) hc8 hc9 hc10)⟩) (S.sel [4,5,0,1,2,3] G G) (H.keep [24,0,1,6,7,23] rfl)
 refine wp_exit ?_;refine k4 _ _ ?_;refine sS H fun K49 k49=>sr 2 G<|sE ?_;intro a H
 refine k49 _ ?_;refine wp_ret ?_;refine ret2 (fn:=Tryz.f35) rfl H G G ?_;rw [qX (fun q hq=>hfl q (by omega))];exact ⟨rfl,(S.sel [2,3,4,5] G G)⟩
theorem aEt (y:Yr) (l:List Tsk) (LA:Option Addr) (lc:Nat) (w:World) (hy:YIn w noF y) (hyb:YBd y) (hl:InS w noF 3 LA l.length (aZ l)) (hln:l.length≤9223372036854775807) :
    Calls Tryz.prog 11 [.agg [.int .i64 y.days,.int .i64 y.pl,.slice y.PA y.ps.length y.pc,.slice y.XA y.xs.length y.xc,.slice y.BA y.pe.length y.bc,.int .i64 y.limit,.bool y.help,.slice y.QA y.prs.length y.qc,.slice y.VA y.us.length y.vc,.int .i64 y.crew,.slice y.SA y.sps.length y.sc].toArray,.slice LA l.length lc].toArray w (Ret (fun v w'=>(taskE y l≠0∧v = .tuple #[.slice none 0 0,.int .i64 (taskE y l)]∧St w noF [] w')∨(taskE y l=0∧∃ A c,v = .tuple #[.slice A y.days.toNat c,.int .i64 0]∧St w noF [ownM 3 1 A y.days.toNat c (setsV y l y.us.length)] w'))):=by
 refine enter Tryz.func11 rfl Tryz.ntmps11 rfl (fun a H=>?_)
 have S:=St.start w
 refine aA fun K1 k1=>?_
 refine aO H rfl S G G ?_;intro b2 _ a hb2 hbw2 S H
 refine ls 2 H<|sr 2 G<|sE ?_;intro a H
 refine k1 _ _ ?_;refine wp_seq_k fun K2 k2=>?_
 refine aA fun K3 k3=>?_
 refine ls 2 H<|sd ((aD bI bG rfl S (i:=0) G G))<|sr 1 G<|sE ?_;intro a H
 refine aB H G G Tryz.func9 G G (Fm y l LA lc _ (hy.now S) hyb (hl.now S) hln) ?_;clear H a
 rintro _ _ a ⟨rfl,S2⟩ H;replace S:=S.call S2;clear S2;refine ls 1 H<|sr 1 G<|sE ?_;intro a H
 refine k3 _ _ ?_;refine sS H fun K4 k4=>sr 2 G<|sE ?_;intro a H
 refine k4 _ ?_;refine condN H rfl (fun hc1=>?_) (fun hc1=>?_)
 ·skip
  replace H:=H.keep [6] rfl;refine sS H fun K5 k5=>sr 3 G<|sE ?_;intro a H
  refine k5 _ ?_;refine wp_ret ?_;refine ret2 (fn:=Tryz.f11) rfl H G G ?_;exact .inl ⟨hc1,rfl,(S.sel [] G G)⟩
 have hte:taskE y l=0:=by omega
 have htk0:=pN hte
 have hok:=nN htk0.1
 have htk:∀ k,k<l.length→tskI y (l.getD k aJl):=fun k hk=>yC (htk0.2.2 k hk)
 refine wp_skip ?_;refine k2 _ _ ?_;refine aA fun K6 k6=>?_
 refine ls 1 H<|sd ((aD bI bG rfl S (i:=0) G G))<|sE ?_;intro a H
 refine aB H G G Tryz.func32 G G (Cg y _) ?_;clear H a
 rintro _ _ a ⟨cb,bl,bs,bk,rfl,S2⟩ H;replace S:=S.call S2;clear S2;refine ls 1 H<|sr 1 G<|sE ?_;intro a H
 refine aB H G G Tryz.func33 G G (Le y cb bl bs bk l LA lc _ _ ((S.sel [0,1,2,3] G G).startR) (hy.nowR (S.sel [0,1,2,3] G G)) hyb hok (hl.nowR (S.sel [0,1,2,3] G G)) hln htk) ?_;clear H a
 rintro _ _ a ⟨A6,c6,rfl,S2⟩ H;replace S:=St.callR (M:=[_,_,_,_]) (S.sel [0,1,2,3,4] rfl rfl) S2;clear S2;refine ls 2 H<|sr 2 G<|sE ?_;intro a H
 refine k6 _ _ ?_;refine wp_ret ?_;refine ret2 (fn:=Tryz.f11) rfl H G G ?_;exact .inr ⟨hte,A6,c6,rfl,(S.sel [0] G G)⟩
theorem Ux (y:Yr) (l:List Tsk) (LA:Option Addr) (lc:Nat) (w:World) (hy:YIn w noF y) (hyb:YBd y) (hl:InS w noF 3 LA l.length (aZ l)) (hln:l.length≤9223372036854775807) :
    Calls Tryz.prog 14 [.agg [.int .i64 y.days,.int .i64 y.pl,.slice y.PA y.ps.length y.pc,.slice y.XA y.xs.length y.xc,.slice y.BA y.pe.length y.bc,.int .i64 y.limit,.bool y.help,.slice y.QA y.prs.length y.qc,.slice y.VA y.us.length y.vc,.int .i64 y.crew,.slice y.SA y.sps.length y.sc].toArray,.slice LA l.length lc].toArray w (Ret (fun v w'=>(taskE y l≠0∧v = .tuple #[.int .i64 0,.int .i64 0,.int .i64 (taskE y l)]∧St w noF [] w')∨(taskE y l=0∧v = .tuple #[.int .i64 (cS y l).1,.int .i64 (cS y l).2,.int .i64 0]∧St w noF [] w'))):=by
 refine enter Tryz.func14 rfl Tryz.ntmps14 rfl (fun a H=>?_)
 have S:=St.start w
 refine aA fun K1 k1=>?_
 refine aO H rfl S G G ?_;intro b2 _ a hb2 hbw2 S H
 refine ls 3 H<|sr 3 G<|sE ?_;intro a H
 refine k1 _ _ ?_;refine wp_seq_k fun K2 k2=>?_
 refine aA fun K3 k3=>?_
 refine ls 2 H<|sd ((aD bI bG rfl S (i:=0) G G))<|sr 1 G<|sE ?_;intro a H
 refine aB H G G Tryz.func9 G G (Fm y l LA lc _ (hy.now S) hyb (hl.now S) hln) ?_;clear H a
 rintro _ _ a ⟨rfl,S2⟩ H;replace S:=S.call S2;clear S2;refine ls 1 H<|sr 1 G<|sE ?_;intro a H
 refine k3 _ _ ?_;replace H:=H.keep [1,2,6] rfl;refine sS H fun K4 k4=>sr 2 G<|sE ?_;intro a H
 refine k4 _ ?_;refine condN H rfl (fun hc1=>?_) (fun hc1=>?_)
 ·skip
  refine sS H fun K5 k5=>sr 4 G<|sE ?_;intro a H
  refine k5 _ ?_;refine wp_ret ?_;refine ret3 (fn:=Tryz.f14) rfl H G G G ?_;exact .inl ⟨hc1,rfl,(S.sel [] G G)⟩
 have hte:taskE y l=0:=by omega
 have htk0:=pN hte
 have hok:=nN htk0.1
 have htk:∀ k,k<l.length→tskI y (l.getD k aJl):=fun k hk=>yC (htk0.2.2 k hk)
 refine wp_skip ?_;refine k2 _ _ ?_;replace H:=H.keep [1,2] rfl;refine aA fun K6 k6=>?_
 refine ls 1 H<|sd ((aD bI bG rfl S (i:=0) G G))<|sE ?_;intro a H
 refine aB H G G Tryz.func32 G G (Cg y _) ?_;clear H a
 rintro _ _ a ⟨cb,bl,bs,bk,rfl,S2⟩ H;replace S:=S.call S2;clear S2;refine ls 1 H<|sr 1 G<|sE ?_;intro a H
 refine aB H G G Tryz.func35 G G (Ak y cb bl bs bk l LA lc _ _ ((S.sel [0,1,2,3] G G).startR) (hy.nowR (S.sel [0,1,2,3] G G)) hyb hok (hl.nowR (S.sel [0,1,2,3] G G)) hln htk htk0.2.1) ?_;clear H a
 rintro _ _ a ⟨rfl,S2⟩ H;replace S:=St.callR (M:=[_,_,_,_]) (S.sel [0,1,2,3,4] rfl rfl) S2;clear S2;refine ls 5 H<|sr 5 G<|sE ?_;intro a H
 refine k6 _ _ ?_;replace H:=H.keep [4,5] rfl;refine sS H fun K7 k7=>sr 5 G<|sE ?_;intro a H
 refine k7 _ ?_;refine wp_ret ?_;refine ret3 (fn:=Tryz.f14) rfl H G G G ?_;exact .inr ⟨hte,rfl,(S.sel [] G G)⟩
end
section
theorem jZ {l:List Use} {m k:Nat} (hk:k<m):(l.take m).getD k aJm=l.getD k aJm:=by
 rw [List.getD_eq_getElem?_getD,List.getD_eq_getElem?_getD,List.getElem?_take_of_lt hk]
theorem sQ {p:Part} {l:List Use} {m:Nat}:∀ k,k≤m→fwd p (l.take m) k=fwd p l k:=by
  intro k;induction k with
  | zero=>intro _;rfl
  | succ k ih=>
    intro hk;rw [fwd,fwd,jZ (show k<m by omega),ih (by omega)]
theorem Al {l:List Use} {m:Nat}:∀ k,k≤m→sumT (l.take m) k=sumT l k:=by
  intro k;induction k with
  | zero=>intro _;rfl
  | succ k ih=>
    intro hk;rw [sumT,sumT,jZ (show k<m by omega),ih (by omega)]
theorem rA {l:List Use} {m k:Nat} (hk:k≤m):prevD (l.take m) k=prevD l k:=by
 cases k with
 | zero=>rfl
 | succ k=>show ((l.take m).getD k aJm).day=_;rw [jZ (by omega)];rfl
theorem Fq {n:Nat} {l:List Use} {m k:Nat} (hk:k≤m) (h:fH n l k=true):fH n (l.take m) k=true:=by
 unfold fH at *
 rw [List.all_eq_true] at *;intro i hi;have hi':=List.mem_range.1 hi;rw [rA (by omega),jZ (by omega)];exact h i hi
theorem Ol {n:Nat} {l:List Use} {k j:Nat} (hj:j≤k) (h:fH n l k=true):fH n l j=true:=by
 unfold fH at *
 rw [List.all_eq_true] at *;intro i hi;have hi':=List.mem_range.1 hi;exact h i (List.mem_range.2 (by omega))
theorem Om {p:Part} {l:List Use} (h:PartOk p l):cC p l=0:=by
 unfold cC
 rw [if_pos h.hdr,if_pos h.rates,if_pos h.len,if_pos h.uses]
theorem aAu {p:Part} {l:List Use} (h:PartOk p l) {m:Nat} (hm:m≤l.length):PartOk p (l.take m):=by
 have e:(l.take m).length=m:=by rw [List.length_take];omega
 refine ⟨h.hdr,h.rates,?_,?_⟩
 ·have:=h.len;omega
 ·rw [e];exact Fq (Nat.le_refl _) (Ol hm h.uses)
theorem Uy {p:Part} {l:List Use} (h:PartOk p l) {k:Nat} (hk:k<l.length):(dO p (l.getD k aJm)).1≤(dO p (l.getD k aJm)).2:=by
 have hu:=h.use hk
 unfold useOk at hu
 simp only [decide_eq_true_eq] at hu
 have hr:=h.rate (k:=(l.getD k aJm).cls.toNat) (by omega)
 unfold iZ at hr
 simp only [decide_eq_true_eq] at hr
 unfold dO
 exact Int.mul_le_mul_of_nonneg_left hr.2.1 (by omega)
theorem Am {p:Part} {l:List Use} (h:PartOk p l) {k:Nat} (hk:k<l.length) (hf:∀ j,k<j→j<l.length→(l.getD j aJm).meas=false):bJ p l k=fwd p l (k+1):=by
  have key:∀ d,d<l.length→(∀ j,l.length-1-d<j→j<l.length→(l.getD j aJm).meas=false)→bkw p l d=fwd p l (l.length-d):=by
    intro d;induction d with
    | zero=>intro _ _;rfl
    | succ d ih=>
      intro hd hf;have h1:=ih (by omega) fun j h1 h2=>hf j (by omega) h2
      have h2:(l.getD (l.length-1-d) aJm).meas=false:=hf _ (by omega) (by omega)
      have h3:=Uy h (show l.length-1-d<l.length by omega)
      have e1:l.length-d=(l.length-1-d)+1:=by omega
      have e2:l.length-(d+1)=l.length-1-d:=by omega
      rw [bkw,h1,e1,e2,vG h2];unfold meetS addS;refine Prod.ext ?_ ?_
      · dsimp only;omega
      · dsimp only;omega
  unfold bJ
  rw [key (l.length-1-k) (by omega) (fun j h1 h2=>hf j (by omega) h2)];congr 1;omega
theorem On {p:Part} {l:List Use} (h:PartOk p l) {m:Nat} (hm:m≤l.length) (hf:∀ j,m≤j→j<l.length→(l.getD j aJm).meas=false):∀ d k,k+d+1=m→bJ p (l.take m) k=bJ p l k:=by
  have e:(l.take m).length=m:=by rw [List.length_take];omega
  intro d;induction d with
  | zero=>
    intro k hk;rw [Am h (by omega) (fun j h1 h2=>hf j (by omega) h2),Am (aAu h hm) (by omega) (fun j h1 h2=>by omega),sQ _ (by omega)]
  | succ d ih=>
    intro k hk;have h1:=ih (k+1) (by omega);rw [eK (l:=l.take m) (by omega),eK (l:=l) (by omega),h1,sQ _ (by omega),jZ (by omega)]
theorem Oo {p:Part} {l:List Use} {m k:Nat} (hk:k<m) (a:Int):wornB p (l.take m) k a=wornB p l k a:=by
 unfold wornB
 rw [Al _ (by omega),jZ hk]
end
section
def inside (a b:Int×Int):Prop:=b.1≤a.1∧a.2≤b.2
def bT (day turns cls:Int):Use:=⟨day,turns,cls,false,0,0⟩
theorem aAv {p:Part} {l:List Use} (h:PartOk p l):∀ d k,k+d+1=l.length→(bJ p l k).2≤(fwd p l l.length).2:=by
  intro d;induction d with
  | zero=>intro k hk;rw [lL (by omega)];exact Int.le_refl _
  | succ d ih=>
    intro k hk;have h1:=ih (k+1) (by omega);have h2:=lA h (show k+1<l.length by omega);rw [eK (by omega)];unfold meetS;dsimp only;omega
theorem yN (p:Part) (l:List Use):jT p l=(fwd p l l.length).2:=by
 unfold jT
 split
 ·rename_i h;rw [h];rfl
 ·rfl
theorem aAw {p:Part} {l:List Use} (h:PartOk p l):∀ d k,k+d=l.length→sumT l k≤sumT l l.length:=by
  intro d;induction d with
  | zero=>intro k hk;rw [show k=l.length by omega];exact Int.le_refl _
  | succ d ih=>
    intro k hk;have h1:=ih (k+1) (by omega);have hu:=h.use (show k<l.length by omega);unfold useOk at hu;simp only [decide_eq_true_eq] at hu;rw [sumT] at h1;omega
theorem aEu {p:Part} {l:List Use} (h:PartOk p l):∀ d k,k+d+1=l.length→(l.getD k aJm).day≤prevD l l.length:=by
  intro d;induction d with
  | zero=>intro k hk;rw [show l.length=k+1 by omega];exact Int.le_refl _
  | succ d ih=>
    intro k hk;have h1:=ih (k+1) (by omega);have hu:=h.use (show k+1<l.length by omega);unfold useOk at hu;simp only [decide_eq_true_eq] at hu;have:prevD l (k+1)=(l.getD k aJm).day:=rfl;omega
theorem oV {l:List Use} {u:Use}:(l++[u]).getD l.length aJm=u:=by
 rw [List.getD_eq_getElem?_getD,List.getElem?_append_right (Nat.le_refl _)];simp
theorem jN (l:List Use) (u:Use):(l++[u]).take l.length=l:=by simp
theorem aAx {p:Part} {l:List Use} (h:PartOk p l) {day turns cls:Int} (hl:l.length<40) (hd:prevD l l.length≤day∧day≤100000) (ht:0≤turns∧turns≤1000000) (hc:0≤cls∧cls≤(p.rates.length:Int)-1):PartOk p (l++[bT day turns cls]):=by
  refine ⟨h.hdr,h.rates,by simp;omega,?_⟩
  have e:(l++[bT day turns cls]).length=l.length+1:=by simp
  unfold fH
  rw [e,iX (n:=0),Bool.and_eq_true];constructor
  · rw [List.all_eq_true]
    intro i hi;have hi':=List.mem_range.1 hi;have h1:=h.use hi'
    have e1:prevD (l++[bT day turns cls]) i=prevD l i:=by
      have:=rA (l:=l++[bT day turns cls]) (m:=l.length) (k:=i) (by omega)
      rw [jN] at this;exact this.symm
    have e2:(l++[bT day turns cls]).getD i aJm=l.getD i aJm:=by
      have:=jZ (l:=l++[bT day turns cls]) (m:=l.length) (k:=i) hi'
      rw [jN] at this;exact this.symm
    rw [e1,e2];exact h1
  · have e1:prevD (l++[bT day turns cls]) l.length=prevD l l.length:=by
      have:=rA (l:=l++[bT day turns cls]) (m:=l.length) (k:=l.length) (Nat.le_refl _)
      rw [jN] at this;exact this.symm
    rw [e1,oV];unfold useOk bT;simp only [decide_eq_true_eq];refine ⟨by omega,by omega,by omega,by omega,fun _=>by constructor <;> trivial⟩
theorem aAy {p:Part} {l:List Use} {day turns cls:Int} (h:IsAt p l l.length):IsAt p (l++[bT day turns cls]) (l++[bT day turns cls]).length:=by
  have e:(l++[bT day turns cls]).length=l.length+1:=by simp
  rw [e];refine ⟨by omega,fun k hk=>?_,fun h=>by omega⟩;by_cases hk2:k<l.length
  · have h1:=h.good k hk2
    have e2:=jZ (l:=l++[bT day turns cls]) (m:=l.length) (k:=k) hk2
    have e3:=sQ (p:=p) (l:=l++[bT day turns cls]) (m:=l.length) (k+1) (by omega)
    rw [jN] at e2 e3;unfold fits at *;rw [←e2,←e3];exact h1
  · rw [show k=l.length by omega]
    refine sA ?_
    rw [oV];rfl
theorem Fs {p:Part} {l:List Use} (h:PartOk p l) (hA:IsAt p l l.length) {day turns cls:Int} (hl:l.length<40) (hd:prevD l l.length≤day∧day≤100000) (ht:0≤turns∧turns≤1000000) (hc:0≤cls∧cls≤(p.rates.length:Int)-1)
    (h1:day≤p.age) (h2:sumT l l.length≤p.turns) (h3:jT p l≤p.worn*1000000) :
    (bM p (l++[bT day turns cls]) Prod.snd).2=0∧((bM p (l++[bT day turns cls]) Prod.snd).1<0↔sumT l l.length+turns≤p.turns∧jT p l+turns*(p.rates.getD cls.toNat (0,0)).2≤p.worn*1000000):=by
  have hok:=aAx h hl hd ht hc
  have hW:wearE p (l++[bT day turns cls])=0:=mL (Om hok) (aAy hA)
  rw [aHp _ hW];refine ⟨rfl,?_⟩;dsimp only;have e:(l++[bT day turns cls]).length=l.length+1:=by simp
  have early:∀ k,k<l.length→wornB p (l++[bT day turns cls]) k (Prod.snd (bJ p (l++[bT day turns cls]) k))=false:=by
    intro k hk;have t1:=Oo (p:=p) (l:=l++[bT day turns cls]) (m:=l.length) hk (Prod.snd (bJ p (l++[bT day turns cls]) k));have t2:=On hok (m:=l.length) (by omega) (fun j h4 h5=>by rw [show j=l.length by omega,oV];rfl) (l.length-1-k) k (by omega);rw [jN] at t1 t2;rw [←t1,←t2];have b1:=aAv h (l.length-1-k) k (by omega);have b2:=aAw h (l.length-1-k) (k+1) (by omega);have b3:=aEu h (l.length-1-k) k (by omega);rw [yN] at h3;unfold wornB;simp only [Bool.or_eq_false_iff,decide_eq_false_iff_not];omega
  have f1:fwd p (l++[bT day turns cls]) l.length=fwd p l l.length:=by
    have:=sQ (p:=p) (l:=l++[bT day turns cls]) (m:=l.length) l.length (Nat.le_refl _)
    rw [jN] at this;exact this.symm
  have s1:sumT (l++[bT day turns cls]) l.length=sumT l l.length:=by
    have:=Al (l:=l++[bT day turns cls]) (m:=l.length) l.length (Nat.le_refl _)
    rw [jN] at this;exact this.symm
  have last:wornB p (l++[bT day turns cls]) l.length (Prod.snd (bJ p (l++[bT day turns cls]) l.length))=!(decide (sumT l l.length+turns≤p.turns)&&decide (jT p l+turns*(p.rates.getD cls.toNat (0,0)).2≤p.worn*1000000)):=by
    rw [lL (by omega),e,vG (by rw [oV];rfl),f1];unfold wornB;rw [sumT,s1,oV,yN];rw [Bool.eq_iff_iff];simp only [Bool.or_eq_true,decide_eq_true_eq,Bool.not_eq_true',Bool.and_eq_false_iff,decide_eq_false_iff_not];unfold addS dO bT;dsimp only;omega
  rcases nI (fun k=>wornB p (l++[bT day turns cls]) k (Prod.snd (bJ p (l++[bT day turns cls]) k))) (l++[bT day turns cls]).length with ⟨g1,g2⟩|⟨k,hk,g1,g2,g3⟩
  · rw [g1]
    have g4:=g2 l.length (by omega)
    rw [last] at g4;simp only [Bool.not_eq_false',Bool.and_eq_true,decide_eq_true_eq] at g4;exact ⟨fun _=>g4,fun _=>by decide⟩
  · rw [g1]
    constructor
    · intro hlt;omega
    · intro hle
      exfalso
      rcases Nat.lt_or_ge k l.length with h5|h5
      · rw [early k h5] at g2;cases g2
      · rw [show k=l.length by omega,last,decide_eq_true hle.1,decide_eq_true hle.2] at g2
        cases g2
end
section
theorem Uz {p:Part} {l:List Use} (h:PartOk p l) (hA:IsAt p l l.length) {day turns cls:Int} (hl:l.length<40) (hd:prevD l l.length≤day∧day≤100000) (ht:0≤turns∧turns≤1000000) (hc:0≤cls∧cls≤(p.rates.length:Int)-1)
    (h1:day≤p.age) (h2:sumT l l.length≤p.turns) (h3:jT p l≤p.worn*1000000):bydB p (l++[bT day turns cls])=!(decide (sumT l l.length+turns≤p.turns)&&decide (jT p l+turns*(p.rates.getD cls.toNat (0,0)).2≤p.worn*1000000)):=by
  obtain ⟨e1,e2⟩:=Fs h hA hl hd ht hc h1 h2 h3;unfold bydB;rw [decide_eq_true e1,Bool.not_true,Bool.false_or];by_cases h9:sumT l l.length+turns≤p.turns∧jT p l+turns*(p.rates.getD cls.toNat (0,0)).2≤p.worn*1000000
  · have:=e2.2 h9
    rw [decide_eq_true h9.1,decide_eq_true h9.2,decide_eq_false (by omega)];rfl
  · have h8:¬ (bM p (l++[bT day turns cls]) Prod.snd).1<0:=fun h=>h9 (e2.1 h)
    rw [decide_eq_true (p:=0≤_) (by omega)];by_cases h7:sumT l l.length+turns≤p.turns
    · rw [decide_eq_true h7,decide_eq_false (fun h=>h9 ⟨h7,h⟩)];rfl
    · rw [decide_eq_false h7];rfl
theorem tR {p:Part} {l:List Use} (h:∀ k,k<l.length→(l.getD k aJm).meas=false):IsAt p l l.length:=
 ⟨Nat.le_refl _,fun k hk=>sA (h k hk),fun h=>absurd h (Nat.lt_irrefl _)⟩
def exPr:List Prm:=[⟨0,2,0,0,false⟩,⟨0,2,2,3,false⟩]
def exPt:Part:=⟨[(1,2)],1,1000000,1000⟩
def exU0 (RA:Option Addr) (rc:Nat):Unt:=⟨0,2,0,[(1,2)],RA,rc,1,1000000,1000,[],none,0,0,400000,0,0⟩
def exU1 (RA:Option Addr) (rc:Nat):Unt:=⟨1,2,0,[(1,2)],RA,rc,1,1000000,1000,[],none,0,0,1000,0,1⟩
def exU (RA:Option Addr) (rc:Nat):List Unt:=[exU0 RA rc,exU1 RA rc]
def exYr (PA:Option Addr) (pc:Nat) (XA:Option Addr) (xc:Nat) (BA:Option Addr) (bc:Nat) (QA:Option Addr) (qc:Nat) (VA:Option Addr) (vc:Nat) (RA:Option Addr) (rc:Nat):Yr:=⟨4,4,w8exW,PA,pc,exX,XA,xc,w8exP,BA,bc,6,false,exPr,QA,qc,exU RA rc,VA,vc,1,[],none,0⟩
section
variable {PA:Option Addr} {pc:Nat} {XA:Option Addr} {xc:Nat} {BA:Option Addr} {bc:Nat} {QA:Option Addr} {qc:Nat} {VA:Option Addr} {vc:Nat} {RA:Option Addr} {rc:Nat}
theorem Va:keptE 4 w8exW exX [] exPr=0:=by decide +kernel
theorem Vb (k:Nat) (hk:k<2):untB w8exW (exU RA rc) k=true:=by
 rw [jY];match k,hk with
 | 0,_=>exact ⟨tP.2 ⟨⟨1,by decide,by decide,rfl⟩,fun k hk=>absurd hk (Nat.not_lt_zero k)⟩,(show untI (exU0 none 0) by decide),mL (show cC exPt []=0 by decide +kernel) (tR fun q hq=>absurd hq (Nat.not_lt_zero q))⟩
 | 1,_=>exact ⟨tP.2 ⟨⟨2,by decide,by decide,rfl⟩,fun k hk=>by
   have:k=0:=by omega
   subst this;exact (by decide:(0:Int)≠1)⟩,(show untI (exU1 none 0) by decide),mL (show cC exPt []=0 by decide +kernel) (tR fun q hq=>absurd hq (Nat.not_lt_zero q))⟩
theorem Ft:yearE (exYr PA pc XA xc BA bc QA qc VA vc RA rc)=0:=
 xZ Va (show yrI (exYr none 0 none 0 none 0 none 0 none 0 none 0) by unfold yrI;decide +kernel) (by show ¬ 6<2;decide) (bS.2 fun k hk=>Vb k hk)
end
theorem tS (l:List Use) {day turns:Int} {b:Bool} (h:cC exPt l=0) (hm:∀ k,k<l.length→(l.getD k aJm).meas=false) (hl:l.length<40) (hd:prevD l l.length≤day∧day≤1000) (ht:0≤turns∧turns≤1000000)
  (h2:sumT l l.length≤1000000) (h3:jT exPt l≤1000000) (hb:b=(decide (sumT l l.length+turns≤1000000)&&decide (jT exPt l+turns*2≤1000000))):bydB exPt (l++[bT day turns 0])=!b:=by
 rw [Uz (kN h) (tR hm) hl (by omega) ht (by decide) (by show day≤1000;omega) (by show _≤(1000000:Int);omega) (by show _≤(1:Int)*1000000;omega),hb];rfl
def us1 (d:Int) (t:Int):Use:=⟨d,t,0,false,0,0⟩
section
variable {RA:Option Addr} {rc:Nat} {J:Nat→Int}
theorem m1 {P:Use→Prop} {u:Use} (h:P u):∀ k,k<[u].length→P ([u].getD k aJm):=fun k hk=>by
 have:k=0:=by simp at hk;omega
 subst this;exact h
theorem m2 {P:Use→Prop} {u v:Use} (h:P u) (h':P v):∀ k,k<[u,v].length→P ([u,v].getD k aJm):=fun k hk=>by
 have:k=0∨k=1:=by simp at hk;omega
 rcases this with rfl|rfl
 ·exact h
 ·exact h'
theorem byd0 (t:Int) (ht:t=400000∨t=1000):bydB exPt [bT 0 t 0]=false:=by
 rcases ht with rfl|rfl
 ·exact tS [] (b:=true) (by decide +kernel) (fun q hq=>absurd hq (Nat.not_lt_zero q)) (by decide) (by decide) (by decide) (by decide) (by decide) (by decide +kernel)
 ·exact tS [] (b:=true) (by decide +kernel) (fun q hq=>absurd hq (Nat.not_lt_zero q)) (by decide) (by decide) (by decide) (by decide) (by decide) (by decide +kernel)
theorem byd1 (d:Int) (hd:0≤d∧d≤1000):bydB exPt [us1 0 400000,bT d 400000 0]=true:=
 tS [us1 0 400000] (b:=false) (by decide +kernel) (m1 (P:=fun u=>u.meas=false) rfl) (by decide) hd (by decide) (by decide +kernel) (by decide +kernel) (by decide +kernel)
theorem byd2 (d:Int) (hd:0≤d∧d≤1000):bydB exPt [us1 0 1000,bT d 1000 0]=false:=
 tS [us1 0 1000] (b:=true) (by decide +kernel) (m1 (P:=fun u=>u.meas=false) rfl) (by decide) hd (by decide) (by decide +kernel) (by decide +kernel) (by decide +kernel)
theorem byd3:bydB exPt [us1 0 1000,us1 1 1000,bT 2 1000 0]=false:=
 tS [us1 0 1000,us1 1 1000] (b:=true) (by decide +kernel) (m2 (P:=fun u=>u.meas=false) G G) (by decide) (by decide) (by decide) (by decide +kernel) (by decide +kernel) (by decide +kernel)
theorem byd4:bydB exPt [us1 0 1000,us1 2 1000,bT 3 1000 0]=false:=
 tS [us1 0 1000,us1 2 1000] (b:=true) (by decide +kernel) (m2 (P:=fun u=>u.meas=false) G G) (by decide) (by decide) (by decide) (by decide +kernel) (by decide +kernel) (by decide +kernel)
theorem rB {u:Unt} {s:LSt} {j:Int} {d:Nat} {b b':Bool} (h:bydB u.part (s.uses++[useAt u d s.born])=b) (h2:b'=((decide (j=0)&&certN u s j d)&&!b)):runN u s j d=b':=by unfold runN;rw [h,h2]
theorem yO {u:Unt} {s:LSt} {j:Int} {d:Nat} (h:runN u s j d=true) (hr:renw j=false):stepL u s j d=⟨s.uses++[useAt u d s.born],s.born,seenN s j d⟩:=by unfold stepL;rw [hr,h];rfl
theorem Vc {u:Unt} {s:LSt} {j:Int} {d:Nat} (h:runN u s j d=false) (hr:renw j=false):stepL u s j d=⟨s.uses,s.born,seenN s j d⟩:=by unfold stepL;rw [hr,h];rfl
theorem aHx (h:J 0=0):runB' (exU0 RA rc) J 0=true:=by
 show runN (exU0 RA rc) ⟨[],0,0⟩ (J 0) 0=true
 rw [h];exact rB (byd0 400000 (.inl rfl)) rfl
theorem aIn (h:J 0=0):lifeS (exU0 RA rc) J 1=⟨[us1 0 400000],0,0⟩:=by
 show stepL (exU0 RA rc) ⟨[],0,0⟩ (J 0) 0=_
 have h1:runN (exU0 RA rc) ⟨[],0,0⟩ (J 0) 0=true:=aHx (RA:=RA) (rc:=rc) h
 rw [h] at h1 ⊢;rw [yO h1 (by decide)];rfl
theorem aAz {d:Nat} (hd:d≤3) (s j:Int):runN (exU0 RA rc) ⟨[us1 0 400000],0,s⟩ j d=false:=
 rB (b:=true) (by
  show bydB exPt [us1 0 400000,bT ((d:Int)-0) 400000 0]=true
  rw [Int.sub_zero];exact byd1 d (by omega)) (by simp)
theorem aHy {d:Nat} (hd:d≤3) (h1:lifeS (exU0 RA rc) J d=⟨[us1 0 400000],0,0⟩) (h:J d=0):lifeS (exU0 RA rc) J (d+1)=⟨[us1 0 400000],0,0⟩:=by
 show stepL (exU0 RA rc) (lifeS (exU0 RA rc) J d) (J d) d=_
 rw [h1,h,Vc (aAz hd 0 0) (by decide)];rfl
theorem z0 (h:∀ d,J d=0) {d:Nat} (hd:d≤3):runB' (exU0 RA rc) J d=decide (d=0):=by
 have h1:=aIn (RA:=RA) (rc:=rc) (h 0)
 have h2:=aHy (by omega) h1 (h 1)
 have h3:=aHy (by omega) h2 (h 2)
 match d,hd with
 | 0,_=>exact aHx (h 0)
 | 1,_=>unfold runB';rw [h1];exact aAz (by omega) _ _
 | 2,_=>unfold runB';rw [h2];exact aAz (by omega) _ _
 | 3,_=>unfold runB';rw [h3];exact aAz (by omega) _ _
theorem aEv (h:J 0=0):runB' (exU1 RA rc) J 0=true:=by
 show runN (exU1 RA rc) ⟨[],0,0⟩ (J 0) 0=true
 rw [h];exact rB (byd0 1000 (.inr rfl)) rfl
theorem aHz (h:J 0=0):lifeS (exU1 RA rc) J 1=⟨[us1 0 1000],0,0⟩:=by
 show stepL (exU1 RA rc) ⟨[],0,0⟩ (J 0) 0=_
 have h1:runN (exU1 RA rc) ⟨[],0,0⟩ (J 0) 0=true:=aEv (RA:=RA) (rc:=rc) h
 rw [h] at h1 ⊢;rw [yO h1 (by decide)];rfl
theorem aEw (h:∀ d,J d=0) {d:Nat} (hd:d≤3):runB' (exU1 RA rc) J d=decide (d≠3):=by
  have h1:=aHz (RA:=RA) (rc:=rc) (h 0)
  have r1:runN (exU1 RA rc) ⟨[us1 0 1000],0,0⟩ 0 1=true:=rB (byd2 1 (by decide)) rfl
  have h2:lifeS (exU1 RA rc) J 2=⟨[us1 0 1000,us1 1 1000],0,0⟩:=by
    show stepL (exU1 RA rc) (lifeS (exU1 RA rc) J 1) (J 1) 1=_
    rw [h1,h 1,yO r1 (by decide)];rfl
  have r2:runN (exU1 RA rc) ⟨[us1 0 1000,us1 1 1000],0,0⟩ 0 2=true:=rB byd3 rfl
  have h3:(lifeS (exU1 RA rc) J 3).seen=0:=by
    show (stepL (exU1 RA rc) (lifeS (exU1 RA rc) J 2) (J 2) 2).seen=_
    rw [h2,h 2,yO r2 (by decide)];rfl
  match d,hd with
  | 0,_=>exact aEv (h 0)
  | 1,_=>unfold runB';rw [h1,h 1];exact r1
  | 2,_=>unfold runB';rw [h2,h 2];exact r2
  | 3,_=>
    unfold runB' runN
    have:certN (exU1 RA rc) (lifeS (exU1 RA rc) J 3) (J 3) 3=false:=by
      unfold certN seenN
      rw [h3,h 3];rfl
    rw [this,Bool.and_false,Bool.false_and];rfl
theorem aEx (h0:J 0=0) (h1':J 1=2) (h2':J 2=0) (h3':J 3=0) {d:Nat} (hd:d≤3):runB' (exU1 RA rc) J d=decide (d≠1):=by
 have h1:=aHz (RA:=RA) (rc:=rc) h0
 have r1:runN (exU1 RA rc) ⟨[us1 0 1000],0,0⟩ 2 1=false:=by unfold runN;rfl
 have h2:lifeS (exU1 RA rc) J 2=⟨[us1 0 1000],0,1⟩:=by
  show stepL (exU1 RA rc) (lifeS (exU1 RA rc) J 1) (J 1) 1=_
  rw [h1,h1',Vc r1 (by decide)];rfl
 have r2:runN (exU1 RA rc) ⟨[us1 0 1000],0,1⟩ 0 2=true:=rB (byd2 2 (by decide)) rfl
 have h3:lifeS (exU1 RA rc) J 3=⟨[us1 0 1000,us1 2 1000],0,1⟩:=by
  show stepL (exU1 RA rc) (lifeS (exU1 RA rc) J 2) (J 2) 2=_
  rw [h2,h2',yO r2 (by decide)];rfl
 match d,hd with
 | 0,_=>exact aEv h0
 | 1,_=>unfold runB';rw [h1,h1'];exact r1
 | 2,_=>unfold runB';rw [h2,h2'];exact r2
 | 3,_=>unfold runB';rw [h3,h3'];exact rB byd4 rfl
end
end
section
def ex6 (i:Nat):Int:=[6,1,0,-1].getD i (-1)
def ex3 (i:Nat):Int:=[-1,1,0,-1].getD i (-1)
theorem Vd (out:Int) (h2:oth out false (w8exW.getD 2 aJj) 0=((1:Nat):Int)) (h3:oth out false (w8exW.getD 3 aJj) 1=((2:Nat):Int)) (key:∀ i:Nat,i<4→∀ k:Nat,k<5→(oth out false (w8exW.getD k aJj) i<0∨ex6 (oth out false (w8exW.getD k aJj) i).toNat<0∨(0≤ex6 i∧ex6 i≤ex6 (oth out false (w8exW.getD k aJj) i).toNat+(w8exW.getD k aJj).ticks))):FarOk 4 w8exW out false 2 ex6:=by
  have w2:Wk w8exW out false 2 2 0 []:=Wk.nil 2
  have w1:Wk w8exW out false 1 2 1 [3]:=Wk.cons (k:=3) (by decide) h3 w2
  have w0:Wk w8exW out false 0 2 6 [2,3]:=Wk.cons (k:=2) (by decide) h2 w1
  refine ⟨rfl,fun i=>?_,fun i hi h0=>?_,fun i hi k hk=>oP (key i hi k hk),fun i hi=>?_⟩
  · unfold ex6
    match i with
    | 0=>decide
    | 1=>decide
    | 2=>decide
    | 3=>decide
    | n+4=>exact Int.le_refl _
  · match i,hi with
    | 0,_=>exact ⟨_,w0⟩
    | 1,_=>exact ⟨_,w1⟩
    | 2,_=>exact ⟨_,w2⟩
    | 3,_=>exact absurd h0 (by decide)
  · have key:∀ i:Nat,i<4→ex6 i≤200:=by decide +kernel
    exact key i hi
theorem aEy:FarOk 4 w8exW 3 false 2 ex3:=by
  have w2:Wk w8exW 3 false 2 2 0 []:=Wk.nil 2
  have w1:Wk w8exW 3 false 1 2 1 [3]:=Wk.cons (k:=3) (by decide) (by decide +kernel) w2
  refine ⟨rfl,fun i=>?_,fun i hi h0=>?_,fun i hi k hk=>oP ?_,fun i hi=>?_⟩
  · unfold ex3
    match i with
    | 0=>decide
    | 1=>decide
    | 2=>decide
    | 3=>decide
    | n+4=>exact Int.le_refl _
  · match i,hi with
    | 0,_=>exact absurd h0 (by decide)
    | 1,_=>exact ⟨_,w1⟩
    | 2,_=>exact ⟨_,w2⟩
    | 3,_=>exact absurd h0 (by decide)
  · have key:∀ i:Nat,i<4→∀ k:Nat,k<5→(oth 3 false (w8exW.getD k aJj) i<0∨ex3 (oth 3 false (w8exW.getD k aJj) i).toNat<0∨(0≤ex3 i∧ex3 i≤ex3 (oth 3 false (w8exW.getD k aJj) i).toNat+(w8exW.getD k aJj).ticks)):=by decide +kernel
    exact key i hi k hk
  · have key:∀ i:Nat,i<4→ex3 i≤200:=by decide +kernel
    exact key i hi
theorem exD0:dst 4 w8exW 0 false 2 0=6:=kZ exV.psv (Vd 0 (by decide +kernel) (by decide +kernel) (by decide +kernel)) (by decide)
theorem exD1:dst 4 w8exW 1 false 2 0=6:=kZ exV.psv (Vd 1 (by decide +kernel) (by decide +kernel) (by decide +kernel)) (by decide)
theorem exD3:dst 4 w8exW 3 false 2 0 = -1:=kZ exV.psv aEy (by decide)
def exM0:List Mv:=[⟨0,0,0,2⟩,⟨0,0,1,2⟩,⟨0,0,2,2⟩,⟨1,0,2,2⟩,⟨1,0,3,2⟩,⟨3,1,3,2⟩,⟨3,1,4,4⟩,⟨3,1,5,4⟩]
def exM1:List Mv:=[⟨0,0,0,2⟩,⟨0,0,1,2⟩,⟨0,0,2,2⟩,⟨1,0,0,2⟩,⟨1,0,1,2⟩,⟨3,1,3,2⟩,⟨3,1,4,4⟩,⟨3,1,5,4⟩]
theorem exPe:PeOk w8exP:=by
 have key:∀ k:Nat,k<4→0≤w8exP.getD k 0∧w8exP.getD k 0≤1000:=by decide
 exact key
theorem exAll0:mfv 4 6 w8exP exX (hds 0 exX w8exW)=10:=by
 have h1:=Ks (T:=6) exV (by decide:(0:Int)≤0) exPe (by decide) (show planB w8exW exX 0 w8exP exM0 4=true by decide +kernel)
 have h2:=Kr (T:=6) exV (by decide:(0:Int)≤0) exPe
 have e1:outN w8exW exX 0 w8exP exM0 4 6=10:=by decide +kernel
 have e2:sumI w8exP 4=10:=by decide +kernel
 omega
theorem exAll1:mfv 4 6 w8exP exX (hds 1 exX w8exW)=10:=by
 have h1:=Ks (T:=6) exV (by decide:(0:Int)≤1) exPe (by decide) (show planB w8exW exX 1 w8exP exM1 4=true by decide +kernel)
 have h2:=Kr (T:=6) exV (by decide:(0:Int)≤1) exPe
 have e1:outN w8exW exX 1 w8exP exM1 4 6=10:=by decide +kernel
 have e2:sumI w8exP 4=10:=by decide +kernel
 omega
def exJob:List Tsk:=[⟨1,1,1⟩]
section
variable {PA:Option Addr} {pc:Nat} {XA:Option Addr} {xc:Nat} {BA:Option Addr} {bc:Nat} {QA:Option Addr} {qc:Nat} {VA:Option Addr} {vc:Nat} {RA:Option Addr} {rc:Nat}
theorem aBa:taskE (exYr PA pc XA xc BA bc QA qc VA vc RA rc) []=0:=mP Ft (by decide) rfl
theorem aBb:taskE (exYr PA pc XA xc BA bc QA qc VA vc RA rc) exJob=0:=mP Ft (by decide) (bS.2 fun k hk=>by
 have:k=0:=by have:exJob.length=1:=rfl;omega
 subst this;rfl)
theorem Fu {l:List Tsk} {d:Nat} {a b:Bool} (ha:runsY (exYr PA pc XA xc BA bc QA qc VA vc RA rc) l 0 d=a) (hb:runsY (exYr PA pc XA xc BA bc QA qc VA vc RA rc) l 1 d=b):outY (exYr PA pc XA xc BA bc QA qc VA vc RA rc) l d 2=(if a=true then 0 else 1)+(if b=true then 0 else 2):=by
 show (0+(if runsY (exYr PA pc XA xc BA bc QA qc VA vc RA rc) l 0 d=true then 0 else 2^0))+(if runsY (exYr PA pc XA xc BA bc QA qc VA vc RA rc) l 1 d=true then 0 else 2^1)=_
 rw [ha,hb];cases a <;> cases b <;> rfl
theorem exR0 {l:List Tsk} (h:∀ d,jobF l 0 d=0) {d:Nat} (hd:d≤3):runsY (exYr PA pc XA xc BA bc QA qc VA vc RA rc) l 0 d=decide (d=0):=z0 (RA:=RA) (rc:=rc) h hd
theorem exJ0 (d:Nat):jobF exJob 0 d=0:=by
 unfold jobF jobV hasT exJob
 simp
theorem exR1n {d:Nat} (hd:d≤3):runsY (exYr PA pc XA xc BA bc QA qc VA vc RA rc) [] 1 d=decide (d≠3):=aEw (RA:=RA) (rc:=rc) (J:=jobF [] 1) (fun _=>rfl) hd
theorem exR1o {d:Nat} (hd:d≤3):runsY (exYr PA pc XA xc BA bc QA qc VA vc RA rc) exJob 1 d=decide (d≠1):=aEx (RA:=RA) (rc:=rc) (J:=jobF exJob 1) (by decide +kernel) (by decide +kernel) (by decide +kernel) (by decide +kernel) hd
theorem exOn {d:Nat} (hd:d≤3):outY (exYr PA pc XA xc BA bc QA qc VA vc RA rc) [] d (exYr PA pc XA xc BA bc QA qc VA vc RA rc).us.length=[0,1,1,3].getD d 0:=by
 show outY (exYr PA pc XA xc BA bc QA qc VA vc RA rc) [] d 2=_
 rw [Fu (exR0 (fun _=>rfl) hd) (exR1n hd)];match d,hd with
 | 0,_=>rfl
 | 1,_=>rfl
 | 2,_=>rfl
 | 3,_=>rfl
theorem exOo {d:Nat} (hd:d≤3):outY (exYr PA pc XA xc BA bc QA qc VA vc RA rc) exJob d (exYr PA pc XA xc BA bc QA qc VA vc RA rc).us.length=[0,3,1,1].getD d 0:=by
 show outY (exYr PA pc XA xc BA bc QA qc VA vc RA rc) exJob d 2=_
 rw [Fu (exR0 exJ0 hd) (exR1o hd)];match d,hd with
 | 0,_=>rfl
 | 1,_=>rfl
 | 2,_=>rfl
 | 3,_=>rfl
theorem vP {d out:Int} {a b:Bool} (ha:prmB (exYr PA pc XA xc BA bc QA qc VA vc RA rc) d out 0=a) (hb:prmB (exYr PA pc XA xc BA bc QA qc VA vc RA rc) d out 1=b):keepB (exYr PA pc XA xc BA bc QA qc VA vc RA rc) d out=((true&&a)&&b):=by rw [←ha,←hb];rfl
theorem Lg {d out x:Int} (h:dst 4 w8exW out false 2 0=x):prmB (exYr PA pc XA xc BA bc QA qc VA vc RA rc) d out 0=(!(decide (0≤d)&&decide (d≤0))||decide (0≤x)):=by rw [←h];rfl
theorem Lh {d out x:Int} (h:dst 4 w8exW out false 2 0=x):prmB (exYr PA pc XA xc BA bc QA qc VA vc RA rc) d out 1=(!(decide (2≤d)&&decide (d≤3))||decide (0≤x)):=by rw [←h];rfl
theorem aIa:keepB (exYr PA pc XA xc BA bc QA qc VA vc RA rc) (0:Nat) 0=true:=vP (Lg exD0) (Lh exD0)
theorem aIb:keepB (exYr PA pc XA xc BA bc QA qc VA vc RA rc) (1:Nat) 1=true:=vP (Lg exD1) (Lh exD1)
theorem aIc:keepB (exYr PA pc XA xc BA bc QA qc VA vc RA rc) (2:Nat) 1=true:=vP (Lg exD1) (Lh exD1)
theorem aId:keepB (exYr PA pc XA xc BA bc QA qc VA vc RA rc) (3:Nat) 3=false:=vP (Lg exD3) (Lh exD3)
theorem aIe:leavB (exYr PA pc XA xc BA bc QA qc VA vc RA rc) 0=true:=decide_eq_true (show mfv 4 6 w8exP exX (hds 0 exX w8exW)=sumI w8exP 4 from exAll0.trans (by decide +kernel))
theorem aDn:leavB (exYr PA pc XA xc BA bc QA qc VA vc RA rc) 1=true:=decide_eq_true (show mfv 4 6 w8exP exX (hds 1 exX w8exW)=sumI w8exP 4 from exAll1.trans (by decide +kernel))
theorem Io {d:Nat} (hd:d≤3) {o:Int} (ho:[0,1,1,3].getD d 0=o) (hk:keepB (exYr PA pc XA xc BA bc QA qc VA vc RA rc) d o=true) (hl:leavB (exYr PA pc XA xc BA bc QA qc VA vc RA rc) o=true):faultD (exYr PA pc XA xc BA bc QA qc VA vc RA rc) [] d=0:=
 vN (by show ¬ (1:Int)<0;decide) rfl (by rw [exOn hd,ho];exact hk) (by rw [exOn hd,ho];exact hl)
theorem Ve:cS (exYr PA pc XA xc BA bc QA qc VA vc RA rc) []=(3,3):=by
  have h3:faultD (exYr PA pc XA xc BA bc QA qc VA vc RA rc) [] 3=3:=sN (by show ¬ (1:Int)<0;decide) rfl (by rw [exOn (by decide)];exact aId)
  rw [mR (d:=3) (by show 3<(4:Int).toNat;decide) (fun q hq=>?_) (by rw [h3];decide),h3]
  · rfl
  · match q,hq with
    | 0,_=>exact Io (by decide) (o:=0) rfl aIa aIe
    | 1,_=>exact Io (by decide) (o:=1) rfl aIb aDn
    | 2,_=>exact Io (by decide) (o:=1) rfl aIc aDn
end
end
section
def MList (ps:List Psg) (k:Nat) (ml:List Int):Prop:=ml.length≤k∧∀ m,0≤m→(hasI ml m=true↔¬ cntM ps m k=0)
theorem MList.nil {ps:List Psg}:MList ps 0 []:=⟨Nat.le_refl 0,fun m _=>by
 constructor
 ·intro h;cases h
 ·intro h;exact absurd rfl h⟩
theorem An {ps:List Psg} {m:Int} {k:Nat}:cntM ps m (k+1)=cntM ps m k+(if dE ps k=m then 1 else 0):=rfl
theorem Oq {l:List Int} {x m:Int}:hasI (l++[x]) m=(hasI l m||decide (m=x)):=by unfold hasI;rw [List.any_append];simp
theorem MList.add {ps:List Psg} {k:Nat} {ml:List Int} (h:MList ps k ml):MList ps (k+1) (ml++[dE ps k]):=⟨by rw [List.length_append];have:=h.1;simp;omega,fun m hm=>by
 have h1:=h.2 m hm
 have h2:=Jw (ps:=ps) (m:=m) (k:=k)
 rw [Oq,An,Bool.or_eq_true,decide_eq_true_eq,h1];by_cases e:dE ps k=m
 ·rw [if_pos e];exact ⟨fun _=>by omega,fun _ => .inr e.symm⟩
 ·rw [if_neg e,Int.add_zero];exact ⟨fun g=>g.resolve_right (fun g=>e g.symm),.inl⟩⟩
theorem MList.skip {ps:List Psg} {k:Nat} {ml:List Int} (h:MList ps k ml) (hk:dE ps k<0):MList ps (k+1) ml:=⟨by have:=h.1;omega,fun m hm=>by
 rw [An,if_neg (by omega),Int.add_zero];exact h.2 m hm⟩
theorem MList.fresh {ps:List Psg} {k:Nat} {ml:List Int} (h:MList ps k ml) (h0:0≤(ps.getD k aJj).mach) (hh:hasI ml (ps.getD k aJj).mach=false):cntM ps (dE ps k) k=0:=by
 have h9:=h.2 _ h0
 rw [hh] at h9;have h8:dE ps k=(ps.getD k aJj).mach:=rfl;rw [h8];simp only [Bool.false_eq_true,false_iff] at h9;omega
theorem sR {pl:Int} {ps:List Psg} {k:Nat} (h:psgOk pl (ps.getD k aJj)=true) (hz:cntM ps (dE ps k) k=0):pasOk pl ps k=true:=by unfold pasOk;rw [h,decide_eq_true (.inr hz)];rfl
theorem sU {pl:Int} {ps:List Psg} {k:Nat} (h:psgOk pl (ps.getD k aJj)=true) (hz:(ps.getD k aJj).mach<0):pasOk pl ps k=true:=by unfold pasOk;rw [h,decide_eq_true (.inl hz)];rfl
theorem aBc {pl:Int} {ps:List Psg} {k:Nat} {ml:List Int} (hM:MList ps k ml) (hc:((ps.getD k aJj).mach<0∨11<(ps.getD k aJj).mach)∨hasI ml (ps.getD k aJj).mach=true) (hk:(ps.getD k aJj).kind=3∨(ps.getD k aJj).kind=4):pasOk pl ps k=false:=by
  unfold pasOk
  rw [Bool.and_eq_false_iff];by_cases h0:0≤(ps.getD k aJj).mach∧(ps.getD k aJj).mach≤11
  · refine .inr (decide_eq_false ?_)
    have h9:=hM.2 _ h0.1
    have h8:dE ps k=(ps.getD k aJj).mach:=rfl
    rw [h8];rcases hc with h7|h7
    · omega
    · rw [h7] at h9
      simp only [true_iff] at h9
      omega
  · exact .inl (gZ (by omega))
theorem aBd {pl:Int} {xs:List Int} {k:Nat} (h:(0≤xs.getD k 0∧xs.getD k 0≤pl-1)∧(k=0∨xs.getD (k-1) 0<xs.getD k 0)):exOk pl xs k=true:=by unfold exOk;rw [decide_eq_true_eq];omega
theorem aBe {pl:Int} {xs:List Int} {k:Nat} (h:¬ ((0≤xs.getD k 0∧xs.getD k 0≤pl-1)∧(k=0∨xs.getD (k-1) 0<xs.getD k 0))):exOk pl xs k=false:=by unfold exOk;rw [decide_eq_false_iff_not];omega
theorem aBf {x:Int}:(!decide (x%2=1))=decide (x%2=0):=by
 have h:=Int.emod_two_eq x
 rcases h with h|h <;> rw [h] <;> rfl
theorem Vf {k:Nat}:∀ q j,q<k+1→j<1→capp k (fun _ _=>Value.int .i64 1073741824) (fun k' j=>([[Value.int .i64 1073741824]].getD k' []).getD j undef) q j = .int .i64 1073741824:=by
 intro q j hq hj;have:j=0:=by omega
 subst this;unfold capp;by_cases h:q<k
 ·rw [if_pos h]
 ·rw [if_neg h,show q-k=0 by omega];rfl
theorem Ip {l:List Int} {x:Int} {v:Value} (hv:v = .int .i64 x):∀ k j,k<l.length+1→j<1→capp l.length (icl l) (fun k' j=>([[v]].getD k' []).getD j undef) k j=icl (l++[x]) k j:=by
  intro k j hk hj;have:j=0:=by omega
  subst this;subst hv;unfold capp icl;by_cases h:k<l.length
  · rw [if_pos h,List.getD_eq_getElem?_getD,List.getD_eq_getElem?_getD,List.getElem?_append_left h]
  · have e:k=l.length:=by omega
    subst e;rw [if_neg h,Nat.sub_self,List.getD_eq_getElem?_getD,List.getElem?_append_right (Nat.le_refl _),Nat.sub_self];rfl
theorem cZ (n lo hi:Int) (w:World) :
    Calls Tryz.prog 55 [.int .i64 n,.int .i64 lo,.int .i64 hi].toArray w (Ret (fun v w'=>v = .bool (decide (lo≤n)&&decide (n≤hi))∧w'=w)):=by
 refine enter Tryz.func55 rfl Tryz.ntmps55 rfl (fun a H=>?_)
 have S:=St.start w
 refine sS H fun K1 k1=>sr 1 G<|sE ?_;intro a H
 refine k1 _ ?_;replace H:=H.keep [0,1,2] rfl;refine sS H fun K2 k2=>sr 4 G<|sg 3 3 10 13 true G G (fun hg4=>sy hg4<|sr 1 G<|sy hg4<|sr 1 G<|sy hg4<|sr 1 G<|sz 3 G G G)<|sa G G G<|sr 1 G<|sE ?_;intro a H
 refine k2 _ ?_;refine wp_ret ?_;refine ret1 (fn:=Tryz.f55) rfl H rfl ?_;exact ⟨rfl,rfl⟩
theorem vQ (n:Int) (w:World) :
    Calls Tryz.prog 60 [.int .i64 n].toArray w (Ret (fun v w'=>v = .bool (decide (0≤n)&&decide (n≤4095))∧w'=w)):=by
 refine enter Tryz.func60 rfl Tryz.ntmps60 rfl (fun a H=>?_)
 have S:=St.start w
 refine sS H fun K1 k1=>sr 1 G<|sE ?_;intro a H
 refine k1 _ ?_;refine sS H fun K2 k2=>sr 1 G<|sc rfl Tryz.func55 G G (cZ _ _ _ _)<|sr 1 G<|sE ?_;intro a H
 refine k2 _ ?_;refine wp_ret ?_;refine ret1 (fn:=Tryz.f60) rfl H rfl ?_;exact ⟨rfl,rfl⟩
theorem Ao (out m:Int) (w:World) (hm:0≤m∧m<64) :
    Calls Tryz.prog 109 [.int .i64 out,.int .i64 m].toArray w (Ret (fun v w'=>v = .bool (decide (out/2^m.toNat%2=1))∧w'=w)):=by
 refine enter Tryz.func109 rfl Tryz.ntmps109 rfl (fun a H=>?_)
 have S:=St.start w
 refine sS H fun K1 k1=>sr 1 G<|sE ?_;intro a H
 refine k1 _ ?_;refine sS H fun K2 k2=>sr 2 G<|sd (iR Tryz.underlying3 Tryz.underlying100 rfl (by first|omega|exact IntWalk.i64_in _ (by omega)|exact IntWalk.u64_in _ (by omega)))<|sd (lZ G G (by omega) (by omega))<|sd (kK G G)<|sr 2 G<|sE ?_;intro a H
 refine k2 _ ?_;refine wp_ret ?_;refine ret1 (fn:=Tryz.f109) rfl H rfl ?_;exact ⟨rfl,rfl⟩
theorem Cj (l:List Int) (A:Option Addr) (cp:Nat) (x:Int) (w:World) (hl:InS w noF 1 A l.length (icl l)) (hn:l.length≤9223372036854775807) :
    Calls Tryz.prog 56 [.slice A l.length cp,.int .i64 x].toArray w (Ret (fun u w'=>u = .bool (hasI l x)∧St w noF [] w')):=by
 refine enter Tryz.func56 rfl Tryz.ntmps56 rfl (fun a H=>?_)
 have S:=St.start w
 refine sS H fun K1 k1=>sr 1 G<|sE ?_;intro a H
 refine k1 _ ?_;refine wp_seq_k fun K2 k2=>?_
 refine sS H fun K3 k3=>sr 1 G<|sE ?_;intro a H
 refine k3 _ ?_;refine wp_block ?_;refine loop_st (X:=Nat) (R0:=_) [0,1] H rfl (fun k=>[(5,.int .i64 (k:Int))]) (fun k=>[]) (fun g k=>k≤l.length∧g+k=l.length∧(l.take k).any (fun y=>decide (x=y))=false) (l.length) 0 ?_ (S.sel [] G G) (H.keep [5,0,1] rfl) ?_
 · exact ⟨by omega,by omega,rfl⟩
 clear H S a;intro g1 x1 a w1 hp S H K4 k4;obtain ⟨k,rfl⟩:∃ y,y=x1:=⟨_,rfl⟩;refine wp_seq_k fun K5 k5=>?_
 refine sS H fun K6 k6=>sr 2 G<|sL aQ rfl<|sr 1 G<|sE ?_;intro a H
 refine k6 _ ?_;refine condL H rfl (fun hc1=>?_) (fun hc1=>?_)
 ·skip
  refine wp_skip ?_;refine k5 _ _ ?_;refine wp_seq_k fun K7 k7=>?_
  refine wp_block ?_;replace H:=H.keep [0,1,5] rfl;refine sS H fun K8 k8=>sr 2 G<|si aQ aY G G (hl.adr (by omega)) (by omega)<|slm aC rfl (hl.rd S (by omega) (by omega))<|sr 2 G<|sE ?_;intro a H
  refine k8 _ ?_;refine condE H rfl (fun hc2=>?_) (fun hc2=>?_)
  ·skip
   refine sS H fun K9 k9=>sr 1 G<|sE ?_;intro a H
   refine k9 _ ?_;refine wp_ret ?_;refine ret1 (fn:=Tryz.f56) rfl H rfl ?_;exact ⟨by rw [Sk (k:=k) (by omega) (by omega)],(S.sel [] G G)⟩
  refine wp_skip ?_;refine k7 _ _ ?_;replace H:=H.keep [0,1,5] rfl;refine sO H<|sr 1 G<|sd (aH G G (by unfold i64ok;omega))<|sr 1 G<|sE ?_;intro a H
  exact k4 (g1-1) (k+1) a _ (by omega) (⟨by omega,by omega,Dv (by omega) hp.2.2 (by omega)⟩) (S.sel [] G G) (H.keep [5,0,1] rfl)
 refine wp_exit ?_;refine k2 _ _ ?_;refine sS H fun K11 k11=>sr 1 G<|sE ?_;intro a H
 refine k11 _ ?_;refine wp_ret ?_;refine ret1 (fn:=Tryz.f56) rfl H rfl ?_;exact ⟨by unfold hasI;rw [←List.take_of_length_le (l:=l) (i:=k) (by omega),hp.2.2],(S.sel [] G G)⟩
theorem lO (pl:Int) (ps:List Psg) (PA:Option Addr) (pc:Nat) (xs:List Int) (XA:Option Addr) (xc:Nat) (w:World) (hps:InS w noF 7 PA ps.length (pcell ps)) (hpn:ps.length≤9223372036854775807) (hxs:InS w noF 1 XA xs.length (icl xs)) (hxn:xs.length≤9223372036854775807) :
    Calls Tryz.prog 41 [.agg [.int .i64 pl,.slice PA ps.length pc,.slice XA xs.length xc].toArray].toArray w (Ret (fun v w'=>v = .int .i64 (stE pl ps xs)∧St w noF [] w')):=by
 refine enter Tryz.func41 rfl Tryz.ntmps41 rfl (fun a H=>?_)
 have S:=St.start w
 refine aA fun K1 k1=>?_
 refine aO H rfl S G G ?_;intro b1 _ a hb1 hbw1 S H
 refine ls 1 H<|sr 1 G<|sE ?_;intro a H
 refine k1 _ _ ?_;refine wp_seq_k fun K2 k2=>?_
 replace H:=H.keep [1] rfl
 refine sS H fun K3 k3=>sf dP rfl<|sl S 0 aC G G G<|sc rfl Tryz.func55 G G (cZ _ _ _ _)<|sr 2 G<|sg 4 4 11 15 false G G (fun hg5=>by
     have hq5:=hg5;try simp only [oz] at hq5
     exact sy hg5<|sf dZ rfl<|sy hg5<|sl S 0 fF G G G<|sy hg5<|sL eT rfl<|sy hg5<|sr 1 G<|sz 4 G G G)<|so G G G<|sE ?_;intro a H
 refine k3 _ ?_;refine aU H rfl (fun hc1=>?_) (fun hc1=>?_)
 ·skip
  try simp only [oz] at hc1
  replace H:=H.keep [] rfl;refine sS H fun K4 k4=>sr 1 G<|sE ?_;intro a H
  refine k4 _ ?_;refine wp_ret ?_;refine ret1 (fn:=Tryz.f41) rfl H rfl ?_;exact ⟨congrArg _ (Jx (by omega)).symm,(S.sel [] G G)⟩
 try simp only [oz] at hc1
 refine wp_skip ?_;refine k2 _ _ ?_;refine sS H fun K5 k5=>sr 1 G<|sE ?_;intro a H
 refine k5 _ ?_;refine wp_seq_k fun K6 k6=>?_
 refine sS H fun K7 k7=>sr 1 G<|sE ?_;intro a H
 refine k7 _ ?_;refine wp_block ?_;replace S:=S.newNil 3 1 (icl []);refine loop_st (X:=Nat×List Int×Option Addr×Nat) (R0:=_) [1] H rfl (fun ⟨k,ml,A9,c9⟩=>[(3,.slice A9 ml.length c9),(4,.int .i64 (k:Int))]) (fun ⟨k,ml,A9,c9⟩=>[ownM 3 1 A9 ml.length c9 (icl ml)]) (fun g ⟨k,ml,A9,c9⟩=>k≤ps.length∧g+k=ps.length∧allN (pasOk pl ps) k=true∧MList ps k ml) (ps.length) (0,[],none,0) ?_ (S.sel [0,1] G G) (H.keep [3,4,1] rfl) ?_
 · exact ⟨by omega,by omega,rfl,MList.nil⟩
 clear H S a;intro g1 x1 a w1 hp S H K8 k8;obtain ⟨k,ml,A9,c9⟩:=x1;dsimp only at hp S H;obtain ⟨hkl,hgk,hA,hM⟩:=hp;refine wp_seq_k fun K9 k9=>?_
 refine sS H fun K10 k10=>sr 1 G<|sf dZ rfl<|sl S 1 fF G G G<|sL eT rfl<|sr 1 G<|sE ?_;intro a H
 refine k10 _ ?_;refine condL H rfl (fun hc2=>?_) (fun hc2=>?_)
 ·skip
  refine wp_skip ?_;refine k9 _ _ ?_;refine wp_seq_k fun K11 k11=>?_
  refine wp_block ?_;replace H:=H.keep [1,3,4] rfl;refine aA fun K12 k12=>?_
  refine ls 5 H<|sf dZ rfl<|sl S 1 fF G G G<|sr 1 G<|si eT dH G G (hps.adr (by omega)) (by omega)<|sd ((aV fV dH rfl S hps (by omega) (by omega)))<|sE ?_;intro a H
  refine aM H rfl S kW ?_;intro b5 _ a hb5 hbw5 S H
  refine aI H S (i:=0) G G G G dH G G ?_
  clear H a S;intro _ a S H;refine k12 _ _ ?_;refine wp_seq_k fun K13 k13=>?_
  replace H:=H.keep [1,3,4,5] rfl
  refine sS H fun K14 k14=>sf fK rfl<|sl S 0 aC G G G<|sf dP rfl<|sl S 2 aC G G G<|sd (aS G G (by unfold i64ok;omega))<|sc rfl Tryz.func55 G G (cZ _ _ _ _)<|sr 2 G<|sg 7 7 36 43 false G G (fun hg8=>by
      have hq8:=hg8;try simp only [oz] at hq8
      exact sy hg8<|sf fA rfl<|sy hg8<|sl S 0 aC G G G<|sy hg8<|sf dP rfl<|sy hg8<|sl S 2 aC G G G<|sy hg8<|sd (aS G G (by unfold i64ok;omega))<|sy hg8<|sc rfl Tryz.func55 G G (cZ _ _ _ _)<|sy hg8<|sr 1 G<|sz 7 G G G)<|so G G G<|sr 1 G<|sg 5 16 45 50 false G G (fun hg17=>by
      have hq17:=hg17;try simp only [oz] at hq17
      exact sy hg17<|sf fK rfl<|sy hg17<|sl S 0 aC G G G<|sy hg17<|sf fA rfl<|sy hg17<|sl S 0 aC G G G<|sy hg17<|sr 1 G<|sz 5 G G G)<|so G G G<|sr 1 G<|sg 4 23 52 56 false G G (fun hg24=>by
      have hq24:=hg24;try simp only [oz] at hq24
      exact sy hg24<|sf iW rfl<|sy hg24<|sl S 0 aC G G G<|sy hg24<|sc rfl Tryz.func55 G G (cZ _ _ _ _)<|sy hg24<|sr 1 G<|sz 4 G G G)<|so G G G<|sr 1 G<|sg 4 29 58 62 false G G (fun hg30=>by
      have hq30:=hg30;try simp only [oz] at hq30
      exact sy hg30<|sf rP rfl<|sy hg30<|sl S 0 aC G G G<|sy hg30<|sc rfl Tryz.func55 G G (cZ _ _ _ _)<|sy hg30<|sr 1 G<|sz 4 G G G)<|so G G G<|sr 1 G<|sg 4 35 64 68 false G G (fun hg36=>by
      have hq36:=hg36;try simp only [oz] at hq36
      exact sy hg36<|sf fC rfl<|sy hg36<|sl S 0 aC G G G<|sy hg36<|sc rfl Tryz.func55 G G (cZ _ _ _ _)<|sy hg36<|sr 1 G<|sz 4 G G G)<|so G G G<|sE ?_;intro a H
  refine k14 _ ?_;refine aU H rfl (fun hc3=>?_) (fun hc3=>?_)
  ·skip
   try simp only [oz] at hc3
   replace H:=H.keep [] rfl;refine sS H fun K15 k15=>sr 1 G<|sE ?_;intro a H
   refine k15 _ ?_;refine wp_ret ?_;refine ret1 (fn:=Tryz.f41) rfl H rfl ?_;exact ⟨congrArg _ (nG (k:=k) (by omega) (by unfold pasOk;rw [Bool.and_eq_false_iff];exact .inl (gZ (by omega)))).symm,(S.sel [] G G)⟩
  try simp only [oz] at hc3
  refine wp_skip ?_;refine k13 _ _ ?_;refine wp_seq_k fun K16 k16=>?_
  refine sS H fun K17 k17=>sf fC rfl<|sl S 0 aC G G G<|sr 2 G<|sg 3 3 73 76 false G G (fun hg4=>by
      have hq4:=hg4;try simp only [oz] at hq4
      exact sy hg4<|sf fC rfl<|sy hg4<|sl S 0 aC G G G<|sy hg4<|sr 1 G<|sz 3 G G G)<|so G G G<|sE ?_;intro a H
  refine k17 _ ?_;refine aU H rfl (fun hc4=>?_) (fun hc4=>?_)
  ·skip
   try simp only [oz] at hc4
   refine wp_seq_k fun K18 k18=>?_
   replace H:=H.keep [1,3,4,5] rfl;refine aA fun K19 k19=>?_
   refine ls 2 H<|sf fD rfl<|sl S 0 aC G G G<|sE ?_;intro a H
   refine aB H G G Tryz.func55 G G (cZ _ _ _ _) ?_;clear H a
   rintro _ _ a ⟨rfl,rfl⟩ H;refine ls 2 H<|sr 2 G<|sE ?_;intro a H
   apply dV (i:=4) (g:=82) (t:=86) (b:=false) 4 H S G G (by kernel_rfl) (by kernel_rfl) G G
   case h1=>
    intro hg5;have hq5:=hg5;try simp only [oz] at hq5
    refine ls 3 H<|sy hg5<|sr 1 G<|sy hg5<|sf fD rfl<|sy hg5<|sl S 0 aC G G G<|sE ?_;intro a H
    refine eV H G G (by assumption) ?_
    refine aB H G G Tryz.func56 G G (Cj ml A9 c9 _ _ (aIr S (i:=1) rfl) (by have:=hM.1;omega)) ?_
    rintro _ _ a ⟨rfl,S2⟩ H;replace S:=S.call S2;clear S2;exact wpList_nil ⟨H.strip 4 rfl rfl,(S.sel [0,1,2] rfl rfl)⟩
   clear H a S;intro a _ H S;refine ls 1 H<|so G G G<|sE ?_;intro a H
   refine k19 _ _ ?_;refine aU H rfl (fun hc5=>?_) (fun hc5=>?_)
   ·skip
    try simp only [oz] at hc5
    replace H:=H.keep [] rfl;refine sS H fun K20 k20=>sr 1 G<|sE ?_;intro a H
    refine k20 _ ?_;refine wp_ret ?_;refine ret1 (fn:=Tryz.f41) rfl H rfl ?_;exact ⟨congrArg _ (nG (k:=k) (by omega) (aBc hM hc5 hc4)).symm,(S.sel [] G G)⟩
   try simp only [oz] at hc5
   have hz:=hM.fresh hc5.1.1 hc5.2
   refine wp_skip ?_;refine k18 _ _ ?_;refine cN ?_;refine ls 3 H<|sr 1 G<|sf fD rfl<|sl S 0 aC G G G<|sE ?_;intro a H
   refine aK H rfl S aQ aY eF G G G G G G G G G ?_;intro A1 _ a hA1 S H
   refine aT H rfl S aQ aY eF lU G G (i:=2) G G G (aIr S (i:=0) rfl) (gQ (w8one rfl)) (by have:=hM.1;omega) (by have:=hM.1;omega) ?_;intro A2 c2 _ a S H
   replace S:=S.recell (i:=2) rfl (cell':=icl (ml++[dE ps k])) (fun q j hq hj=>Ip rfl q j hq hj);rw [show ml.length+1=(ml++[dE ps k]).length by simp] at H S;refine ls 1 H<|sr 1 G<|sE ?_;intro a H
   refine k16 _ _ ?_;replace H:=H.keep [1,3,4,5] rfl;refine sS H fun K22 k22=>sf fC rfl<|sl S 1 aC G G G<|sr 1 G<|sE ?_;intro a H
   refine k22 _ ?_;refine condE H rfl (fun hc6=>?_) (fun hc6=>?_)
   ·skip
    refine sS H fun K23 k23=>sf kI rfl<|sl S 1 aC G G G<|sc rfl Tryz.func55 G G (cZ _ _ _ _)<|sr 1 G<|sE ?_;intro a H
    refine k23 _ ?_;refine aU H rfl (fun hc7=>?_) (fun hc7=>?_)
    ·skip
     try simp only [oz] at hc7
     refine sS H fun K24 k24=>sr 1 G<|sE ?_;intro a H
     refine k24 _ ?_;refine wp_ret ?_;refine ret1 (fn:=Tryz.f41) rfl H rfl ?_;exact ⟨congrArg _ (nG (k:=k) (by omega) (by unfold pasOk;rw [Bool.and_eq_false_iff];exact .inl (gZ (by omega)))).symm,(S.sel [] G G)⟩
    try simp only [oz] at hc7
    refine wp_skip ?_;refine k11 _ _ ?_;replace H:=H.keep [1,3,4] rfl;refine sO H<|sr 1 G<|sd (aH G G (by unfold i64ok;omega))<|sr 1 G<|sE ?_;intro a H
    exact k8 (g1-1) (k+1,_,_,_) a _ (by omega) (by first|exact ⟨by omega,by omega,dD hA (sR (bW.2 (by omega)) hz),hM.add⟩|exact ⟨by omega,by omega,dD hA (sU (bW.2 (by omega)) (by omega)),hM.skip (by unfold dE;omega)⟩) (S.sel [2,3] G G) (H.keep [3,4,1] rfl)
   refine sS H fun K26 k26=>sf kI rfl<|sl S 1 aC G G G<|sr 1 G<|sE ?_;intro a H
   refine k26 _ ?_;refine condN H rfl (fun hc8=>?_) (fun hc8=>?_)
   ·skip
    refine sS H fun K27 k27=>sr 1 G<|sE ?_;intro a H
    refine k27 _ ?_;refine wp_ret ?_;refine ret1 (fn:=Tryz.f41) rfl H rfl ?_;exact ⟨congrArg _ (nG (k:=k) (by omega) (by unfold pasOk;rw [Bool.and_eq_false_iff];exact .inl (gZ (by omega)))).symm,(S.sel [] G G)⟩
   refine wp_skip ?_;refine k11 _ _ ?_;replace H:=H.keep [1,3,4] rfl;refine sO H<|sr 1 G<|sd (aH G G (by unfold i64ok;omega))<|sr 1 G<|sE ?_;intro a H
   exact k8 (g1-1) (k+1,_,_,_) a _ (by omega) (by first|exact ⟨by omega,by omega,dD hA (sR (bW.2 (by omega)) hz),hM.add⟩|exact ⟨by omega,by omega,dD hA (sU (bW.2 (by omega)) (by omega)),hM.skip (by unfold dE;omega)⟩) (S.sel [2,3] G G) (H.keep [3,4,1] rfl)
  try simp only [oz] at hc4
  refine sS H fun K29 k29=>sf fD rfl<|sl S 0 aC G G G<|sr 1 G<|sE ?_;intro a H
  refine k29 _ ?_;refine condN H rfl (fun hc9=>?_) (fun hc9=>?_)
  ·skip
   refine sS H fun K30 k30=>sr 1 G<|sE ?_;intro a H
   refine k30 _ ?_;refine wp_ret ?_;refine ret1 (fn:=Tryz.f41) rfl H rfl ?_;exact ⟨congrArg _ (nG (k:=k) (by omega) (by unfold pasOk;rw [Bool.and_eq_false_iff];exact .inl (gZ (by omega)))).symm,(S.sel [] G G)⟩
  refine wp_skip ?_;refine k16 _ _ ?_;replace H:=H.keep [1,3,4,5] rfl;refine sS H fun K31 k31=>sf fC rfl<|sl S 0 aC G G G<|sr 1 G<|sE ?_;intro a H
  refine k31 _ ?_;refine condE H rfl (fun hc10=>?_) (fun hc10=>?_)
  ·skip
   refine sS H fun K32 k32=>sf kI rfl<|sl S 0 aC G G G<|sc rfl Tryz.func55 G G (cZ _ _ _ _)<|sr 1 G<|sE ?_;intro a H
   refine k32 _ ?_;refine aU H rfl (fun hc11=>?_) (fun hc11=>?_)
   ·skip
    try simp only [oz] at hc11
    refine sS H fun K33 k33=>sr 1 G<|sE ?_;intro a H
    refine k33 _ ?_;refine wp_ret ?_;refine ret1 (fn:=Tryz.f41) rfl H rfl ?_;exact ⟨congrArg _ (nG (k:=k) (by omega) (by unfold pasOk;rw [Bool.and_eq_false_iff];exact .inl (gZ (by omega)))).symm,(S.sel [] G G)⟩
   try simp only [oz] at hc11
   refine wp_skip ?_;refine k11 _ _ ?_;replace H:=H.keep [1,3,4] rfl;refine sO H<|sr 1 G<|sd (aH G G (by unfold i64ok;omega))<|sr 1 G<|sE ?_;intro a H
   exact k8 (g1-1) (k+1,_,_,_) a _ (by omega) (by first|exact ⟨by omega,by omega,dD hA (sR (bW.2 (by omega)) hz),hM.add⟩|exact ⟨by omega,by omega,dD hA (sU (bW.2 (by omega)) (by omega)),hM.skip (by unfold dE;omega)⟩) (S.sel [1,2] G G) (H.keep [3,4,1] rfl)
  refine sS H fun K35 k35=>sf kI rfl<|sl S 0 aC G G G<|sr 1 G<|sE ?_;intro a H
  refine k35 _ ?_;refine condN H rfl (fun hc12=>?_) (fun hc12=>?_)
  ·skip
   refine sS H fun K36 k36=>sr 1 G<|sE ?_;intro a H
   refine k36 _ ?_;refine wp_ret ?_;refine ret1 (fn:=Tryz.f41) rfl H rfl ?_;exact ⟨congrArg _ (nG (k:=k) (by omega) (by unfold pasOk;rw [Bool.and_eq_false_iff];exact .inl (gZ (by omega)))).symm,(S.sel [] G G)⟩
  refine wp_skip ?_;refine k11 _ _ ?_;replace H:=H.keep [1,3,4] rfl;refine sO H<|sr 1 G<|sd (aH G G (by unfold i64ok;omega))<|sr 1 G<|sE ?_;intro a H
  exact k8 (g1-1) (k+1,_,_,_) a _ (by omega) (by first|exact ⟨by omega,by omega,dD hA (sR (bW.2 (by omega)) hz),hM.add⟩|exact ⟨by omega,by omega,dD hA (sU (bW.2 (by omega)) (by omega)),hM.skip (by unfold dE;omega)⟩) (S.sel [1,2] G G) (H.keep [3,4,1] rfl)
 refine wp_exit ?_;refine k6 _ _ ?_;refine wp_seq_k fun K38 k38=>?_
 refine sS H fun K39 k39=>sr 1 G<|sE ?_;intro a H
 refine k39 _ ?_;refine wp_block ?_;refine loop_st (X:=Nat) (R0:=_) [1] H rfl (fun k2=>[(6,.int .i64 (k2:Int))]) (fun k2=>[]) (fun g k2=>k2≤xs.length∧g+k2=xs.length∧allN (exOk pl xs) k2=true) (xs.length) 0 ?_ (S.sel [0,1] G G) (H.keep [6,1] rfl) ?_
 · exact ⟨by omega,by omega,rfl⟩
 clear H S a;intro g2 x2 a w2 hp S H K40 k40;obtain ⟨k2,rfl⟩:∃ y,y=x2:=⟨_,rfl⟩;refine wp_seq_k fun K41 k41=>?_
 refine sS H fun K42 k42=>sr 1 G<|sf gW rfl<|sl S 1 dQ G G G<|sL aQ rfl<|sr 1 G<|sE ?_;intro a H
 refine k42 _ ?_;refine condL H rfl (fun hc13=>?_) (fun hc13=>?_)
 ·skip
  refine wp_skip ?_;refine k41 _ _ ?_;refine wp_seq_k fun K43 k43=>?_
  refine wp_block ?_;replace H:=H.keep [1,6] rfl;replace S:=S.drew
  refine sD H fun K44 k44=>sf gW rfl<|sl S 1 dQ G G G<|sr 1 G<|si aQ aY G G (hxs.adr (by omega)) (by omega)<|slm aC rfl (hxs.rd S (by omega) (by omega))<|sf dP rfl<|sl S 1 aC G G G<|sd (aS G G (by unfold i64ok;omega))<|sc rfl Tryz.func55 G G (cZ _ _ _ _)<|sr 2 G<|sg 16 10 123 139 false G G (fun hg11=>by
      have hq11:=hg11;try simp only [oz] at hq11
      exact sy hg11<|sr 1 G<|sy hg11<|sr 1 G<|sy hg11<|sr 1 G<|sg 12 13 126 138 true G G (fun hg14=>by
           have hq14:=hg14;try simp only [oz] at hq14
           exact sy hg14<|sf gW rfl<|sy hg14<|sl S 1 dQ G G G<|sy hg14<|sr 1 G<|sy hg14<|si aQ aY G G (hxs.adr (by omega)) (by omega)<|sy hg14<|slm aC rfl (hxs.rd S (by omega) (by omega))<|sy hg14<|sf gW rfl<|sy hg14<|sl S 1 dQ G G G<|sy hg14<|sr 1 G<|sy hg14<|sd (aS G G (by unfold i64ok;omega))<|sy hg14<|sI aQ aY G G (hxs.adr (by omega)) (by omega) (by omega)<|sy hg14<|slm aC rfl (hxs.rd S (by omega) (by omega))<|sy hg14<|sr 1 G<|sz 12 G G G)<|sy hg11<|sa G G G<|sz 5 G G G)<|so G G G<|sE ?_;intro a H
  refine k44 _ ?_;refine aU H rfl (fun hc14=>?_) (fun hc14=>?_)
  ·skip
   try simp only [oz] at hc14
   rw [show ((k2:Int)-1).toNat=k2-1 by omega] at hc14;replace H:=H.keep [] rfl;refine sS H fun K45 k45=>sr 1 G<|sE ?_;intro a H
   refine k45 _ ?_;refine wp_ret ?_;refine ret1 (fn:=Tryz.f41) rfl H rfl ?_;exact ⟨congrArg _ (aDg (k:=k2) (by omega) (aBe (by omega))).symm,(S.sel [] G G)⟩
  try simp only [oz] at hc14
  rw [show ((k2:Int)-1).toNat=k2-1 by omega] at hc14;refine wp_skip ?_;refine k43 _ _ ?_;refine sO H<|sr 1 G<|sd (aH G G (by unfold i64ok;omega))<|sr 1 G<|sE ?_;intro a H
  exact k40 (g2-1) (k2+1) a _ (by omega) (⟨by omega,by omega,dD hp.2.2 (aBd (by omega))⟩) (S.sel [0,1] G G) (H.keep [6,1] rfl)
 refine wp_exit ?_;refine k38 _ _ ?_;refine sS H fun K47 k47=>sr 1 G<|sE ?_;intro a H
 refine k47 _ ?_;refine wp_ret ?_;refine ret1 (fn:=Tryz.f41) rfl H rfl ?_;have hk9:k=ps.length:=by omega
 have hk8:k2=xs.length:=by omega
 exact ⟨congrArg _ (aDh (by omega) (hk9 ▸ hA) (hk8 ▸ hp.2.2)).symm,(S.sel [] G G)⟩
theorem Ap (p:Psg) (f:Int) (w:World) :
    Calls Tryz.prog 93 [.agg [.int .i64 p.a,.int .i64 p.b,.int .i64 p.kind,.int .i64 p.ticks,.int .i64 p.wide,.int .i64 p.mach,.int .i64 p.still].toArray,.int .i64 f].toArray w (Ret (fun v w'=>v = .int .i64 (othr p f)∧St w noF [] w')):=by
 refine enter Tryz.func93 rfl Tryz.ntmps93 rfl (fun a H=>?_)
 have S:=St.start w
 refine aA fun K1 k1=>?_
 refine aO H rfl S G G ?_;intro b2 _ a hb2 hbw2 S H
 refine ls 1 H<|sr 1 G<|sE ?_;intro a H
 refine k1 _ _ ?_;refine wp_seq_k fun K2 k2=>?_
 refine sS H fun K3 k3=>sf fK rfl<|sl S 0 aC G G G<|sr 2 G<|sE ?_;intro a H
 refine k3 _ ?_;refine condE H rfl (fun hc1=>?_) (fun hc1=>?_)
 ·skip
  refine sS H fun K4 k4=>sf fA rfl<|sl S 0 aC G G G<|sr 1 G<|sE ?_;intro a H
  refine k4 _ ?_;refine wp_ret ?_;refine ret1 (fn:=Tryz.f93) rfl H rfl ?_;refine ⟨congrArg (Value.int .i64) ?_,(S.sel [] G G)⟩;unfold othr;rw [if_pos hc1]
 refine wp_skip ?_;refine k2 _ _ ?_;refine wp_seq_k fun K5 k5=>?_
 replace H:=H.keep [1,2] rfl;refine sS H fun K6 k6=>sf fA rfl<|sl S 0 aC G G G<|sr 2 G<|sE ?_;intro a H
 refine k6 _ ?_;refine condE H rfl (fun hc2=>?_) (fun hc2=>?_)
 ·skip
  refine sS H fun K7 k7=>sf fK rfl<|sl S 0 aC G G G<|sr 1 G<|sE ?_;intro a H
  refine k7 _ ?_;refine wp_ret ?_;refine ret1 (fn:=Tryz.f93) rfl H rfl ?_;refine ⟨congrArg (Value.int .i64) ?_,(S.sel [] G G)⟩;unfold othr;rw [if_neg hc1,if_pos hc2]
 refine wp_skip ?_;refine k5 _ _ ?_;refine sS H fun K8 k8=>sr 1 G<|sE ?_;intro a H
 refine k8 _ ?_;refine wp_ret ?_;refine ret1 (fn:=Tryz.f93) rfl H rfl ?_;refine ⟨congrArg (Value.int .i64) ?_,(S.sel [] G G)⟩;unfold othr;rw [if_neg hc1,if_neg hc2]
theorem yP (p:Psg) (out:Int) (help:Bool) (w:World) (hm:p.kind=4→0≤p.mach∧p.mach≤11) :
    Calls Tryz.prog 94 [.agg [.int .i64 p.a,.int .i64 p.b,.int .i64 p.kind,.int .i64 p.ticks,.int .i64 p.wide,.int .i64 p.mach,.int .i64 p.still].toArray,.int .i64 out,.bool help].toArray w (Ret (fun v w'=>v = .bool (opn out help p)∧St w noF [] w')):=by
 refine enter Tryz.func94 rfl Tryz.ntmps94 rfl (fun a H=>?_)
 have S:=St.start w
 refine aA fun K1 k1=>?_
 refine aO H rfl S G G ?_;intro b3 _ a hb3 hbw3 S H
 refine ls 1 H<|sr 1 G<|sE ?_;intro a H
 refine k1 _ _ ?_;replace H:=H.keep [1,2,3] rfl
 refine sS H fun K2 k2=>sf fC rfl<|sl S 0 aC G G G<|sr 2 G<|sg 10 3 10 20 false G G (fun hg4=>by
     have hq4:=hg4;try simp only [oz] at hq4
     exact sy hg4<|sf fC rfl<|sy hg4<|sl S 0 aC G G G<|sy hg4<|sr 1 G<|sy hg4<|sr 1 G<|sg 5 7 14 19 true G G (fun hg8=>by
          have hq8:=hg8;try simp only [oz] at hq8
          exact sy hg8<|sr 1 G<|sy hg8<|sf fD rfl<|sy hg8<|sl S 0 aC G G G<|sy hg8<|sc rfl Tryz.func109 G G (Ao _ _ _ (by omega))<|sy hg8<|sr 1 G<|sz 5 G G G)<|sy hg4<|sa G G G<|sz 6 G G G)<|so G G G<|sr 1 G<|sg 6 15 22 28 false G G (fun hg16=>by
     have hq16:=hg16;try simp only [oz] at hq16
     exact sy hg16<|sf fC rfl<|sy hg16<|sl S 0 aC G G G<|sy hg16<|sr 1 G<|sy hg16<|sr 1 G<|sg 1 19 26 27 true G G (fun hg20=>by
          have hq20:=hg20;try simp only [oz] at hq20
          exact sy hg20<|sr 1 G<|sz 1 G G G)<|sy hg16<|sa G G G<|sz 6 G G G)<|so G G G<|sr 1 G<|sE ?_;intro a H
 refine k2 _ ?_;refine wp_ret ?_;refine ret1 (fn:=Tryz.f94) rfl H rfl ?_;refine ⟨congrArg Value.bool ?_,(S.sel [] G G)⟩;unfold opn bitI;rw [aBf]
theorem uQ (pl:Int) (ps:List Psg) (PA:Option Addr) (pc:Nat) (xs:List Int) (XA:Option Addr) (xc:Nat) (out:Int) (l:List Int) (LA:Option Addr) (lc:Nat) (w:World) (hps:InS w noF 7 PA ps.length (pcell ps)) (hpn:ps.length≤9223372036854775807) (hxs:InS w noF 1 XA xs.length (icl xs)) (hxn:xs.length≤9223372036854775807) (hl:InS w noF 1 LA l.length (icl l)) (hln:l.length≤9223372036854775807) :
    Calls Tryz.prog 91 [.agg [.int .i64 pl,.slice PA ps.length pc,.slice XA xs.length xc].toArray,.int .i64 out,.slice LA l.length lc].toArray w (Ret (fun v w'=>v = .int .i64 (askE pl ps xs out l)∧St w noF [] w')):=by
 refine enter Tryz.func91 rfl Tryz.ntmps91 rfl (fun a H=>?_)
 have S:=St.start w
 refine aA fun K1 k1=>?_
 refine aO H rfl S G G ?_;intro b3 _ a hb3 hbw3 S H
 refine ls 1 H<|sr 1 G<|sE ?_;intro a H
 refine k1 _ _ ?_;refine aA fun K2 k2=>?_
 refine ls 1 H<|sd ((aD cE cV rfl S (i:=0) G G))<|sE ?_;intro a H
 refine aB H G G Tryz.func41 G G (lO pl ps PA pc xs XA xc _ (hps.now S) hpn (hxs.now S) hxn) ?_;clear H a
 rintro _ _ a ⟨rfl,S2⟩ H;replace S:=S.call S2;clear S2;refine ls 1 H<|sr 1 G<|sE ?_;intro a H
 refine k2 _ _ ?_;refine wp_seq_k fun K3 k3=>?_
 refine sS H fun K4 k4=>sr 2 G<|sE ?_;intro a H
 refine k4 _ ?_;refine condN H rfl (fun hc1=>?_) (fun hc1=>?_)
 ·skip
  refine sS H fun K5 k5=>sr 2 G<|sE ?_;intro a H
  refine k5 _ ?_;refine wp_ret ?_;refine ret1 (fn:=Tryz.f91) rfl H rfl ?_;refine ⟨?_,(S.sel [] G G)⟩;unfold askE;rw [if_pos hc1]
 have hst:stE pl ps xs=0:=by omega
 have hsz:=(gR hst).size
 refine wp_skip ?_;refine k3 _ _ ?_;refine wp_seq_k fun K6 k6=>?_
 replace H:=H.keep [1,2,3] rfl;refine sS H fun K7 k7=>sr 1 G<|sc rfl Tryz.func60 G G (vQ _ _)<|sr 1 G<|sE ?_;intro a H
 refine k7 _ ?_;refine aU H rfl (fun hc2=>?_) (fun hc2=>?_)
 ·skip
  try simp only [oz] at hc2
  refine sS H fun K8 k8=>sr 1 G<|sE ?_;intro a H
  refine k8 _ ?_;refine wp_ret ?_;refine ret1 (fn:=Tryz.f91) rfl H rfl ?_;refine ⟨?_,(S.sel [] G G)⟩;unfold askE;rw [if_neg (by omega),decide_eq_false (by omega)];rfl
 try simp only [oz] at hc2
 refine wp_skip ?_;refine k6 _ _ ?_;refine wp_seq_k fun K9 k9=>?_
 refine sS H fun K10 k10=>sr 1 G<|sE ?_;intro a H
 refine k10 _ ?_;refine wp_block ?_;refine loop_st (X:=Nat) (R0:=_) [2,3] H rfl (fun k=>[(8,.int .i64 (k:Int))]) (fun k=>[]) (fun g k=>k≤l.length∧g+k=l.length∧allN (fun k=>decide (0≤l.getD k 0∧l.getD k 0≤pl-1)) k=true) (l.length) 0 ?_ (S.sel [0] G G) (H.keep [8,2,3] rfl) ?_
 · exact ⟨by omega,by omega,rfl⟩
 clear H S a;intro g1 x1 a w1 hp S H K11 k11;obtain ⟨k,rfl⟩:∃ y,y=x1:=⟨_,rfl⟩;refine wp_seq_k fun K12 k12=>?_
 refine sS H fun K13 k13=>sr 2 G<|sL aQ rfl<|sr 1 G<|sE ?_;intro a H
 refine k13 _ ?_;refine condL H rfl (fun hc3=>?_) (fun hc3=>?_)
 ·skip
  refine wp_skip ?_;refine k12 _ _ ?_;refine wp_seq_k fun K14 k14=>?_
  refine wp_block ?_;replace H:=H.keep [2,3,8] rfl;replace S:=S.drew;refine sD H fun K15 k15=>sr 2 G<|si aQ aY G G (hl.adr (by omega)) (by omega)<|slm aC rfl (hl.rd S (by omega) (by omega))<|sf dP rfl<|sl S 0 aC G G G<|sd (aS G G (by unfold i64ok;omega))<|sc rfl Tryz.func55 G G (cZ _ _ _ _)<|sr 1 G<|sE ?_;intro a H
  refine k15 _ ?_;refine aU H rfl (fun hc4=>?_) (fun hc4=>?_)
  ·skip
   try simp only [oz] at hc4
   replace H:=H.keep [] rfl;refine sS H fun K16 k16=>sr 1 G<|sE ?_;intro a H
   refine k16 _ ?_;refine wp_ret ?_;refine ret1 (fn:=Tryz.f91) rfl H rfl ?_;refine ⟨?_,(S.sel [] G G)⟩;unfold askE;rw [if_neg (by omega),wV (k:=k) (by omega) (by omega),Bool.and_false];rfl
  try simp only [oz] at hc4
  refine wp_skip ?_;refine k14 _ _ ?_;refine sO H<|sr 1 G<|sd (aH G G (by unfold i64ok;omega))<|sr 1 G<|sE ?_;intro a H
  exact k11 (g1-1) (k+1) a _ (by omega) (⟨by omega,by omega,dD hp.2.2 (by rw [decide_eq_true_eq];omega)⟩) (S.sel [0] G G) (H.keep [8,2,3] rfl)
 refine wp_exit ?_;refine k9 _ _ ?_;refine sS H fun K18 k18=>sr 1 G<|sE ?_;intro a H
 refine k18 _ ?_;refine wp_ret ?_;refine ret1 (fn:=Tryz.f91) rfl H rfl ?_;refine ⟨?_,(S.sel [] G G)⟩;unfold askE plOk;rw [if_neg (by omega),show l.length=k by omega,hp.2.2,decide_eq_true (by omega)];rfl
theorem Ot (P:Nat) (ps:List Psg) (PA:Option Addr) (pc:Nat) (xs:List Int) (XA:Option Addr) (xc:Nat) (out:Int) (help:Bool) (to:Int) (w:World) (hps:InS w noF 7 PA ps.length (pcell ps)) (hpn:ps.length≤9223372036854775807) (hxs:InS w noF 1 XA xs.length (icl xs)) (hxn:xs.length≤9223372036854775807) (hV:StV P ps xs) (hou:0≤out) (hto:0≤to∧to<P) :
    Calls Tryz.prog 92 [.agg [.int .i64 (P:Int),.slice PA ps.length pc,.slice XA xs.length xc].toArray,.int .i64 out,.bool help,.int .i64 to].toArray w (Ret (fun v w'=>∃ A c,v = .slice A P c∧FarOk P ps out help to.toNat (dst P ps out help to.toNat)∧St w noF [ownM 3 1 A P c (rcl (dst P ps out help to.toNat))] w')):=by
 have hP10:=hV.size
 refine enter Tryz.func92 rfl Tryz.ntmps92 rfl (fun a H=>?_)
 have S:=St.start w
 refine aA fun K1 k1=>?_
 refine aO H rfl S G G ?_;intro b4 _ a hb4 hbw4 S H
 refine ls 1 H<|sr 1 G<|sE ?_;intro a H
 refine k1 _ _ ?_;refine sS H fun K2 k2=>sr 1 G<|sE ?_;intro a H
 refine k2 _ ?_;refine wp_seq_k fun K3 k3=>?_
 refine sS H fun K4 k4=>sr 1 G<|sE ?_;intro a H
 refine k4 _ ?_;refine wp_block ?_;replace S:=S.newNil 3 1 (fun _ _ => .int .i64 1073741824);refine loop_st (X:=Nat×Option Addr×Nat) (R0:=_) [1,2,3,4] H rfl (fun ⟨k,A9,c9⟩=>[(9,.slice A9 k c9),(10,.int .i64 (k:Int))]) (fun ⟨k,A9,c9⟩=>[ownM 3 1 A9 k c9 (fun _ _ => .int .i64 1073741824)]) (fun g ⟨k,A9,c9⟩=>k≤P∧g+k=P) (P) (0,none,0) ?_ (S.sel [0,1] G G) (H.keep [9,10,1,2,3,4] rfl) ?_
 · exact ⟨by omega,by omega⟩
 clear H S a;intro g1 x1 a w1 hp S H K5 k5;obtain ⟨k,A9,c9⟩:=x1;dsimp only at hp S H;refine wp_seq_k fun K6 k6=>?_
 refine sS H fun K7 k7=>sr 1 G<|sf dP rfl<|sl S 1 aC G G G<|sr 1 G<|sE ?_;intro a H
 refine k7 _ ?_;refine condL H rfl (fun hc1=>?_) (fun hc1=>?_)
 ·skip
  refine wp_skip ?_;refine k6 _ _ ?_;refine wp_seq_k fun K8 k8=>?_
  refine wp_block ?_;refine cN ?_;refine ls 1 H<|sr 1 G<|sE ?_;intro a H
  refine aK H rfl S aQ aY eF G G G G G G G G G ?_;intro A1 _ a hA1 S H
  refine aT H rfl S aQ aY eF lU G G (i:=1) G G G (aIr S (i:=0) rfl) (gQ (w8one rfl)) (by omega) (by omega) ?_;intro A2 c2 _ a S H
  replace S:=S.recell (i:=1) rfl (cell':=fun _ _ => .int .i64 1073741824) (fun q j hq hj=>Vf q j hq hj);refine ls 1 H<|sr 1 G<|sE ?_;intro a H
  refine k8 _ _ ?_;replace H:=H.keep [1,2,3,4,9,10] rfl;refine sO H<|sr 1 G<|sd (aH G G (by unfold i64ok;omega))<|sr 1 G<|sE ?_;intro a H
  exact k5 (g1-1) (k+1,_,_) a _ (by omega) (⟨by omega,by omega⟩) (S.sel [1,2] G G) (H.keep [9,10,1,2,3,4] rfl)
 refine wp_exit ?_;refine k3 _ _ ?_;refine aA fun K11 k11=>?_
 refine ls 3 H<|sr 2 G<|sI aQ aY G G (aIp S (i:=0) rfl (by omega)) (by omega) (by omega)<|sE ?_;intro a H
 refine bB H S (i:=0) G G G (by omega) (by omega) aY rfl ?_
 clear H a S;intro _ a S H;replace S:=S.recell (i:=0) rfl (cell':=rcl (tk0 to.toNat)) (fun q j hq hj=>Ry (P:=0) (k:=0) q j hj);refine k11 _ _ ?_;refine wp_seq_k fun K12 k12=>?_
 refine sS H fun K13 k13=>sr 1 G<|sE ?_;intro a H
 refine k13 _ ?_;refine wp_block ?_;have hkP:P=k:=by omega
 subst hkP;refine loop_st (X:=(Nat→Int)×Bool) (R0:=_) [1,2,4,9] H rfl (fun ⟨tk,mo⟩=>[(11,.bool mo)]) (fun ⟨tk,mo⟩=>[ownM 3 1 A9 P c9 (rcl tk)]) (fun g ⟨tk,mo⟩=>FarI P ps out help to.toNat tk∧potF P tk+b2i mo≤(g:Int)∧(mo=false→∀ q,q<ps.length→∀ i,i<P→FixAt ps out help tk i q)) ((potF P (tk0 to.toNat)+1).toNat) (tk0 to.toNat,true) ?_ (S.sel [0,1] G G) (H.keep [11,1,2,4,9] rfl) ?_
 · exact ⟨FarI.init (by omega),by have:=vE (P:=P) (tk:=tk0 to.toNat);show potF P (tk0 to.toNat)+1≤_;omega,fun h=>by cases h⟩
 clear H S a;intro g2 x2 a w2 hp S H K14 k14;obtain ⟨tk,mo⟩:=x2;dsimp only at hp S H;obtain ⟨hI,hpot,hfx⟩:=hp;have hpn0:=vE (P:=P) (tk:=tk);refine wp_seq_k fun K15 k15=>?_
 refine sS H fun K16 k16=>sr 1 G<|sE ?_;intro a H
 refine k16 _ ?_;refine aU H rfl (fun hc2=>?_) (fun hc2=>?_)
 ·skip
  try simp only [oz] at hc2
  have hb9:=aHn hc2
  refine wp_skip ?_;refine k15 _ _ ?_;refine wp_block ?_;refine sS H fun K17 k17=>sr 1 G<|sE ?_;intro a H
  refine k17 _ ?_;refine sS H fun K18 k18=>sr 1 G<|sE ?_;intro a H
  refine k18 _ ?_;refine wp_block ?_;refine loop_st (X:=Nat×(Nat→Int)×Bool) (R0:=_) [1,2,4,9] H rfl (fun ⟨k,tk2,m2⟩=>[(11,.bool m2),(12,.int .i64 (k:Int))]) (fun ⟨k,tk2,m2⟩=>[ownM 3 1 A9 P c9 (rcl tk2)]) (fun g ⟨k,tk2,m2⟩=>k≤ps.length∧g+k=ps.length∧FarI P ps out help to.toNat tk2∧potF P tk2+b2i m2≤potF P tk∧(m2=false→∀ q,q<k→∀ i,i<P→FixAt ps out help tk2 i q)) (ps.length) (0,tk,false) ?_ (S.sel [0,1] G G) (H.keep [11,12,1,2,4,9] rfl) ?_
  · exact ⟨by omega,by omega,hI,by show potF P tk+0≤_;omega,fun _ i hi=>absurd hi (Nat.not_lt_zero i)⟩
  clear H S a;intro g3 x3 a w3 hp S H K19 k19;obtain ⟨k,tk2,m2⟩:=x3;dsimp only at hp S H;obtain ⟨hkl,hgk,hI2,hpot2,hfx2⟩:=hp;refine wp_seq_k fun K20 k20=>?_
  refine sS H fun K21 k21=>sr 1 G<|sf dZ rfl<|sl S 1 fF G G G<|sL eT rfl<|sr 1 G<|sE ?_;intro a H
  refine k21 _ ?_;refine condL H rfl (fun hc3=>?_) (fun hc3=>?_)
  ·skip
   have hvb:=hV.psv k (by omega)
   refine wp_skip ?_;refine k20 _ _ ?_;refine wp_seq_k fun K22 k22=>?_
   refine wp_block ?_;replace H:=H.keep [1,2,4,9,11,12] rfl;refine aA fun K23 k23=>?_
   refine ls 5 H<|sf dZ rfl<|sl S 1 fF G G G<|sr 1 G<|si eT dH G G (hps.adr (by omega)) (by omega)<|sd ((aV fV dH rfl S hps (by omega) (by omega)))<|sE ?_;intro a H
   refine aM H rfl S kW ?_;intro b13 _ a hb13 hbw13 S H
   refine aI H S (i:=0) G G G G dH G G ?_
   clear H a S;intro _ a S H;refine k23 _ _ ?_;refine wp_seq_k fun K24 k24=>?_
   replace H:=H.keep [1,2,4,9,11,12,13] rfl;refine aA fun K25 k25=>?_
   refine ls 3 H<|sd ((aD fV dH rfl S (i:=0) G G))<|sr 2 G<|sE ?_;intro a H
   refine aB H G G Tryz.func94 G G (yP (ps.getD k aJj) out help _ (hV.mch k (by omega))) ?_;clear H a
   rintro _ _ a ⟨rfl,S2⟩ H;replace S:=S.call S2;clear S2;refine ls 1 H<|sr 1 G<|sE ?_;intro a H
   refine k25 _ _ ?_;refine aU H rfl (fun hc4=>?_) (fun hc4=>?_)
   ·skip
    try simp only [oz] at hc4
    refine wp_exit ?_;refine k22 _ _ ?_;refine sO H<|sr 1 G<|sd (aH G G (by unfold i64ok;omega))<|sr 1 G<|sE ?_;intro a H
    exact k19 (g3-1) (k+1,_,_) a _ (by omega) (by first|exact ⟨by omega,by omega,hI3.upA hV.psv (by omega) (by omega) (by omega) (by omega) hob hq6 hpot3⟩|exact ⟨by omega,by omega,hI3,hpot3,mI (fun h=>(hfx3 h).1) (fun h=>wX hV.psv (by omega) (hfx3 h).2 hq6)⟩|exact ⟨by omega,by omega,hI2,hpot2,mI hfx2 (fun _=>wY (by omega))⟩) (S.sel [1,2] G G) (H.keep [11,12,1,2,4,9] rfl)
   try simp only [oz] at hc4
   have hop:opn out help (ps.getD k aJj)=true:=hc4
   have hoa:=aHk hV.psv (show k<ps.length by omega) hop
   have hob:=aHl hV.psv (show k<ps.length by omega) hop
   refine wp_skip ?_;refine k24 _ _ ?_;have SR:=(S.sel [0,2] G G);refine eZ (X:=(Nat→Int)×Bool) [1,2,4,9,12,13] H rfl (fun ⟨tk3,m3⟩=>[(11,.bool m3)]) (fun ⟨tk3,m3⟩=>[ownM 3 1 A9 P c9 (rcl tk3)]) (fun ⟨tk3,m3⟩=>FarI P ps out help to.toNat tk3∧potF P tk3+b2i m3≤potF P tk∧(m3=false→(∀ q,q<k→∀ i,i<P→FixAt ps out help tk3 i q)∧(tk3 (ps.getD k aJj).b.toNat<0∨(0≤tk3 (ps.getD k aJj).a.toNat∧tk3 (ps.getD k aJj).a.toNat≤tk3 (ps.getD k aJj).b.toNat+(ps.getD k aJj).ticks)))) SR (fun K28 k28=>?_) ?_
   ·skip
    have hsa:=hI2.small (by omega) (i:=(ps.getD k aJj).a.toNat) (by omega)
    have hsb:=hI2.small (by omega) (i:=(ps.getD k aJj).b.toNat) (by omega)
    have hra:=zM (x:=tk2 (ps.getD k aJj).a.toNat) (by omega)
    have hrb:=zM (x:=tk2 (ps.getD k aJj).b.toNat) (by omega)
    replace H:=H.keep [1,2,4,9,11,12,13] rfl;replace S:=S.drew;refine sD H fun K29 k29=>sr 1 G<|sf fA rfl<|sl S 0 aC G G G<|sI aQ aY G G (aIp S (i:=1) rfl (by omega)) (by omega) (by omega)<|slm aC rfl (aIq S (i:=1) rfl (by omega) (by omega))<|sf iW rfl<|sl S 0 aC G G G<|sd (aH G G (by unfold i64ok;omega))<|sr 1 G<|sf fK rfl<|sl S 0 aC G G G<|sI aQ aY G G (aIp S (i:=1) rfl (by omega)) (by omega) (by omega)<|slm aC rfl (aIq S (i:=1) rfl (by omega) (by omega))<|sr 1 G<|sE ?_;intro a H
    refine k29 _ ?_;refine condL H rfl (fun hc5=>?_) (fun hc5=>?_)
    ·skip
     have hq5:=aDi (by omega) (by omega) hvb.2.2 hc5
     replace H:=H.keep [1,2,4,9,12,13] rfl;replace S:=S.drew;refine lQ 12 (.p 0 (.p 1 (.q 2 (.p 3 (.p 4 (.q 5 (.p 6 (.p 8 (.q 9 (.e 7 (.p 10 (.p 11 (.e 12 .nil))))))))))))) (by kernel_rfl) (by kernel_rfl) (S.sel [0,2] G G) fun K30 k30=>?_
     refine aR H G G (fun _=>aJ rfl) ?_;intro a H
     refine aR H G G (fun _=>(aF fK rfl)) ?_;intro a H
     refine aG H G G (fun _ S=>aE aC rfl (aIo S (i:=0) G G)) ?_;intro a H
     refine aR H G G (fun _=>aJ rfl) ?_;intro a H
     refine aR H G G (fun _=>(aF fA rfl)) ?_;intro a H
     refine aG H G G (fun _ S=>aE aC rfl (aIo S (i:=0) G G)) ?_;intro a H
     refine aR H G G (fun _=>bU aQ aY G G (aIp S (i:=1) rfl (by omega)) (by omega) (by omega)) ?_;intro a H
     refine aR H G G (fun _=>(aF iW rfl)) ?_;intro a H
     refine aG H G G (fun _ S=>aE aC rfl (aIo S (i:=0) G G)) ?_;intro a H
     refine bA rfl ?_
     refine ls 1 H<|slm aC rfl (aIq S (i:=1) rfl (by omega) (by omega))<|sE ?_;intro a H
     refine wpList_nil (And.intro (Or.inr (S.sel [0,2] G G)) ?_);refine aR H G G (fun _=>aH G G (by unfold i64ok;omega)) ?_;intro a H;refine aR H G G (fun _=>bU aQ aY G G (aIp S (i:=1) rfl (by omega)) (by omega) (by omega)) ?_;intro a H;refine bA rfl ?_;refine bB H S (i:=1) G G G (by omega) (by omega) aY rfl ?_;clear H a S;intro _ a S H;replace S:=S.recell (i:=1) rfl (cell':=rcl (upd tk2 (ps.getD k aJj).a.toNat (tk2 (ps.getD k aJj).b.toNat+(ps.getD k aJj).ticks))) (fun q j hq hj=>Kc hq5.1 (by omega) q j hj);refine wpList_nil (And.intro (Or.inl rfl) ?_);refine dI ?_;refine k30 _ _ ?_;replace H:=H.keep [1,2,4,9,12,13] rfl;refine sO H<|sr 1 G<|sE ?_;intro a H
     exact k28 (_,true) a _ (hI2.upA hV.psv (by omega) (by omega) (by omega) (by omega) hoa hq5 hpot2) (S.sel [1,0,2] G G) (H.keep [11,1,2,4,9,12,13] rfl)
    have hq5:=aDj (x:=tk2 (ps.getD k aJj).b.toNat) (y:=tk2 (ps.getD k aJj).a.toNat) (by omega) (by omega) hvb.2.2 (by omega)
    refine wp_skip ?_;exact k28 (_,_) a _ (⟨hI2,hpot2,fun h=>⟨hfx2 h,hq5⟩⟩) (S.sel [1,0,2] G G) (H.keep [11,1,2,4,9,12,13] rfl)
   clear SR H S a;intro xm a wm hp S H;obtain ⟨tk3,m3⟩:=xm;obtain ⟨hI3,hpot3,hfx3⟩:=hp;have hsa:=hI3.small (by omega) (i:=(ps.getD k aJj).a.toNat) (by omega);have hsb:=hI3.small (by omega) (i:=(ps.getD k aJj).b.toNat) (by omega);have hra:=zM (x:=tk3 (ps.getD k aJj).a.toNat) (by omega);have hrb:=zM (x:=tk3 (ps.getD k aJj).b.toNat) (by omega);replace H:=H.keep [1,2,4,9,11,12,13] rfl;replace S:=S.drew;refine sD H fun K32 k32=>sr 1 G<|sf fK rfl<|sl S 1 aC rfl rfl rfl<|sI aQ aY rfl rfl (aIp S (i:=0) rfl (by omega)) (by omega) (by omega)<|slm aC rfl (aIq S (i:=0) rfl (by omega) (by omega))<|sf iW rfl<|sl S 1 aC rfl rfl rfl<|sd (aH rfl rfl (by unfold i64ok;omega))<|sr 1 G<|sf fA rfl<|sl S 1 aC rfl rfl rfl<|sI aQ aY rfl rfl (aIp S (i:=0) rfl (by omega)) (by omega) (by omega)<|slm aC rfl (aIq S (i:=0) rfl (by omega) (by omega))<|sr 1 G<|sE ?_;intro a H
   refine k32 _ ?_;refine condL H rfl (fun hc6=>?_) (fun hc6=>?_)
   ·skip
    have hq6:=aDi (by omega) (by omega) hvb.2.2 hc6
    replace H:=H.keep [1,2,4,9,12,13] rfl;replace S:=S.drew;refine lQ 12 (.p 0 (.p 1 (.q 2 (.p 3 (.p 4 (.q 5 (.p 6 (.p 8 (.q 9 (.e 7 (.p 10 (.p 11 (.e 12 .nil))))))))))))) (by kernel_rfl) (by kernel_rfl) (S.sel [1,2] G G) fun K33 k33=>?_
    refine aR H G G (fun _=>aJ rfl) ?_;intro a H
    refine aR H G G (fun _=>(aF fA rfl)) ?_;intro a H
    refine aG H G G (fun _ S=>aE aC rfl (aIo S (i:=0) G G)) ?_;intro a H
    refine aR H G G (fun _=>aJ rfl) ?_;intro a H
    refine aR H G G (fun _=>(aF fK rfl)) ?_;intro a H
    refine aG H G G (fun _ S=>aE aC rfl (aIo S (i:=0) G G)) ?_;intro a H
    refine aR H G G (fun _=>bU aQ aY G G (aIp S (i:=0) rfl (by omega)) (by omega) (by omega)) ?_;intro a H
    refine aR H G G (fun _=>(aF iW rfl)) ?_;intro a H
    refine aG H G G (fun _ S=>aE aC rfl (aIo S (i:=0) G G)) ?_;intro a H
    refine bA rfl ?_
    refine ls 1 H<|slm aC rfl (aIq S (i:=0) rfl (by omega) (by omega))<|sE ?_;intro a H
    refine wpList_nil (And.intro (Or.inr (S.sel [1,2] G G)) ?_);refine aR H G G (fun _=>aH G G (by unfold i64ok;omega)) ?_;intro a H;refine aR H G G (fun _=>bU aQ aY G G (aIp S (i:=0) rfl (by omega)) (by omega) (by omega)) ?_;intro a H;refine bA rfl ?_;refine bB H S (i:=0) G G G (by omega) (by omega) aY rfl ?_;clear H a S;intro _ a S H;replace S:=S.recell (i:=0) rfl (cell':=rcl (upd tk3 (ps.getD k aJj).b.toNat (tk3 (ps.getD k aJj).a.toNat+(ps.getD k aJj).ticks))) (fun q j hq hj=>Kc hq6.1 (by omega) q j hj);refine wpList_nil (And.intro (Or.inl rfl) ?_);refine dI ?_;refine k33 _ _ ?_;replace H:=H.keep [1,2,4,9,12] rfl;refine sO H<|sr 1 G<|sE ?_;intro a H
    refine k22 _ _ ?_;refine sO H<|sr 1 G<|sd (aH G G (by unfold i64ok;omega))<|sr 1 G<|sE ?_;intro a H
    exact k19 (g3-1) (k+1,_,_) a _ (by omega) (by first|exact ⟨by omega,by omega,hI3.upA hV.psv (by omega) (by omega) (by omega) (by omega) hob hq6 hpot3⟩|exact ⟨by omega,by omega,hI3,hpot3,mI (fun h=>(hfx3 h).1) (fun h=>wX hV.psv (by omega) (hfx3 h).2 hq6)⟩|exact ⟨by omega,by omega,hI2,hpot2,mI hfx2 (fun _=>wY (by omega))⟩) (S.sel [0,2] G G) (H.keep [11,12,1,2,4,9] rfl)
   have hq6:=aDj (x:=tk3 (ps.getD k aJj).a.toNat) (y:=tk3 (ps.getD k aJj).b.toNat) (by omega) (by omega) hvb.2.2 (by omega)
   refine wp_skip ?_;refine k22 _ _ ?_;refine sO H<|sr 1 G<|sd (aH G G (by unfold i64ok;omega))<|sr 1 G<|sE ?_;intro a H
   exact k19 (g3-1) (k+1,_,_) a _ (by omega) (by first|exact ⟨by omega,by omega,hI3.upA hV.psv (by omega) (by omega) (by omega) (by omega) hob hq6 hpot3⟩|exact ⟨by omega,by omega,hI3,hpot3,mI (fun h=>(hfx3 h).1) (fun h=>wX hV.psv (by omega) (hfx3 h).2 hq6)⟩|exact ⟨by omega,by omega,hI2,hpot2,mI hfx2 (fun _=>wY (by omega))⟩) (S.sel [0,2] G G) (H.keep [11,12,1,2,4,9] rfl)
  refine wp_exit ?_;exact k14 (g2-1) (tk2,m2) a _ (by omega) (⟨hI2,by omega,fun h q hq=>hfx2 h q (by omega)⟩) (S.sel [0,1] G G) (H.keep [11,1,2,4,9] rfl)
 try simp only [oz] at hc2
 refine wp_exit ?_;refine k12 _ _ ?_;refine sS H fun K37 k37=>sr 2 G<|sE ?_;intro a H
 refine k37 _ ?_;refine wp_ret ?_;refine ret1 (fn:=Tryz.f92) rfl H rfl ?_;have hmf:mo=false:=by (cases mo <;> simp_all)
 have hok:=hI.done (by omega) (fun i hi q hq=>hfx hmf q hq i hi)
 have hdo:=Rw hV.psv (by omega) hok
 replace S:=S.recell (i:=0) rfl (cell':=rcl (dst P ps out help to.toNat)) (fun q j hq hj=>by unfold rcl;rw [kZ hV.psv hok hq]);exact ⟨_,_,rfl,hdo,(S.sel [0] G G)⟩
end
section
theorem tT (l:List Psg):∀ k j,k<l.length→j<7→(pcell l k j).oneCell'=true:=fun k j _ _=>by
 unfold pcell Psg.cell
 split <;> rfl
def sameI (a b:List Int):Bool:=decide (a=b)
theorem Vg {a b:List Int} (h:a.length≠b.length):sameI a b=false:=decide_eq_false fun e=>h (by rw [e])
theorem aBg {a b:List Int} {k:Nat} (h:¬ a.getD k 0=b.getD k 0):sameI a b=false:=decide_eq_false fun e=>h (by rw [e])
theorem Vh {a b:List Int} (hn:a.length=b.length) (h:∀ k,k<a.length→a.getD k 0=b.getD k 0):sameI a b=true:=decide_eq_true (List.ext_getElem hn fun k h1 h2=>by
 have:=h k h1
 rwa [List.getD_eq_getElem?_getD,List.getD_eq_getElem?_getD,List.getElem?_eq_getElem h1,List.getElem?_eq_getElem h2] at this)
theorem aBh {a b:List Int} {k:Nat} (h:∀ q,q<k→a.getD q 0=b.getD q 0) (hk:a.getD k 0=b.getD k 0):∀ q,q<k+1→a.getD q 0=b.getD q 0:=fun q hq=>by
 by_cases e:q=k
 ·subst e;exact hk
 ·exact h q (by omega)
theorem Iq (pl:Int) (ps:List Psg) (PA:Option Addr) (pc:Nat) (xs:List Int) (XA:Option Addr) (xc:Nat) (w:World) (hps:InS w noF 7 PA ps.length (pcell ps)) (hpn:ps.length≤9223372036854775807) (hxs:InS w noF 1 XA xs.length (icl xs)) (hxn:xs.length≤9223372036854775807) (hps2:56*ps.length≤140737488355328) (hxs2:8*xs.length≤140737488355328) :
    Calls Tryz.prog 24 [.agg [.int .i64 pl,.slice PA ps.length pc,.slice XA xs.length xc].toArray].toArray w (Ret (fun u w'=>∃ A c B d,u = .agg [.int .i64 pl,.slice A ps.length c,.slice B xs.length d].toArray∧St w noF [ownM 89 7 A ps.length c (pcell ps),ownM 3 1 B xs.length d (icl xs)] w')):=by
 refine enter Tryz.func24 rfl Tryz.ntmps24 rfl (fun a H=>?_)
 have S:=St.start w
 refine aA fun K1 k1=>?_
 refine aO H rfl S G G ?_;intro b1 _ a hb1 hbw1 S H
 refine aM H rfl S Qx ?_;intro b2 _ a hb2 hbw2 S H
 refine k1 _ _ ?_;replace H:=H.keep [1,2] rfl;replace S:=S.drew;refine lQ 11 (.q 0 (.q 1 (.q 3 (.q 4 (.q 7 (.q 8 (.b2 2 (.b2 5 (.e 6 (.e 9 (.q 10 (.e 11 .nil)))) 6 (.e 5 (.e 9 (.q 10 (.e 11 .nil))))) 6 (.e 2 (.e 5 (.e 9 (.q 10 (.e 11 .nil)))))))))))) (by kernel_rfl) (by kernel_rfl) (S.sel [1] G G) fun K2 k2=>?_
 refine aG H G G (fun _ S=>(aF dP rfl)) ?_;intro a H
 refine aG H G G (fun _ S=>aE aC rfl (aIo S (i:=0) G G)) ?_;intro a H
 refine aG H G G (fun _ S=>(aF dZ rfl)) ?_;intro a H
 refine aG H G G (fun _ S=>aE fF rfl (aIo S (i:=0) G G)) ?_;intro a H
 refine aG H G G (fun _ S=>(aF gW rfl)) ?_;intro a H
 refine aG H G G (fun _ S=>aE dQ rfl (aIo S (i:=0) G G)) ?_;intro a H
 refine nR G G ?_ ?_
 ·skip
  refine cU H rfl S eT dH (pcell ps) ?_;intro A1 _ a S H
  refine wpList_nil (And.intro (Or.inr (S.sel [2] G G)) ?_);refine nR G G ?_ ?_
  ·skip
   refine aT H rfl S eT dH kW Qy G G (i:=0) G G G ((hps.now S)) (tT ps) (by omega) (by omega) ?_;intro A2 c2 _ a S H
   rw [Nat.zero_add] at H;replace S:=S.recell (i:=0) (n:=ps.length) (cell':=pcell ps) (by simp only [Nat.zero_add];rfl) (fun k j hk hj=>by unfold capp;rw [if_neg (by omega)];rfl);refine wpList_nil (And.intro (Or.inr (S.sel [2] G G)) ?_);refine bA rfl ?_;refine cU H rfl S aQ aY (icl xs) ?_;intro A3 _ a S H;refine wpList_nil (And.intro (Or.inr (S.sel [3] G G)) ?_);refine bA rfl ?_;refine aT H rfl S aQ aY eF lU G G (i:=0) G G G ((hxs.now S)) (fun _ _ _ _=>rfl) (by omega) (by omega) ?_;intro A4 c4 _ a S H;rw [Nat.zero_add] at H;replace S:=S.recell (i:=0) (n:=xs.length) (cell':=icl xs) (by simp only [Nat.zero_add];rfl) (fun k j hk hj=>by unfold capp;rw [if_neg (by omega)];rfl);refine wpList_nil (And.intro (Or.inr (S.sel [3] G G)) ?_);refine aG H G G (fun _ S=>aN Ju G G) ?_;intro a H;refine bA rfl ?_;refine aI H S (i:=2) G G G G cV G G ?_;clear H a S;intro _ a S H;refine wpList_nil (And.intro (Or.inl rfl) ?_);refine dI ?_;refine k2 _ _ ?_;refine wp_ret ?_;refine retA (fn:=Tryz.f24) rfl H rfl cE (by exact cV) (cY S (i:=2) rfl) ?_;exact ⟨_,_,_,_,rfl,(S.sel [1,0] G G)⟩
  ·skip
   refine cU H rfl S aQ aY (icl xs) ?_;intro A5 _ a S H
   refine wpList_nil (And.intro (Or.inr (S.sel [3] G G)) ?_);refine bA rfl ?_;refine aT H rfl S eT dH kW Qy G G (i:=1) G G G ((hps.now S)) (tT ps) (by omega) (by omega) ?_;intro A6 c6 _ a S H;rw [Nat.zero_add] at H;replace S:=S.recell (i:=1) (n:=ps.length) (cell':=pcell ps) (by simp only [Nat.zero_add];rfl) (fun k j hk hj=>by unfold capp;rw [if_neg (by omega)];rfl);refine wpList_nil (And.intro (Or.inr (S.sel [3] G G)) ?_);refine bA rfl ?_;refine aT H rfl S aQ aY eF lU G G (i:=0) G G G ((hxs.now S)) (fun _ _ _ _=>rfl) (by omega) (by omega) ?_;intro A7 c7 _ a S H;rw [Nat.zero_add] at H;replace S:=S.recell (i:=0) (n:=xs.length) (cell':=icl xs) (by simp only [Nat.zero_add];rfl) (fun k j hk hj=>by unfold capp;rw [if_neg (by omega)];rfl);refine wpList_nil (And.intro (Or.inr (S.sel [3] G G)) ?_);refine aG H G G (fun _ S=>aN Ju G G) ?_;intro a H;refine bA rfl ?_;refine aI H S (i:=2) G G G G cV G G ?_;clear H a S;intro _ a S H;refine wpList_nil (And.intro (Or.inl rfl) ?_);refine dI ?_;refine k2 _ _ ?_;refine wp_ret ?_;refine retA (fn:=Tryz.f24) rfl H rfl cE (by exact cV) (cY S (i:=2) rfl) ?_;exact ⟨_,_,_,_,rfl,(S.sel [1,0] G G)⟩
 ·skip
  refine cU H rfl S aQ aY (icl xs) ?_;intro A8 _ a S H
  refine wpList_nil (And.intro (Or.inr (S.sel [2] G G)) ?_);refine bA rfl ?_;refine cU H rfl S eT dH (pcell ps) ?_;intro A9 _ a S H;refine wpList_nil (And.intro (Or.inr (S.sel [3] G G)) ?_);refine bA rfl ?_;refine aT H rfl S eT dH kW Qy G G (i:=0) G G G ((hps.now S)) (tT ps) (by omega) (by omega) ?_;intro A10 c10 _ a S H;rw [Nat.zero_add] at H;replace S:=S.recell (i:=0) (n:=ps.length) (cell':=pcell ps) (by simp only [Nat.zero_add];rfl) (fun k j hk hj=>by unfold capp;rw [if_neg (by omega)];rfl);refine wpList_nil (And.intro (Or.inr (S.sel [3] G G)) ?_);refine bA rfl ?_;refine aT H rfl S aQ aY eF lU G G (i:=1) G G G ((hxs.now S)) (fun _ _ _ _=>rfl) (by omega) (by omega) ?_;intro A11 c11 _ a S H;rw [Nat.zero_add] at H;replace S:=S.recell (i:=1) (n:=xs.length) (cell':=icl xs) (by simp only [Nat.zero_add];rfl) (fun k j hk hj=>by unfold capp;rw [if_neg (by omega)];rfl);refine wpList_nil (And.intro (Or.inr (S.sel [3] G G)) ?_);refine aG H G G (fun _ S=>aN Ju G G) ?_;intro a H;refine bA rfl ?_;refine aI H S (i:=2) G G G G cV G G ?_;clear H a S;intro _ a S H;refine wpList_nil (And.intro (Or.inl rfl) ?_);refine dI ?_;refine k2 _ _ ?_;refine wp_ret ?_;refine retA (fn:=Tryz.f24) rfl H rfl cE (by exact cV) (cY S (i:=2) rfl) ?_;exact ⟨_,_,_,_,rfl,(S.sel [0,1] G G)⟩
end
section
theorem Ir {X:Nat→List Nat} {a e:Nat} (q:Nat):upd (fun i=>(X i).length) a ((X a).length+1) q=(upd X a (X a++[e]) q).length:=by
 unfold upd;split <;> simp
theorem aDo {X:Nat→List Nat} {a b e:Nat}:(upd X a (X a++[e]) b).length≤(X b).length+1:=by
 unfold upd;split
 ·rename_i h;subst h;simp
 ·omega
theorem Fv {X:Nat→List Nat} {a e:Nat} {v:Value} (hv:v = .int .i64 (e:Int)):∀ i k j,k<upd (fun i=>(X i).length) a ((X a).length+1) i→j<1 →
    upd (fun i=>wcl (X i)) a (capp (X a).length (wcl (X a)) (fun k' j=>([[v]].getD k' []).getD j undef)) i k j=wcl (upd X a (X a++[e]) i) k j:=by
  intro i k j hk hj;by_cases h:i=a
  · subst h
    rw [bR] at hk ⊢;rw [bR];exact wW hv k j hk hj
  · rw [bP _ _ h,bP _ _ h]
theorem Vi {X:Nat→List Nat} {a e:Nat} {A:Nat→Option Addr} {c:Nat→Nat} {A1:Option Addr} {c1:Nat}:∀ k j,j<1→cput (hdc A (fun i=>(X i).length) c) a 0 (.slice A1 ((X a).length+1) c1) k j=hdc (upd A a A1) (fun i=>(upd X a (X a++[e]) i).length) (upd c a c1) k j:=by
 intro k j hj;have:j=0:=by omega
 subst this;unfold cput hdc;have e2:=Ir (X:=X) (a:=a) (e:=e) k;dsimp only;rw [←e2];by_cases h:k=a
 ·subst h;simp [bR]
 ·simp [bP _ _ h,h]
theorem Fw {E:List Eg} {r r':Nat→Int} {f t:Nat} {m pas tick:Int} (h:∀ k,k<E.length→r' k=r k) (hm:r' E.length=m):∀ k j,k<E.length+1→j<5 →
    capp E.length (egc E r) (fun k' j=>([[Value.int .i64 (f:Int),.int .i64 (t:Int),.int .i64 m,.int .i64 pas,.int .i64 tick]].getD k' []).getD j undef) k j=egc (E++[⟨f,t,pas,tick⟩]) r' k j:=by
  intro k j hk hj;unfold capp;by_cases h1:k<E.length
  · rw [if_pos h1]
    unfold egc
    rw [mM h1,h k h1]
  · have e:k=E.length:=by omega
    subst e;rw [if_neg h1,Nat.sub_self];unfold egc;rw [jK (Nat.le_refl _),Nat.sub_self,hm];match j,hj with
    | 0,_=>rfl
    | 1,_=>rfl
    | 2,_=>rfl
    | 3,_=>rfl
    | 4,_=>rfl
theorem Li {J:List Jn} {a b:Nat} {most pas tick:Int}:egs (J++[⟨a,b,most,⟨pas,0,tick,0⟩⟩])=(egs J++[⟨a,b,pas,tick⟩])++[⟨b,a,-1,0⟩]:=by rw [oR];unfold egs2;simp
theorem five {p:Nat→Prop} (h0:p 0) (h1:p 1) (h2:p 2) (h3:p 3) (h4:p 4):∀ j,j<5→p j:=by
 intro j hj;match j,hj with
 | 0,_=>exact h0
 | 1,_=>exact h1
 | 2,_=>exact h2
 | 3,_=>exact h3
 | 4,_=>exact h4
theorem Ck {J:List Jn} {a b:Nat} {most pas tick:Int} (h:a≠b) (i:Nat):upd (upd (ixs (egs J)) a (ixs (egs J) a++[(egs J).length])) b (upd (ixs (egs J)) a (ixs (egs J) a++[(egs J).length]) b++[(egs J).length+1]) i=ixs (egs (J++[⟨a,b,most,⟨pas,0,tick,0⟩⟩])) i:=by
  rw [oS (by exact h)];dsimp only;rw [bP (i:=b) _ _ (fun e=>h e.symm),←iE];unfold upd;by_cases h1:i=b
  · subst h1;rw [if_pos rfl,if_neg (fun e=>h e.symm),if_pos rfl]
  · rw [if_neg h1]
    by_cases h2:i=a
    · subst h2;rw [if_pos rfl,if_pos rfl]
    · rw [if_neg h2,if_neg h2,if_neg h1]
theorem oW (E:List Eg) (nb P T:Nat) (st1 st2:Value) (EA:Option Addr) (ec k:Nat) (AA:Option Addr) (A:Nat→Option Addr) (c:Nat→Nat) (vol:Int) (p t:Nat) (w:World) (F:Nat→Prop) (S:St w F [boxM nb 157 [.int .i64 (P:Int),st1,st2,.int .i64 (T:Int),.slice EA (E).length ec,.slice AA (k) (k),.int .i64 (vol)]] w) (hp:p≤1000) (ht:t≤1000) (hT:T≤1000) :
    Calls Tryz.prog 112 [.pointer (some ⟨nb,0,none⟩),.int .i64 (p:Int),.int .i64 (t:Int)].toArray w (Ret (fun u w'=>u = .int .i64 ((ndR T p t:Nat):Int)∧w'=w)):=by
 have hb9:p*(T+1)≤1000*1001:=Nat.mul_le_mul hp (by omega)
 have hc9:((p*(T+1):Nat):Int)=(p:Int)*((T:Int)+1):=by rw [Int.natCast_mul];rfl
 refine enter Tryz.func112 rfl Tryz.ntmps112 rfl (fun a H=>?_)
 skip
 refine sS H fun K1 k1=>sr 1 G<|sE ?_;intro a H
 refine k1 _ ?_;replace H:=H.keep [0,1,2] rfl;refine sS H fun K2 k2=>sr 3 G<|sf Dh rfl<|sl S 0 aC G G G<|sd (aH G G (by unfold i64ok;omega))<|sd (fR G G (by rw [←hc9];unfold i64ok;omega))<|sr 1 G<|sd (aH G G (by rw [←hc9];unfold i64ok;omega))<|sr 1 G<|sE ?_;intro a H
 refine k2 _ ?_;refine wp_ret ?_;refine ret1 (fn:=Tryz.f112) rfl H rfl ?_;refine ⟨congrArg (Value.int .i64) ?_,rfl⟩;unfold ndR;rw [Int.natCast_add,hc9]
theorem tU (E:List Eg) (nb P T:Nat) (st1 st2:Value) (EA:Option Addr) (ec k:Nat) (AA:Option Addr) (A:Nat→Option Addr) (c:Nat→Nat) (vol:Int) (w:World) (F:Nat→Prop) (S:St w F [boxM nb 157 [.int .i64 (P:Int),st1,st2,.int .i64 (T:Int),.slice EA (E).length ec,.slice AA (k) (k),.int .i64 (vol)]] w) (hP:P≤1000) (hT:T≤1000) :
    Calls Tryz.prog 110 [.pointer (some ⟨nb,0,none⟩)].toArray w (Ret (fun u w'=>u = .int .i64 ((P*(T+1):Nat):Int)∧St w F [boxM nb 157 [.int .i64 (P:Int),st1,st2,.int .i64 (T:Int),.slice EA (E).length ec,.slice AA (k) (k),.int .i64 (vol)]] w')):=by
 have hb9:P*(T+1)≤1000*1001:=Nat.mul_le_mul hP (by omega)
 have hc9:((P*(T+1):Nat):Int)=(P:Int)*((T:Int)+1):=by rw [Int.natCast_mul];rfl
 refine enter Tryz.func110 rfl Tryz.ntmps110 rfl (fun a H=>?_)
 skip
 refine sS H fun K1 k1=>sr 1 G<|sE ?_;intro a H
 refine k1 _ ?_;replace H:=H.keep [0] rfl;replace S:=S.drew;refine sD H fun K2 k2=>sr 2 G<|sf Qq rfl<|sf dP rfl<|sl S 0 aC G G G<|sr 2 G<|sf Dh rfl<|sl S 0 aC G G G<|sd (aH G G (by unfold i64ok;omega))<|sd (fR G G (by rw [←hc9];unfold i64ok;omega))<|sr 1 G<|sE ?_;intro a H
 refine k2 _ ?_;refine wp_ret ?_;refine ret1 (fn:=Tryz.f110) rfl H rfl ?_;exact ⟨congrArg (Value.int .i64) hc9.symm,(S.sel [0] G G)⟩
theorem vR (J:List Jn) (nb P T:Nat) (st1 st2:Value) (EA:Option Addr) (ec k:Nat) (AA:Option Addr) (A:Nat→Option Addr) (c:Nat→Nat) (vol:Int) (a0 b0:Nat) (most pas tick:Int) (w:World) (F:Nat→Prop) (S:St w F [boxM nb 157 [.int .i64 (P:Int),st1,st2,.int .i64 (T:Int),.slice EA (egs J).length ec,.slice AA (k) (k),.int .i64 (vol)],ownM 184 5 EA (egs J).length ec (egc (egs J) (egr J)),ownM 23 1 AA (k) (k) (hdc A (fun z9=>((ixs (egs J)) z9).length) c),ragM 3 1 (fun q=>q<k) A (fun z9=>((ixs (egs J)) z9).length) c (fun z9=>wcl ((ixs (egs J)) z9))] w) (ha:a0<k) (hb:b0<k) (hab:a0≠b0) (hJ:J.length≤100000) (hlen:∀ i,i<k→(ixs (egs J) i).length≤1000000) :
    Calls Tryz.prog 111 [.pointer (some ⟨nb,0,none⟩),.int .i64 (a0:Int),.int .i64 (b0:Int),.int .i64 most,.int .i64 pas,.int .i64 tick].toArray w (Ret (fun u w'=>u = .tuple #[]∧∃ EA' ec' A' c',St w F [boxM nb 157 [.int .i64 (P:Int),st1,st2,.int .i64 (T:Int),.slice EA' (egs (J++[⟨a0,b0,most,⟨pas,0,tick,0⟩⟩])).length ec',.slice AA (k) (k),.int .i64 (vol)],ownM 184 5 EA' (egs (J++[⟨a0,b0,most,⟨pas,0,tick,0⟩⟩])).length ec' (egc (egs (J++[⟨a0,b0,most,⟨pas,0,tick,0⟩⟩])) (egr (J++[⟨a0,b0,most,⟨pas,0,tick,0⟩⟩]))),ownM 23 1 AA (k) (k) (hdc A' (fun z9=>((ixs (egs (J++[⟨a0,b0,most,⟨pas,0,tick,0⟩⟩]))) z9).length) c'),ragM 3 1 (fun q=>q<k) A' (fun z9=>((ixs (egs (J++[⟨a0,b0,most,⟨pas,0,tick,0⟩⟩]))) z9).length) c' (fun z9=>wcl ((ixs (egs (J++[⟨a0,b0,most,⟨pas,0,tick,0⟩⟩]))) z9))] w')):=by
 have hEl:=iE J
 refine enter Tryz.func111 rfl Tryz.ntmps111 rfl (fun a H=>?_)
 skip
 replace S:=S.drew;refine lQ 20 (.p 0 (.p 1 (.p 2 (.q 3 (.p 4 (.p 5 (.p 6 (.p 7 (.q 8 (.p 9 (.p 10 (.q 11 (.p 12 (.p 13 (.p 14 (.q 15 (.p 16 (.e 17 (.e 18 (.p 19 (.e 20 .nil))))))))))))))))))))) (by kernel_rfl) (by kernel_rfl) (S.sel [0,1,2] G G) fun K1 k1=>?_
 refine aR H G G (fun _=>aJ rfl) ?_;intro a H
 refine aR H G G (fun _=>cG rfl) ?_;intro a H
 refine aR H G G (fun _=>(aF jX rfl)) ?_;intro a H
 refine aG H G G (fun _ S=>aE mY rfl (aIo S (i:=0) G G)) ?_;intro a H
 refine aR H G G (fun _=>aJ rfl) ?_;intro a H
 refine aR H G G (fun _=>aJ rfl) ?_;intro a H
 refine aR H G G (fun _=>cG rfl) ?_;intro a H
 refine aR H G G (fun _=>(aF jX rfl)) ?_;intro a H
 refine aG H G G (fun _ S=>aE mY rfl (aIo S (i:=0) G G)) ?_;intro a H
 refine aR H G G (fun _=>aJ rfl) ?_;intro a H
 refine aR H G G (fun _=>aW oI rJ G G (aIp S (i:=2) rfl (by omega)) (by omega)) ?_;intro a H
 refine aG H G G (fun _ S=>aE dQ rfl (aIq S (i:=2) rfl (by omega) (by omega))) ?_;intro a H
 refine aR H G G (fun _=>aJ rfl) ?_;intro a H
 refine aR H G G (fun _=>cG rfl) ?_;intro a H
 refine aR H G G (fun _=>(aF gD rfl)) ?_;intro a H
 refine aG H G G (fun _ S=>aE jS rfl (aIo S (i:=0) G G)) ?_;intro a H
 refine aR H G G (fun _=>dF iU rfl) ?_;intro a H
 refine bA rfl ?_
 refine aK H rfl S aQ aY eF G G G G G G G G G ?_;intro A1 _ a hA1 S H
 refine wpList_nil (And.intro (Or.inr (S.sel [1,2,3] G G)) ?_);refine bA rfl ?_;replace S:=aIv S (i:=4) rfl ha;refine aT H rfl S aQ aY eF lU G G (i:=0) G G G (aIr S (i:=0+1) rfl) (gQ (w8one rfl)) (by have h9:=hlen a0 ha;omega) (by have h9:=hlen a0 ha;omega) ?_;intro Aa0 ca0 _ a S H;replace S:=aIz S (i:=4) (p:=a0) rfl ha;replace S:=aIw S (i:=4) rfl (n':=fun i=>((upd (ixs (egs J)) a0 ((ixs (egs J)) a0++[(egs J).length])) i).length) (cell':=fun i=>wcl ((upd (ixs (egs J)) a0 ((ixs (egs J)) a0++[(egs J).length])) i)) (fun _ _=>rfl) (fun q _=>Ir q) (fun _ _=>rfl) (fun i _=>Fv rfl i);refine wpList_nil (And.intro (Or.inr (S.sel [1,2,3] G G)) ?_);refine aR H G G (fun _=>aW oI rJ G G (aIp S (i:=3) rfl (by omega)) (by omega)) ?_;intro a H;refine bA rfl ?_;refine bB H S (i:=3) G G G (by omega) (by omega) rJ rfl ?_;clear H a S;intro _ a S H;replace S:=S.recell (i:=3) rfl (cell':=hdc (upd A a0 Aa0) (fun i=>((upd (ixs (egs J)) a0 ((ixs (egs J)) a0++[(egs J).length])) i).length) (upd c a0 ca0)) (fun k j hk hj=>Vi k j hj);refine wpList_nil (And.intro (Or.inl rfl) ?_);refine dI ?_;refine k1 _ _ ?_;replace S:=(S.sel [0,1,2,3,4] G G);replace H:=H.keep [0,1,2,3,4,5] rfl;refine aA fun K2 k2=>?_
 refine ls 11 H<|sr 3 G<|sf gD rfl<|sl S 1 jS G G G<|sr 5 G<|sd (aN Rm G G)<|sE ?_;intro a H
 refine aK H rfl S iU iS tH G G G G G G G G G ?_;intro A2 _ a hA2 S H
 refine aT H rfl S iU iS tH Rf G G (i:=3) G G G (aIr S (i:=0) rfl) (gQ (five G G G G G)) (by omega) (by omega) ?_;intro A3 c3 _ a S H
 replace S:=S.recell (i:=3) rfl (cell':=egc (egs J++[(⟨a0,b0,pas,tick⟩:Eg)]) (egr (J++[⟨a0,b0,most,⟨pas,0,tick,0⟩⟩]))) (fun k j hk hj=>Fw (fun q hq=>Kl (by omega)) (by rw [hEl];exact Ej _ _) k j hk hj);rw [show (egs J).length+1=(egs J++[(⟨a0,b0,pas,tick⟩:Eg)]).length by simp] at H S;refine ls 2 H<|sr 1 G<|sf gD rfl<|sE ?_;intro a H
 refine aI H S (i:=2) G G G G Ql G G ?_
 clear H a S;intro _ a S H;refine k2 _ _ ?_;replace S:=(S.sel [0,1,2,3,4,5] G G);replace H:=H.keep [0,1,2] rfl;replace S:=S.drew;refine lQ 20 (.p 0 (.p 1 (.p 2 (.q 3 (.p 4 (.p 5 (.p 6 (.p 7 (.q 8 (.p 9 (.p 10 (.q 11 (.p 12 (.p 13 (.p 14 (.q 15 (.p 16 (.e 17 (.e 18 (.p 19 (.e 20 .nil))))))))))))))))))))) (by kernel_rfl) (by kernel_rfl) (S.sel [0,1,2,3,4] G G) fun K3 k3=>?_
 refine aR H G G (fun _=>aJ rfl) ?_;intro a H
 refine aR H G G (fun _=>cG rfl) ?_;intro a H
 refine aR H G G (fun _=>(aF jX rfl)) ?_;intro a H
 refine aG H G G (fun _ S=>aE mY rfl (aIo S (i:=2) G G)) ?_;intro a H
 refine aR H G G (fun _=>aJ rfl) ?_;intro a H
 refine aR H G G (fun _=>aJ rfl) ?_;intro a H
 refine aR H G G (fun _=>cG rfl) ?_;intro a H
 refine aR H G G (fun _=>(aF jX rfl)) ?_;intro a H
 refine aG H G G (fun _ S=>aE mY rfl (aIo S (i:=2) G G)) ?_;intro a H
 refine aR H G G (fun _=>aJ rfl) ?_;intro a H
 refine aR H G G (fun _=>aW oI rJ G G (aIp S (i:=4) rfl (by omega)) (by omega)) ?_;intro a H
 refine aG H G G (fun _ S=>aE dQ rfl (aIq S (i:=4) rfl (by omega) (by omega))) ?_;intro a H
 refine aR H G G (fun _=>aJ rfl) ?_;intro a H
 refine aR H G G (fun _=>cG rfl) ?_;intro a H
 refine aR H G G (fun _=>(aF gD rfl)) ?_;intro a H
 refine aG H G G (fun _ S=>aE jS rfl (aIo S (i:=2) G G)) ?_;intro a H
 refine aR H G G (fun _=>dF iU rfl) ?_;intro a H
 refine bA rfl ?_
 refine aK H rfl S aQ aY eF G G G G G G G G G ?_;intro A4 _ a hA4 S H
 refine wpList_nil (And.intro (Or.inr (S.sel [1,2,3,4,5] G G)) ?_);refine bA rfl ?_;replace S:=aIv S (i:=6) rfl hb;refine aT H rfl S aQ aY eF lU G G (i:=0) G G G (aIr S (i:=0+1) rfl) (gQ (w8one rfl)) (by have h9:((upd (ixs (egs J)) a0 (ixs (egs J) a0++[(egs J).length])) b0).length≤(ixs (egs J) b0).length+1:=aDo;have h8:=hlen b0 hb;omega) (by have h9:((upd (ixs (egs J)) a0 (ixs (egs J) a0++[(egs J).length])) b0).length≤(ixs (egs J) b0).length+1:=aDo;have h8:=hlen b0 hb;omega) ?_;intro Ab0 cb0 _ a S H;replace S:=aIz S (i:=6) (p:=b0) rfl hb;replace S:=aIw S (i:=6) rfl (n':=fun i=>((upd (upd (ixs (egs J)) a0 (ixs (egs J) a0++[(egs J).length])) b0 ((upd (ixs (egs J)) a0 (ixs (egs J) a0++[(egs J).length])) b0++[(egs J).length+1])) i).length) (cell':=fun i=>wcl ((upd (upd (ixs (egs J)) a0 (ixs (egs J) a0++[(egs J).length])) b0 ((upd (ixs (egs J)) a0 (ixs (egs J) a0++[(egs J).length])) b0++[(egs J).length+1])) i)) (fun _ _=>rfl) (fun q _=>Ir q) (fun _ _=>rfl) (fun i _=>Fv (by rw [List.length_append];rfl) i);refine wpList_nil (And.intro (Or.inr (S.sel [1,2,3,4,5] G G)) ?_);refine aR H G G (fun _=>aW oI rJ G G (aIp S (i:=5) rfl (by omega)) (by omega)) ?_;intro a H;refine bA rfl ?_;refine bB H S (i:=5) G G G (by omega) (by omega) rJ rfl ?_;clear H a S;intro _ a S H;replace S:=S.recell (i:=5) rfl (cell':=hdc (upd (upd A a0 Aa0) b0 Ab0) (fun i=>((upd (upd (ixs (egs J)) a0 (ixs (egs J) a0++[(egs J).length])) b0 ((upd (ixs (egs J)) a0 (ixs (egs J) a0++[(egs J).length])) b0++[(egs J).length+1])) i).length) (upd (upd c a0 ca0) b0 cb0)) (fun k j hk hj=>Vi k j hj);refine wpList_nil (And.intro (Or.inl rfl) ?_);refine dI ?_;refine k3 _ _ ?_;replace S:=(S.sel [0,1,2,3,4,5,6] G G);replace H:=H.keep [0,1,2] rfl;refine cN ?_;refine ls 8 H<|sr 3 G<|sf gD rfl<|sl S 3 jS G G G<|sr 2 G<|sd (aN Rm G G)<|sE ?_;intro a H
 refine aK H rfl S iU iS tH G G G G G G G G G ?_;intro A5 _ a hA5 S H
 refine aT H rfl S iU iS tH Rf G G (i:=5) G G G (aIr S (i:=0) rfl) (gQ (five G G G G G)) (by simp only [List.length_append,List.length_singleton];omega) (by simp only [List.length_append,List.length_singleton];omega) ?_;intro A6 c6 _ a S H
 replace S:=S.recell (i:=5) rfl (cell':=egc (egs (J++[⟨a0,b0,most,⟨pas,0,tick,0⟩⟩])) (egr (J++[⟨a0,b0,most,⟨pas,0,tick,0⟩⟩]))) (fun k j hk hj=>by rw [Li];exact Fw (m:=0) (fun q hq=>rfl) (by rw [List.length_append,hEl];exact Ek _ _) k j hk hj);rw [show (egs J++[(⟨a0,b0,pas,tick⟩:Eg)]).length+1=(egs (J++[⟨a0,b0,most,⟨pas,0,tick,0⟩⟩])).length by rw [Li];simp] at H S;refine ls 2 H<|sr 1 G<|sf gD rfl<|sE ?_;intro a H
 refine aI H S (i:=4) G G G G Ql G G ?_
 clear H a S;intro _ a S H;refine ret0 (fn:=Tryz.f111) rfl H ?_;replace S:=(S.sel [0,1,2,3,4,5,6,7] G G);replace S:=S.recell (i:=6) rfl (cell':=hdc (upd (upd A a0 Aa0) b0 Ab0) (fun i=>(ixs (egs (J++[⟨a0,b0,most,⟨pas,0,tick,0⟩⟩])) i).length) (upd (upd c a0 ca0) b0 cb0)) (fun k j _ _=>by unfold hdc;have e9:=Ck (J:=J) (most:=most) (pas:=pas) (tick:=tick) hab k;dsimp only;rw [e9]);replace S:=aIw S (i:=7) rfl (n':=fun i=>(ixs (egs (J++[⟨a0,b0,most,⟨pas,0,tick,0⟩⟩])) i).length) (cell':=fun i=>wcl (ixs (egs (J++[⟨a0,b0,most,⟨pas,0,tick,0⟩⟩])) i)) (fun _ _=>rfl) (fun q _=>congrArg List.length (Ck hab q)) (fun _ _=>rfl) (fun i _ k j _ _=>congrArg (fun l=>wcl l k j) (Ck hab i));exact ⟨rfl,_,_,_,_,(S.sel [4,5,6,7] G G)⟩
end
section
def w8bcl (L:Nat→Int) (i _j:Nat):Value := .bool (bC L i)
theorem bcl0 {b:Nat} {k j:Nat} (hj:j<1):cput (fun _ _=>Value.bool false) b 0 (.bool true) k j=w8bcl (fun v=>if v=b then 0 else -1) k j:=by
 have:j=0:=by omega
 subst this;unfold cput w8bcl bC;dsimp only;by_cases e:k=b
 ·subst e;simp
 ·simp [e]
theorem aBi {L:Nat→Int} {p:Nat} {v:Int} (hv:0≤v) {k j:Nat} (hj:j<1):cput (w8bcl L) p 0 (.bool true) k j=w8bcl (upd L p v) k j:=by
 have:j=0:=by omega
 subst this;unfold cput w8bcl bC upd;by_cases e:k=p
 ·rw [if_pos ⟨e,rfl⟩,if_pos e,decide_eq_true hv]
 ·rw [if_neg (fun h=>e h.1),if_neg e]
theorem aEz {n:Nat→Nat} {p v:Nat} {k j:Nat} (hj:j<1):cput (ncl n) p 0 (.int .i64 (v:Int)) k j=ncl (upd n p v) k j:=by
 have:j=0:=by omega
 subst this;unfold cput ncl upd;by_cases e:k=p
 ·rw [if_pos ⟨e,rfl⟩,if_pos e]
 ·rw [if_neg (fun h=>e h.1),if_neg e]
theorem aBj {q:Nat→Nat} {n v:Nat} {x:Value} (hx:x = .int .i64 (v:Int)) {k j:Nat} (hk:k<n+1) (hj:j<1):capp n (ncl q) (fun k' j=>([[x]].getD k' []).getD j undef) k j=ncl (upd q n v) k j:=by
  subst hx;have:j=0:=by omega
  subst this;unfold capp ncl upd;by_cases h:k<n
  · rw [if_pos h,if_neg (by omega)]
  · have e:k=n:=by omega
    subst e;rw [if_neg h,Nat.sub_self,if_pos rfl];rfl
theorem Fx:∀ k j,j<1→[Value.bool false].getD j undef=(fun _ _=>Value.bool false:Nat→Nat→Value) k j:=by
 intro k j hj;have:j=0:=by omega
 subst this;rfl
theorem Fy (N:Net) (E:List Eg) (r:Nat→Int) (nb P T:Nat) (st1 st2:Value) (EA:Option Addr) (ec k:Nat) (AA:Option Addr) (A:Nat→Option Addr) (c:Nat→Nat) (vol:Int) (w:World) (F:Nat→Prop) (S:St w F [boxM nb 157 [.int .i64 (P:Int),st1,st2,.int .i64 (T:Int),.slice EA (E).length ec,.slice AA (k) (k),.int .i64 (vol)],ownM 184 5 EA (E).length ec (egc (E) (r)),ownM 23 1 AA (k) (k) (hdc A (fun z9=>((ixs E) z9).length) c),ragM 3 1 (fun q=>q<k) A (fun z9=>((ixs E) z9).length) c (fun z9=>wcl ((ixs E) z9))] w) (K:Lk N E) (W:N.Wf) (hk:N.k=k) (hb0:P*(T+1)<k) (hk2:k≤1000000) (hE:E.length≤1000000) (hP:P≤1000) (hT:T≤1000) :
    Calls Tryz.prog 114 [.pointer (some ⟨nb,0,none⟩)].toArray w (Ret (fun u w'=>∃ IA BA L by_,u = .tuple #[.slice IA k k,.slice BA k k]∧LevOk N (rmE E r) (P*(T+1)) L∧Rch N E r (P*(T+1)) L by_∧St w F [ownM 4 1 IA k k (w8bcl L),ownM 3 1 BA k k (ncl by_),boxM nb 157 [.int .i64 (P:Int),st1,st2,.int .i64 (T:Int),.slice EA (E).length ec,.slice AA (k) (k),.int .i64 (vol)],ownM 184 5 EA (E).length ec (egc (E) (r)),ownM 23 1 AA (k) (k) (hdc A (fun z9=>((ixs E) z9).length) c),ragM 3 1 (fun q=>q<k) A (fun z9=>((ixs E) z9).length) c (fun z9=>wcl ((ixs E) z9))] w')):=by
 refine enter Tryz.func114 rfl Tryz.ntmps114 rfl (fun a H=>?_)
 skip
 refine sS H fun K1 k1=>sr 2 G<|sE ?_;intro a H
 refine k1 _ ?_;have SR:=(S.sel [0,1,2,3] G G);refine eZ (X:=Option Addr×Option Addr) [0] H rfl (fun ⟨IA,BA⟩=>[(4,.slice IA k k),(5,.slice BA k k)]) (fun ⟨IA,BA⟩=>[ownM 4 1 IA k k (fun _ _ => .bool false),ownM 3 1 BA k k (ncl (fun _=>0))]) (fun ⟨IA,BA⟩=>True) SR (fun K2 k2=>?_) ?_
 ·skip
  replace H:=H.keep [0] rfl;replace S:=S.drew;refine kR 999 (.p 0 (.p 1 (.p 2 (.q 3 (.p 4 (.p 6 (.p 7 (.p 8 (.q 9 (.p 10 (.b2 5 (.p 12 (.e 11 (.p 13 .nil))) 11 (.e 5 (.p 12 (.p 13 .nil)))))))))))))) (by kernel_rfl) (by kernel_rfl) (S.sel [0,1,2,3] G G) ?_;refine aR H G G (fun _=>aJ rfl) ?_;intro a H;refine aR H G G (fun _=>cG rfl) ?_;intro a H;refine aR H G G (fun _=>(aF jX rfl)) ?_;intro a H;refine aG H G G (fun _ S=>aE mY rfl (aIo S (i:=0) G G)) ?_;intro a H;refine aR H G G (fun _=>dF oI rfl) ?_;intro a H;refine aR H G G (fun _=>aJ rfl) ?_;intro a H;refine aR H G G (fun _=>cG rfl) ?_;intro a H;refine aR H G G (fun _=>(aF jX rfl)) ?_;intro a H;refine aG H G G (fun _ S=>aE mY rfl (aIo S (i:=0) G G)) ?_;intro a H;refine aR H G G (fun _=>dF oI rfl) ?_;intro a H;refine nR G G ?_ ?_
  ·skip
   refine eU (n:=k) H rfl S oH tG Ml Ym rfl (by decide) G G (by omega) (by omega) ?_;intro A1 _ a hA1 S H
   replace S:=S.recell (i:=0) rfl (cell':=fun _ _ => .bool false) (fun k j _ hj=>Fx k j hj);refine wpList_nil (And.intro (Or.inr (S.sel [1,2,3,4] G G)) ?_);refine aR H G G (fun _=>cF rfl) ?_;intro a H;refine bA rfl ?_;refine eU (n:=k) H rfl S aQ aY eF lU rfl (by decide) G G (by omega) (by omega) ?_;intro A2 _ a hA2 S H;replace S:=S.recell (i:=0) rfl (cell':=ncl (fun _=>0)) (fun k j _ hj=>Hn k j hj);refine wpList_nil (And.intro (Or.inr (S.sel [2,3,4,5] G G)) ?_);refine aR H G G (fun _=>cF rfl) ?_;intro a H;refine dI ?_;exact k2 (_,_) a _ (trivial) (S.sel [1,0,2,3,4,5] G G) (H.keep [4,5,0] rfl)
  ·skip
   refine eU (n:=k) H rfl S aQ aY eF lU rfl (by decide) G G (by omega) (by omega) ?_;intro A3 _ a hA3 S H
   replace S:=S.recell (i:=0) rfl (cell':=ncl (fun _=>0)) (fun k j _ hj=>Hn k j hj);refine wpList_nil (And.intro (Or.inr (S.sel [1,2,3,4] G G)) ?_);refine bA rfl ?_;refine eU (n:=k) H rfl S oH tG Ml Ym rfl (by decide) G G (by omega) (by omega) ?_;intro A4 _ a hA4 S H;replace S:=S.recell (i:=0) rfl (cell':=fun _ _ => .bool false) (fun k j _ hj=>Fx k j hj);refine wpList_nil (And.intro (Or.inr (S.sel [2,3,4,5] G G)) ?_);refine aR H G G (fun _=>cF rfl) ?_;intro a H;refine aR H G G (fun _=>cF rfl) ?_;intro a H;refine dI ?_;exact k2 (_,_) a _ (trivial) (S.sel [0,1,2,3,4,5] G G) (H.keep [4,5,0] rfl)
 clear SR H S a;intro xm a wm hp S H;obtain ⟨IA,BA⟩:=xm;replace H:=H.keep [0,4,5] rfl;refine aA fun K4 k4=>?_
 refine ls 2 H<|sr 2 G<|sE ?_;intro a H
 have S1:=(S.sel [2] G G)
 refine aB H G G Tryz.func110 G G (tU E nb P T st1 st2 EA ec k AA A c vol _ _ S1.startR hP hT) ?_;clear H a
 rintro _ _ a ⟨rfl,S2⟩ H;replace S:=(S.sel [2,0,1,3,4,5] rfl rfl).callR (M:=[_]) S2;clear S1 S2;refine ls 1 H<|si oH tG rfl rfl (aIp S (i:=1) rfl (by omega)) (by omega)<|sE ?_;intro a H
 refine bB H S (i:=1) G G G (by omega) (by omega) tG rfl ?_
 clear H a S;intro _ a S H;replace S:=S.recell (i:=1) rfl (cell':=w8bcl (fun v=>if v=(P*(T+1)) then 0 else -1)) (fun k j _ hj=>bcl0 hj);refine k4 _ _ ?_;refine aA fun K5 k5=>?_
 refine ls 1 H<|sr 1 G<|sE ?_;intro a H
 have S1:=(S.sel [0] G G)
 refine aB H G G Tryz.func110 G G (tU E nb P T st1 st2 EA ec k AA A c vol _ _ S1.startR hP hT) ?_;clear H a
 rintro _ _ a ⟨rfl,S2⟩ H;replace S:=(S.sel [0,1,2,3,4,5] rfl rfl).callR (M:=[_]) S2;clear S1 S2;refine aK H rfl S aQ aY eF rfl rfl rfl rfl rfl rfl rfl rfl rfl ?_;intro A5 _ a hA5 S H;replace S:=S.recell (i:=0) rfl (cell':=ncl (fun _=>(P*(T+1)))) (fun k j hk hj=>Bj hk hj);refine ls 1 H<|sr 1 G<|sE ?_;intro a H
 refine k5 _ _ ?_;refine wp_seq_k fun K6 k6=>?_
 replace H:=H.keep [0,4,5,6] rfl;refine sS H fun K7 k7=>sr 1 G<|sE ?_;intro a H
 refine k7 _ ?_;refine wp_block ?_;refine loop_st (X:=(Nat→Int)×(Nat→Nat)×Nat×Nat×Option Addr×Nat×(Nat→Nat)) (R0:=_) [0,4,5] H rfl (fun ⟨L,qf,ql,h,QA,qc,by_⟩=>[(6,.slice QA ql qc),(7,.int .i64 (h:Int))]) (fun ⟨L,qf,ql,h,QA,qc,by_⟩=>[ownM 4 1 IA k k (w8bcl L),ownM 3 1 BA k k (ncl by_),ownM 3 1 QA ql qc (ncl qf)]) (fun g ⟨L,qf,ql,h,QA,qc,by_⟩=>Bfs N (rmE E r) (P*(T+1)) L qf ql h 0∧Rch N E r (P*(T+1)) L by_∧h≤ql∧g+h=N.k) (N.k) (fun v=>if v=(P*(T+1)) then 0 else -1,fun _=>(P*(T+1)),1,0,_,_,fun _=>0) ?_ (S.sel [2,3,0,1,4,5,6] G G) (H.keep [6,7,0,4,5] rfl) ?_
 · exact ⟨Bfs.start (by omega) (fun _ _=>rfl) rfl,Rch.start (by omega) (fun _ _=>rfl),by omega,by omega⟩
 clear H S a;intro g1 x1 a w1 hp S H K8 k8;obtain ⟨L,qf,ql,h,QA,qc,by_⟩:=x1;dsimp only at hp S H;obtain ⟨hB,hR,hhq,hgh⟩:=hp;have hql:=hB.le;refine wp_seq_k fun K9 k9=>?_
 refine sS H fun K10 k10=>sr 2 G<|sL aQ rfl<|sr 1 G<|sE ?_;intro a H
 refine k10 _ ?_;refine condL H rfl (fun hc1=>?_) (fun hc1=>?_)
 ·skip
  refine wp_skip ?_;refine k9 _ _ ?_;refine wp_seq_k fun K11 k11=>?_
  refine wp_block ?_;have hqk:qf h<k:=by have:=(hB.mem h (by omega)).1;omega
  replace H:=H.keep [0,4,5,6,7] rfl;replace S:=S.drew;refine sD H fun K12 k12=>sr 2 G<|sf jX rfl<|sl S 3 mY G G G<|sr 2 G<|si aQ aY G G (aIp S (i:=2) rfl (by omega)) (by omega)<|slm aC rfl (aIq S (i:=2) rfl (by omega) (by omega))<|si oI rJ G G (aIp S (i:=5) rfl (by omega)) (by omega)<|slm dQ rfl (aIq S (i:=5) rfl (by omega) (by omega))<|sr 1 G<|sE ?_;intro a H
  refine k12 _ ?_;replace H:=H.keep [0,4,5,6,7,8] rfl;refine sS H fun K13 k13=>sr 1 G<|sE ?_;intro a H
  refine k13 _ ?_;refine wp_block ?_;have hln:=K.len (qf h) (by omega);refine loop_st (X:=(Nat→Int)×(Nat→Nat)×Nat×Nat×Option Addr×Nat×(Nat→Nat)) (R0:=_) [0,4,5,7,8] H rfl (fun ⟨L2,qf2,ql2,J,QA2,qc2,by2⟩=>[(6,.slice QA2 ql2 qc2),(9,.int .i64 (J:Int))]) (fun ⟨L2,qf2,ql2,J,QA2,qc2,by2⟩=>[ownM 4 1 IA k k (w8bcl L2),ownM 3 1 BA k k (ncl by2),ownM 3 1 QA2 ql2 qc2 (ncl qf2)]) (fun g ⟨L2,qf2,ql2,J,QA2,qc2,by2⟩=>Bfs N (rmE E r) (P*(T+1)) L2 qf2 ql2 h J∧Rch N E r (P*(T+1)) L2 by2∧h<ql2∧J≤N.n (qf h)∧g+J=N.n (qf h)∧qf2 h=qf h) (N.n (qf h)) (L,qf,ql,0,_,_,by_) ?_ (S.sel [0,1,2,3,4,5,6] G G) (H.keep [6,9,0,4,5,7,8] rfl) ?_
  · exact ⟨hB,hR,by omega,by omega,by omega,rfl⟩
  clear H S a;intro g2 x2 a w2 hp S H K14 k14;obtain ⟨L2,qf2,ql2,J,QA2,qc2,by2⟩:=x2;dsimp only at hp S H;obtain ⟨hB2,hR2,hhq2,hJn,hgJ,hqe⟩:=hp;have hql2:=hB2.le;refine wp_seq_k fun K15 k15=>?_
  refine sS H fun K16 k16=>sr 2 G<|sL aQ rfl<|sr 1 G<|sE ?_;intro a H
  refine k16 _ ?_;refine condL H rfl (fun hc2=>?_) (fun hc2=>?_)
  ·skip
   dsimp only at hc2;refine wp_skip ?_;refine k15 _ _ ?_;refine wp_seq_k fun K17 k17=>?_
   refine wp_block ?_;have hbt9:(fun i=>(ixs E i).length) (qf h)=N.n (qf h):=hln;have hjn:J<N.n (qf h):=by omega
   have hEl:=K.lt (qf h) (by omega) J hjn
   have het:=K.et (qf h) (by omega) J hjn
   have htk:=W.to_lt (qf h) (by omega) J hjn
   rw [←het] at htk;have hLu:=(hB2.mem h (by omega)).2;rw [hqe] at hLu;have hnl:=aJb S (i:=6) rfl hqk;have hmx:maxLen=9223372036854775807:=rfl;replace H:=H.keep [0,4,5,6,7,8,9] rfl;replace S:=S.drew;refine cQ [(0,true),(1,true),(2,true),(3,true),(4,true),(5,true),(6,true),(7,true),(8,true),(9,true),(10,false),(11,false)] (by kernel_rfl) (by kernel_rfl) (S.sel [0,1,2,3,4,5,6] G G) fun K18 k18=>?_
   refine qF H<|qr 2 G<|qd G (fun _ S=>(aF gD rfl))<|qd G (fun _ S=>aE jS rfl (aIo S (i:=3) G G))<|qr 2 G<|qd G (fun _ S=>aW aQ aY G G (aIy S (i:=6) (p:=qf h) rfl hqk (by omega)) (by omega))<|qd G (fun _ S=>aE aC rfl (aIt S (i:=6) (p:=qf h) rfl hqk (by omega) (by omega)))<|qd G (fun _ S=>aW iU iS G G (aIp S (i:=4) rfl (by omega)) (by omega))<|qd G (fun _ S=>(mV Yk iS rfl S (i:=4) rfl (by omega) (by omega)))<|qK ?_;intro a H
   refine bD rfl ?_
   refine aM H rfl S tH ?_;intro b10 _ a hb10 hbw10 S H
   refine wpList_nil (And.intro (S.sel [1,2,3,4,5,6,7] G G) ?_);refine bD rfl ?_;refine aI H S (i:=0) G G G G iS G G ?_;clear H a S;intro _ a S H;refine wpList_nil (And.intro (S.sel [1,2,3,4,5,6,7] G G) ?_);refine bY ?_;refine k18 _ _ ?_;replace H:=H.keep [0,4,5,6,7,8,9,10] rfl
   refine sS H fun K19 k19=>sf mF rfl<|sl S 0 aC G G G<|sr 2 G<|sg 6 3 65 71 true G G (fun hg4=>by
       have hq4:=hg4;try simp only [oz] at hq4
       exact sy hg4<|sr 1 G<|sy hg4<|sf rS rfl<|sy hg4<|sl S 0 aC G G G<|sy hg4<|si oH tG G G (aIp S (i:=1) rfl (by omega)) (by omega)<|sy hg4<|slm jF rfl (aIq S (i:=1) rfl (by omega) (by omega))<|sy hg4<|sr 1 G<|sz 6 G G G)<|sa G G G<|sE ?_;intro a H
   refine k19 _ ?_;refine aU H rfl (fun hc3=>?_) (fun hc3=>?_)
   ·skip
    try simp only [oz] at hc3
    have hLt:L2 (E.getD ((ixs E (qf h)).getD J 0) Eg.zero).t<0:=by have h9:=hc3.2;unfold bC at h9;simpa using h9
    have hvis:=hB2.visit W hhq2 (by rw [hqe];exact hjn) (by rw [hqe];exact hc3.1) (by rw [hqe,←het];exact hLt)
    rw [hqe,←het] at hvis;have hrv:=hR2.visit (N:=N) (u:=qf h) (j:=J) (by omega) hjn hLu.1 hc3.1 (by rw [←het];exact hLt);rw [←het] at hrv;replace H:=H.keep [0,4,5,6,7,8,9,10] rfl;refine aA fun K20 k20=>?_
    refine ls 4 H<|sr 1 G<|sf rS rfl<|sl S 0 aC G G G<|si oH tG G G (aIp S (i:=1) rfl (by omega)) (by omega)<|sE ?_;intro a H
    refine bB H S (i:=1) G G G (by omega) (by omega) tG rfl ?_
    clear H a S;intro _ a S H;replace S:=S.recell (i:=1) rfl (cell':=w8bcl (upd L2 (E.getD ((ixs E (qf h)).getD J 0) Eg.zero).t (L2 (qf h)+1))) (fun k j _ hj=>aBi (by omega) hj);refine k20 _ _ ?_;replace H:=H.keep [0,4,5,6,7,8,9,10] rfl;refine jW 8 (by kernel_rfl) (by kernel_rfl) fun K21 k21=>?_
    replace S:=S.drew;refine sF H<|sr 1 G<|sf rS rfl<|sl S 0 aC G G G<|sr 2 G<|si aQ aY G G (aIy S (i:=7) (p:=qf h) rfl hqk (by omega)) (by omega)<|slm aC rfl (aIt S (i:=7) (p:=qf h) rfl hqk (by omega) (by omega))<|si aQ aY G G (aIp S (i:=2) rfl (by omega)) (by omega)<|sE ?_;intro a H
    refine bB H S (i:=2) G G G (by omega) (by omega) aY rfl ?_
    clear H a S;intro _ a S H;replace S:=S.recell (i:=2) rfl (cell':=ncl (upd by2 (E.getD ((ixs E (qf h)).getD J 0) Eg.zero).t ((ixs E (qf h)).getD J 0))) (fun k j _ hj=>aEz hj);refine k21 _ _ ?_;replace H:=H.keep [0,4,5,6,7,8,9,10] rfl;refine cN ?_;refine ls 3 H<|sr 1 G<|sf rS rfl<|sl S 0 aC G G G<|sE ?_;intro a H
    refine aK H rfl S aQ aY eF G G G G G G G G G ?_;intro A6 _ a hA6 S H
    refine aT H rfl S aQ aY eF lU G G (i:=4) G G G (aIr S (i:=0) rfl) (gQ (w8one rfl)) (by omega) (by omega) ?_;intro A7 c7 _ a S H
    replace S:=S.recell (i:=4) rfl (cell':=ncl (upd qf2 ql2 (E.getD ((ixs E (qf h)).getD J 0) Eg.zero).t)) (fun k j hk hj=>aBj rfl hk hj);refine ls 1 H<|sr 1 G<|sE ?_;intro a H
    refine k17 _ _ ?_;refine sO H<|sr 1 G<|sd (aH G G (by unfold i64ok;omega))<|sr 1 G<|sE ?_;intro a H
    exact k14 (g2-1) (_,_,_,J+1,_,_,_) a _ (by omega) (by first|exact ⟨hvis,hrv,by omega,by omega,by omega,by rw [bP _ _ (by omega)];exact hqe⟩|exact ⟨hskp,hR2,hhq2,by omega,by omega,hqe⟩) (S.sel [2,3,4,5,6,7,8] G G) (H.keep [6,9,0,4,5,7,8] rfl)
   try simp only [oz] at hc3
   have hskp:=hB2.skip (by rw [hqe];rintro ⟨h8,h9⟩;rw [←het] at h9;rcases hc3 with h7|h7;(have:0<r ((ixs E (qf h)).getD J 0):=h8;omega);(unfold bC at h7;rw [decide_eq_true_eq] at h7;omega))
   refine wp_skip ?_;refine k17 _ _ ?_;replace H:=H.keep [0,4,5,6,7,8,9] rfl;refine sO H<|sr 1 G<|sd (aH G G (by unfold i64ok;omega))<|sr 1 G<|sE ?_;intro a H
   exact k14 (g2-1) (_,_,_,J+1,_,_,_) a _ (by omega) (by first|exact ⟨hvis,hrv,by omega,by omega,by omega,by rw [bP _ _ (by omega)];exact hqe⟩|exact ⟨hskp,hR2,hhq2,by omega,by omega,hqe⟩) (S.sel [1,2,3,4,5,6,7] G G) (H.keep [6,9,0,4,5,7,8] rfl)
  dsimp only at hc2;refine wp_exit ?_;refine k11 _ _ ?_;refine sO H<|sr 1 G<|sd (aH G G (by unfold i64ok;omega))<|sr 1 G<|sE ?_;intro a H
  exact k8 (g1-1) (L2,qf2,ql2,h+1,QA2,qc2,by2) a _ (by omega) (⟨hB2.next (by rw [hqe];omega),hR2,by omega,by omega⟩) (S.sel [0,1,2,3,4,5,6] G G) (H.keep [6,7,0,4,5] rfl)
 refine wp_exit ?_;refine k6 _ _ ?_;replace H:=H.keep [4,5] rfl;refine sS H fun K26 k26=>sr 4 G<|sE ?_;intro a H
 refine k26 _ ?_;refine wp_ret ?_;refine ret2 (fn:=Tryz.f114) rfl H G G ?_;exact ⟨_,_,L,by_,rfl,hB.done (by omega),hR,(S.sel [0,1,3,4,5,6] G G)⟩
end
section
theorem three {p:Nat→Prop} (h0:p 0) (h1:p 1) (h2:p 2):∀ j,j<3→p j:=by
 intro j hj;match j,hj with
 | 0,_=>exact h0
 | 1,_=>exact h1
 | 2,_=>exact h2
theorem sV (pl:Int) (ps:List Psg) (PA:Option Addr) (pc:Nat) (xs:List Int) (XA:Option Addr) (xc:Nat) (pe:List Int) (BA:Option Addr) (bc:Nat) (w:World) (hpe:InS w noF 1 BA pe.length (icl pe)) (hpen:pe.length≤9223372036854775807) :
    Calls Tryz.prog 61 [.agg [.int .i64 pl,.slice PA ps.length pc,.slice XA xs.length xc].toArray,.slice BA pe.length bc].toArray w (Ret (fun v w'=>v = .bool (fQ pl pe)∧St w noF [] w')):=by
 refine enter Tryz.func61 rfl Tryz.ntmps61 rfl (fun a H=>?_)
 have S:=St.start w
 refine aA fun K1 k1=>?_
 refine aO H rfl S G G ?_;intro b2 _ a hb2 hbw2 S H
 refine ls 1 H<|sr 1 G<|sE ?_;intro a H
 refine k1 _ _ ?_;refine wp_seq_k fun K2 k2=>?_
 refine sS H fun K3 k3=>sr 1 G<|sE ?_;intro a H
 refine k3 _ ?_;refine wp_block ?_;refine loop_st (X:=Nat) (R0:=_) [1,2] H rfl (fun k=>[(5,.int .i64 (k:Int))]) (fun k=>[]) (fun g k=>k≤pe.length∧g+k=pe.length∧allN (fun k=>decide (0≤pe.getD k 0∧pe.getD k 0≤1000)) k=true) (pe.length) 0 ?_ (S.sel [0] G G) (H.keep [5,1,2] rfl) ?_
 · exact ⟨by omega,by omega,rfl⟩
 clear H S a;intro g1 x1 a w1 hp S H K4 k4;obtain ⟨k,rfl⟩:∃ y,y=x1:=⟨_,rfl⟩;refine wp_seq_k fun K5 k5=>?_
 refine sS H fun K6 k6=>sr 2 G<|sL aQ rfl<|sr 1 G<|sE ?_;intro a H
 refine k6 _ ?_;refine condL H rfl (fun hc1=>?_) (fun hc1=>?_)
 ·skip
  refine wp_skip ?_;refine k5 _ _ ?_;refine wp_seq_k fun K7 k7=>?_
  refine wp_block ?_;replace H:=H.keep [1,2,5] rfl;refine sS H fun K8 k8=>sr 2 G<|si aQ aY G G (hpe.adr (by omega)) (by omega)<|slm aC rfl (hpe.rd S (by omega) (by omega))<|sc rfl Tryz.func55 G G (cZ _ _ _ _)<|sr 1 G<|sE ?_;intro a H
  refine k8 _ ?_;refine aU H rfl (fun hc2=>?_) (fun hc2=>?_)
  ·skip
   try simp only [oz] at hc2
   refine sS H fun K9 k9=>sr 1 G<|sE ?_;intro a H
   refine k9 _ ?_;refine wp_ret ?_;refine ret1 (fn:=Tryz.f61) rfl H rfl ?_;refine ⟨congrArg Value.bool ?_,(S.sel [] G G)⟩;unfold fQ;rw [iG (k:=k) (by omega) (by rw [decide_eq_false_iff_not];omega)];rfl
  try simp only [oz] at hc2
  refine wp_skip ?_;refine k7 _ _ ?_;replace H:=H.keep [1,2,5] rfl;refine sO H<|sr 1 G<|sd (aH G G (by unfold i64ok;omega))<|sr 1 G<|sE ?_;intro a H
  exact k4 (g1-1) (k+1) a _ (by omega) (⟨by omega,by omega,dD hp.2.2 (by rw [decide_eq_true_eq];omega)⟩) (S.sel [0] G G) (H.keep [5,1,2] rfl)
 refine wp_exit ?_;refine k2 _ _ ?_;refine sS H fun K11 k11=>sr 1 G<|sL aQ rfl<|sf dP rfl<|sl S 0 aC G G G<|sr 2 G<|sE ?_;intro a H
 refine k11 _ ?_;refine wp_ret ?_;refine ret1 (fn:=Tryz.f61) rfl H rfl ?_;refine ⟨congrArg Value.bool ?_,(S.sel [] G G)⟩;unfold fQ;rw [show pe.length=k by omega,hp.2.2,Bool.true_and]
theorem Cl (pl:Int) (ps:List Psg) (PA:Option Addr) (pc:Nat) (xs:List Int) (XA:Option Addr) (xc:Nat) (day:List Hq) (HA:Option Addr) (hcp:Nat) (DA:Nat→Option Addr) (dc:Nat→Nat) (w:World) (hps:InS w noF 7 PA ps.length (pcell ps)) (hpn:ps.length≤9223372036854775807) (hxs:InS w noF 1 XA xs.length (icl xs)) (hxn:xs.length≤9223372036854775807) (hday:InS w noF 3 HA day.length (hcl day DA dc)) (hdn:day.length≤9223372036854775807) (hdp:∀ k,k<day.length→InS w noF 1 (DA k) (day.getD k aJq).pe.length (icl (day.getD k aJq).pe)) (hdl:∀ k,k<day.length→(day.getD k aJq).pe.length≤9223372036854775807) :
    Calls Tryz.prog 57 [.agg [.int .i64 pl,.slice PA ps.length pc,.slice XA xs.length xc].toArray,.slice HA day.length hcp].toArray w (Ret (fun v w'=>v = .int .i64 (dayE pl ps xs day)∧St w noF [] w')):=by
 refine enter Tryz.func57 rfl Tryz.ntmps57 rfl (fun a H=>?_)
 have S:=St.start w
 refine aA fun K1 k1=>?_
 refine aO H rfl S G G ?_;intro b2 _ a hb2 hbw2 S H
 refine ls 1 H<|sr 1 G<|sE ?_;intro a H
 refine k1 _ _ ?_;refine aA fun K2 k2=>?_
 refine ls 1 H<|sd ((aD cE cV rfl S (i:=0) G G))<|sE ?_;intro a H
 refine aB H G G Tryz.func41 G G (lO pl ps PA pc xs XA xc _ (hps.now S) hpn (hxs.now S) hxn) ?_;clear H a
 rintro _ _ a ⟨rfl,S2⟩ H;replace S:=S.call S2;clear S2;refine ls 1 H<|sr 1 G<|sE ?_;intro a H
 refine k2 _ _ ?_;refine wp_seq_k fun K3 k3=>?_
 refine sS H fun K4 k4=>sr 2 G<|sE ?_;intro a H
 refine k4 _ ?_;refine condN H rfl (fun hc1=>?_) (fun hc1=>?_)
 ·skip
  refine sS H fun K5 k5=>sr 2 G<|sE ?_;intro a H
  refine k5 _ ?_;refine wp_ret ?_;refine ret1 (fn:=Tryz.f57) rfl H rfl ?_;refine ⟨congrArg (Value.int .i64) ?_,(S.sel [] G G)⟩;unfold dayE;rw [if_pos hc1]
 have hst:stE pl ps xs=0:=by omega
 refine wp_skip ?_;refine k3 _ _ ?_;refine wp_seq_k fun K6 k6=>?_
 replace H:=H.keep [1,2] rfl;refine sS H fun K7 k7=>sr 1 G<|sL lT rfl<|sr 1 G<|sE ?_;intro a H
 refine k7 _ ?_;refine condL H rfl (fun hc2=>?_) (fun hc2=>?_)
 ·skip
  refine sS H fun K8 k8=>sr 1 G<|sE ?_;intro a H
  refine k8 _ ?_;refine wp_ret ?_;refine ret1 (fn:=Tryz.f57) rfl H rfl ?_;refine ⟨congrArg (Value.int .i64) ?_,(S.sel [] G G)⟩;unfold dayE;rw [if_neg (by omega),if_neg];unfold dayOk;rw [decide_eq_false (p:=day.length≤48) (by omega),Bool.and_false];simp
 refine wp_skip ?_;refine k6 _ _ ?_;refine wp_seq_k fun K9 k9=>?_
 refine sS H fun K10 k10=>sr 1 G<|sE ?_;intro a H
 refine k10 _ ?_;refine wp_block ?_;refine loop_st (X:=Nat) (R0:=_) [1,2] H rfl (fun k=>[(6,.int .i64 (k:Int))]) (fun k=>[]) (fun g k=>k≤day.length∧g+k=day.length∧allN (fun k=>hqOk pl (day.getD k aJq)) k=true) (day.length) 0 ?_ (S.sel [0] G G) (H.keep [6,1,2] rfl) ?_
 · exact ⟨by omega,by omega,rfl⟩
 clear H S a;intro g1 x1 a w1 hp S H K11 k11;obtain ⟨k,rfl⟩:∃ y,y=x1:=⟨_,rfl⟩;refine wp_seq_k fun K12 k12=>?_
 refine sS H fun K13 k13=>sr 2 G<|sL lT rfl<|sr 1 G<|sE ?_;intro a H
 refine k13 _ ?_;refine condL H rfl (fun hc3=>?_) (fun hc3=>?_)
 ·skip
  refine wp_skip ?_;refine k12 _ _ ?_;refine wp_seq_k fun K14 k14=>?_
  refine wp_block ?_;by_cases hB:0≤(day.getD k aJq).out∧(day.getD k aJq).out≤4095
  ·skip
   replace H:=H.keep [1,2,6] rfl;replace S:=S.drew;refine cQ [(0,true),(1,true),(2,true),(3,true),(4,true),(5,false),(6,true),(7,true),(8,true),(9,true),(10,true),(11,true),(12,true),(13,true),(14,false),(15,true),(16,true)] (by kernel_rfl) (by kernel_rfl) (S.sel [0] G G) fun K15 k15=>?_
   refine qF H<|qr 2 G<|qd G (fun _ S=>aW lT mX G G (hday.adr (by omega)) (by omega))<|qd G (fun _ S=>(bV rQ rfl))<|qd G (fun _ S=>aE aC rfl (hday.rd S (by omega) (by omega)))<|qK ?_;intro a H
   refine bD rfl ?_
   refine aB H G G Tryz.func60 G G (vQ _ _) ?_;clear H a
   rintro _ _ a ⟨rfl,rfl⟩ H;rw [decide_eq_true hB.1,decide_eq_true hB.2,Bool.and_self] at H;refine wpList_nil (And.intro (S.sel [0] rfl rfl) ?_);refine qF H<|qr 2 G<|qK ?_;intro a H
   refine aL H G G G G (fun _ S=>(aD cE cV rfl S (i:=0) G G)) ?_;intro a H
   refine aL H G G G G (fun _ S=>aJ rfl) ?_;intro a H
   refine aL H G G G G (fun _ S=>aJ rfl) ?_;intro a H
   refine aL H G G G G (fun _ S=>aW lT mX G G (hday.adr (by omega)) (by omega)) ?_;intro a H
   refine aL H G G G G (fun _ S=>(bV Dg rfl)) ?_;intro a H
   refine aL H G G G G (fun _ S=>aE dQ rfl (hday.rd S (by omega) (by omega))) ?_;intro a H
   refine bD rfl ?_
   refine cD H G G ?_
   refine aB H G G Tryz.func61 G G (sV pl ps PA pc xs XA xc (day.getD k aJq).pe (DA k) (dc k) _ ((hdp k (by omega)).now S) (hdl k (by omega))) ?_;clear H a
   rintro _ _ a ⟨rfl,S2⟩ H;replace S:=S.call S2;clear S2;refine wpList_nil (And.intro (S.sel [0] rfl rfl) ?_);refine aL H rfl rfl rfl rfl (fun _ S=>kO rfl) ?_;intro a H;refine qF H<|qd G (fun _ S=>(dU rfl rfl rfl))<|qK ?_;intro a H
   refine bY ?_
   refine k15 _ _ ?_;refine aU H rfl (fun hc4=>?_) (fun hc4=>?_)
   ·skip
    try simp only [oz] at hc4
    replace H:=H.keep [] rfl;refine sS H fun K16 k16=>sr 1 G<|sE ?_;intro a H
    refine k16 _ ?_;refine wp_ret ?_;refine ret1 (fn:=Tryz.f57) rfl H rfl ?_;refine ⟨congrArg (Value.int .i64) ?_,(S.sel [] G G)⟩;unfold dayE;rw [if_neg (by omega),xI (k:=k) (by omega) (by unfold hqOk;rw [hc4.resolve_left (by simp),Bool.and_false])];rfl
   try simp only [oz] at hc4
   refine wp_skip ?_;refine k14 _ _ ?_;refine sO H<|sr 1 G<|sd (aH G G (by unfold i64ok;omega))<|sr 1 G<|sE ?_;intro a H
   exact k11 (g1-1) (k+1) a _ (by omega) (⟨by omega,by omega,dD hp.2.2 (by unfold hqOk;rw [decide_eq_true hB,hc4.2];rfl)⟩) (S.sel [0] G G) (H.keep [6,1,2] rfl)
  replace H:=H.keep [1,2,6] rfl;replace S:=S.drew;refine cQ [(0,true),(1,true),(2,true),(3,true),(4,true),(5,false),(6,true),(7,true),(8,true),(9,true),(10,true),(11,true),(12,true),(13,true),(14,true),(15,true),(16,true)] (by kernel_rfl) (by kernel_rfl) (S.sel [0] G G) fun K18 k18=>?_
  refine qF H<|qr 2 G<|qd G (fun _ S=>aW lT mX G G (hday.adr (by omega)) (by omega))<|qd G (fun _ S=>(bV rQ rfl))<|qd G (fun _ S=>aE aC rfl (hday.rd S (by omega) (by omega)))<|qK ?_;intro a H
  refine bD rfl ?_
  refine aB H G G Tryz.func60 G G (vQ _ _) ?_;clear H a
  rintro _ _ a ⟨rfl,rfl⟩ H;rw [Bool.and_eq_false_iff.2 (by simp only [decide_eq_false_iff_not];omega)] at H;refine wpList_nil (And.intro (S.sel [0] rfl rfl) ?_);refine qF H<|qr 2 G<|qK ?_;intro a H
  refine aP H G G G G G ?_;intro a H
  refine aP H G G G G G ?_;intro a H
  refine aP H G G G G G ?_;intro a H
  refine aP H G G G G G ?_;intro a H
  refine aP H G G G G G ?_;intro a H
  refine aP H G G G G G ?_;intro a H
  refine aP H G G G G G ?_;intro a H
  refine aP H G G G G G ?_;intro a H
  refine qF H<|qd G (fun _ S=>(bH G G G))<|qK ?_;intro a H
  refine bY ?_
  refine k18 _ _ ?_;refine aU H rfl (fun hc5=>?_) (fun hc5=>?_)
  ·skip
   skip
   replace H:=H.keep [] rfl;refine sS H fun K19 k19=>sr 1 G<|sE ?_;intro a H
   refine k19 _ ?_;refine wp_ret ?_;refine ret1 (fn:=Tryz.f57) rfl H rfl ?_;refine ⟨congrArg (Value.int .i64) ?_,(S.sel [] G G)⟩;unfold dayE;rw [if_neg (by omega),xI (k:=k) (by omega) (by unfold hqOk;rw [decide_eq_false hB];rfl)];rfl
  skip
  cases hc5
 refine wp_exit ?_;refine k9 _ _ ?_;refine sS H fun K20 k20=>sr 1 G<|sE ?_;intro a H
 refine k20 _ ?_;refine wp_ret ?_;refine ret1 (fn:=Tryz.f57) rfl H rfl ?_;obtain rfl:k=day.length:=by omega
 exact ⟨congrArg (Value.int .i64) (zR hst (by rw [Dx hp.2.2];exact decide_eq_true (by omega))).symm,(S.sel [] G G)⟩
theorem sW (pl:Int) (ps:List Psg) (PA:Option Addr) (pc:Nat) (xs:List Int) (XA:Option Addr) (xc:Nat) (day:List Hq) (HA:Option Addr) (hcp:Nat) (DA:Nat→Option Addr) (dc:Nat→Nat) (l:List Prm) (LA:Option Addr) (lc:Nat) (w:World) (hps:InS w noF 7 PA ps.length (pcell ps)) (hpn:ps.length≤9223372036854775807) (hxs:InS w noF 1 XA xs.length (icl xs)) (hxn:xs.length≤9223372036854775807) (hday:InS w noF 3 HA day.length (hcl day DA dc)) (hdn:day.length≤9223372036854775807) (hdp:∀ k,k<day.length→InS w noF 1 (DA k) (day.getD k aJq).pe.length (icl (day.getD k aJq).pe)) (hdl:∀ k,k<day.length→(day.getD k aJq).pe.length≤9223372036854775807) (hl:InS w noF 5 LA l.length (dM l)) (hln:l.length≤9223372036854775807) :
    Calls Tryz.prog 42 [.agg [.int .i64 pl,.slice PA ps.length pc,.slice XA xs.length xc].toArray,.slice HA day.length hcp,.slice LA l.length lc].toArray w (Ret (fun v w'=>v = .int .i64 (keptE pl ps xs day l)∧St w noF [] w')):=by
 refine enter Tryz.func42 rfl Tryz.ntmps42 rfl (fun a H=>?_)
 have S:=St.start w
 refine aA fun K1 k1=>?_
 refine aO H rfl S G G ?_;intro b3 _ a hb3 hbw3 S H
 refine ls 1 H<|sr 1 G<|sE ?_;intro a H
 refine k1 _ _ ?_;refine aA fun K2 k2=>?_
 refine ls 2 H<|sd ((aD cE cV rfl S (i:=0) G G))<|sr 1 G<|sE ?_;intro a H
 refine aB H G G Tryz.func57 G G (Cl pl ps PA pc xs XA xc day HA hcp DA dc _ (hps.now S) hpn (hxs.now S) hxn (hday.now S) hdn (fun k hk=>(hdp k hk).now S) hdl) ?_;clear H a
 rintro _ _ a ⟨rfl,S2⟩ H;replace S:=S.call S2;clear S2;refine ls 1 H<|sr 1 G<|sE ?_;intro a H
 refine k2 _ _ ?_;refine wp_seq_k fun K3 k3=>?_
 refine sS H fun K4 k4=>sr 2 G<|sE ?_;intro a H
 refine k4 _ ?_;refine condN H rfl (fun hc1=>?_) (fun hc1=>?_)
 ·skip
  replace H:=H.keep [7] rfl;refine sS H fun K5 k5=>sr 2 G<|sE ?_;intro a H
  refine k5 _ ?_;refine wp_ret ?_;refine ret1 (fn:=Tryz.f42) rfl H rfl ?_;refine ⟨congrArg (Value.int .i64) ?_,(S.sel [] G G)⟩;unfold keptE;rw [if_pos hc1]
 have hdE:dayE pl ps xs day=0:=by omega
 have hV:=gR (rW hdE).1
 have hP10:=hV.size
 refine wp_skip ?_;refine k3 _ _ ?_;refine wp_seq_k fun K6 k6=>?_
 refine sS H fun K7 k7=>sr 1 G<|sL eX rfl<|sr 1 G<|sE ?_;intro a H
 refine k7 _ ?_;refine condL H rfl (fun hc2=>?_) (fun hc2=>?_)
 ·skip
  refine sS H fun K8 k8=>sr 1 G<|sE ?_;intro a H
  refine k8 _ ?_;refine wp_ret ?_;refine ret1 (fn:=Tryz.f42) rfl H rfl ?_;exact ⟨congrArg (Value.int .i64) (pL hdE (Dy (by omega))).symm,(S.sel [] G G)⟩
 refine wp_skip ?_;refine k6 _ _ ?_;refine wp_seq_k fun K9 k9=>?_
 refine sS H fun K10 k10=>sr 1 G<|sE ?_;intro a H
 refine k10 _ ?_;refine wp_block ?_;refine loop_st (X:=Nat) (R0:=_) [2,3] H rfl (fun k=>[(8,.int .i64 (k:Int))]) (fun k=>[]) (fun g k=>k≤l.length∧g+k=l.length∧allN (fun k=>prmOk pl (l.getD k aJn)) k=true) (l.length) 0 ?_ (S.sel [0] G G) (H.keep [8,2,3] rfl) ?_
 · exact ⟨by omega,by omega,rfl⟩
 clear H S a;intro g1 x1 a w1 hp S H K11 k11;obtain ⟨k,rfl⟩:∃ y,y=x1:=⟨_,rfl⟩;refine wp_seq_k fun K12 k12=>?_
 refine sS H fun K13 k13=>sr 2 G<|sL eX rfl<|sr 1 G<|sE ?_;intro a H
 refine k13 _ ?_;refine condL H rfl (fun hc3=>?_) (fun hc3=>?_)
 ·skip
  refine wp_skip ?_;refine k12 _ _ ?_;refine wp_seq_k fun K14 k14=>?_
  refine wp_block ?_;replace H:=H.keep [2,3,8] rfl;refine aA fun K15 k15=>?_
  refine ls 4 H<|sr 2 G<|si eX eP G G (hl.adr (by omega)) (by omega)<|sd ((aV wK eP rfl S hl (by omega) (by omega)))<|sE ?_;intro a H
  refine aM H rfl S gP ?_;intro b9 _ a hb9 hbw9 S H
  refine aI H S (i:=0) G G G G eP G G ?_
  clear H a S;intro _ a S H;refine k15 _ _ ?_;replace H:=H.keep [2,3,8,9] rfl
  refine sS H fun K16 k16=>sf nD rfl<|sl S 0 aC G G G<|sf dP rfl<|sl S 1 aC G G G<|sd (aS G G (by unfold i64ok;omega))<|sc rfl Tryz.func55 G G (cZ _ _ _ _)<|sr 2 G<|sg 7 7 36 43 false G G (fun hg8=>by
      have hq8:=hg8;try simp only [oz] at hq8
      exact sy hg8<|sf nE rfl<|sy hg8<|sl S 0 aC G G G<|sy hg8<|sf dP rfl<|sy hg8<|sl S 1 aC G G G<|sy hg8<|sd (aS G G (by unfold i64ok;omega))<|sy hg8<|sc rfl Tryz.func55 G G (cZ _ _ _ _)<|sy hg8<|sr 1 G<|sz 7 G G G)<|so G G G<|sr 1 G<|sg 6 16 45 51 false G G (fun hg17=>by
      have hq17:=hg17;try simp only [oz] at hq17
      exact sy hg17<|sf nF rfl<|sy hg17<|sl S 0 aC G G G<|sy hg17<|sf lK rfl<|sy hg17<|sl S 0 aC G G G<|sy hg17<|sc rfl Tryz.func55 G G (cZ _ _ _ _)<|sy hg17<|sr 1 G<|sz 6 G G G)<|so G G G<|sr 1 G<|sg 3 24 53 56 false G G (fun hg25=>by
      have hq25:=hg25;try simp only [oz] at hq25
      exact sy hg25<|sf lK rfl<|sy hg25<|sl S 0 aC G G G<|sy hg25<|sr 1 G<|sz 3 G G G)<|so G G G<|sE ?_;intro a H
  refine k16 _ ?_;refine aU H rfl (fun hc4=>?_) (fun hc4=>?_)
  ·skip
   try simp only [oz] at hc4
   replace H:=H.keep [] rfl;refine sS H fun K17 k17=>sr 1 G<|sE ?_;intro a H
   refine k17 _ ?_;refine wp_ret ?_;refine ret1 (fn:=Tryz.f42) rfl H rfl ?_;exact ⟨congrArg (Value.int .i64) (pL hdE (Kf (k:=k) (by omega) (Sv (by omega)))).symm,(S.sel [] G G)⟩
  try simp only [oz] at hc4
  refine wp_skip ?_;refine k14 _ _ ?_;refine sO H<|sr 1 G<|sd (aH G G (by unfold i64ok;omega))<|sr 1 G<|sE ?_;intro a H
  exact k11 (g1-1) (k+1) a _ (by omega) (⟨by omega,by omega,dD hp.2.2 (pK.2 (by omega))⟩) (S.sel [1] G G) (H.keep [8,2,3] rfl)
 refine wp_exit ?_;refine k9 _ _ ?_;refine sS H fun K19 k19=>sr 1 G<|sE ?_;intro a H
 refine k19 _ ?_;refine wp_ret ?_;refine ret1 (fn:=Tryz.f42) rfl H rfl ?_;obtain rfl:k=l.length:=by omega
 exact ⟨congrArg (Value.int .i64) (xL hdE (Kg hp.2.2 (by omega))).symm,(S.sel [] G G)⟩
end
end Go.Proofs.YtopmadlgolnmfaaGreat
