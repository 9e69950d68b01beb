/- Part 3 of the proof. -/
import Derived.Test.YtoekeohiokcefaaQgb
namespace Go.Proofs.Ytoekeohiokcefaa
open Go.RowKit
set_option linter.unusedVariables false
set_option linter.unusedSimpArgs false
set_option maxRecDepth 100000
set_option maxHeartbeats 4000000
section
theorem Gi {w:World} {p:Part} {l:List Use} {v:Value} {w':World} (h:WearR w p l v w'):∃ A n c,v = .tuple #[.slice A n c,.int .i64 (wearE p l)]∧St w noF [] w':=by
  rcases h with ⟨h0,A,c,rfl,S⟩|⟨_,rfl,S⟩
  · exact ⟨A,_,c,by rw [h0],S.sel [] rfl rfl⟩
  · exact ⟨none,0,0,rfl,S⟩
theorem lU {l:List Use} {k:Nat} (h:k+1=l.length):(l.getD k Use.zero).day=prevD l l.length:=by rw [←h];rfl
theorem qU {p:Part} {l:List Use} (h:wearE p l=0):0≤prevD l l.length∧p.rates.length≤4:=by
  have h1:=gD (gE h).1
  have h2:=h1.hdr
  unfold fN at h2
  simp only [decide_eq_true_eq] at h2
  exact ⟨nB h1.uses,h2.2.1⟩
theorem wP {P:Int} {ps:List Psg} {xs:List Int} (V:StV P ps xs) {n:Nat} (hn:n<ps.length):(∀ j,j<n→0≤(ps.getD n Psg.zero).mach→(ps.getD j Psg.zero).mach≠(ps.getD n Psg.zero).mach)∧∀ j,j<n→(ps.getD n Psg.zero).mach<0→(ps.getD j Psg.zero).mach=(ps.getD n Psg.zero).mach→(ps.getD j Psg.zero).mach<0:=
  ⟨fun j hj h0=>V.mach n hn h0 j hj,fun j _ h0 e=>by omega⟩
theorem Js {pl:Int} {ps:List Psg} {xs:List Int} {day:List Hq} {l:List Prm} (h:keptE pl ps xs day l=0):StV pl ps xs:=mW (tS (vO h).1).1
theorem Jt {pl:Int} {ps:List Psg} {xs:List Int} {day:List Hq} {l:List Prm}:(keptV pl ps xs day l).2.2.2=keptE pl ps xs day l:=by
  unfold keptV
  split
  · rfl
  · split
    · dsimp only;omega
    · dsimp only;omega
theorem nG {days:Int} {s:Spr}:sprB days s=true↔((0≤s.day∧s.day≤days-1)∧(0≤s.kind∧s.kind≤3)∧(1≤s.many∧s.many≤8)):=by unfold sprB;rw [decide_eq_true_eq]
theorem Gj {pe:List Int} {k:Nat} (h:∀ q,q<k→0≤pe.getD q 0∧pe.getD q 0≤1000) (hk:0≤pe.getD k 0∧pe.getD k 0≤1000):∀ q,q<k+1→0≤pe.getD q 0∧pe.getD q 0≤1000:=fun q hq=>by
  by_cases e:q=k
  · subst e;exact hk
  · exact h q (by omega)
theorem fQ {f:Nat→Bool} {k:Nat} (h:∀ q,q<k→f q=true) (hk:f k=true):∀ q,q<k+1→f q=true:=fun q hq=>by
  by_cases e:q=k
  · subst e;exact hk
  · exact h q (by omega)
theorem bH (n lo hi:Int) (w:World) :
    Calls Try.prog 54 [.int .i64 n,.int .i64 lo,.int .i64 hi].toArray w (Ret (fun v w'=>v = .bool (decide (lo≤n)&&decide (n≤hi))∧w'=w)):=by
 refine enter Try.func54 rfl Try.ntmps54 rfl (fun a H=>?_)
 have S:=St.start w
 refine sS H fun K1 k1=>sr 1 rfl<|sE ?_;clear H a;intro a H
 refine k1 _ ?_;clear k1 K1
 replace H:=H.keep [0,1,2] rfl
 refine sS H fun K2 k2=>sr 4 rfl<|sg 3 3 10 13 true G G (fun hg4=>sy hg4<|sr 1 rfl<|sy hg4<|sr 1 rfl<|sy hg4<|sr 1 rfl<|sz 3 G G G)<|sa G G G<|sr 1 rfl<|sE ?_;clear H a;intro a H
 refine k2 _ ?_;clear k2 K2
 refine wp_ret ?_
 refine ret1 (fn:=Try.f54) rfl H rfl ?_
 exact ⟨rfl,rfl⟩
theorem Ju (u:Unt) (ps:List Psg) (us:List Unt) (i mb:Nat) (w:World) (F:Nat→Prop) (S:St w F [mapK (fun n:Int=>Value.int .i64 n) mb (macP ps us ps.length i)] w) (hur:InS w F 2 u.RA u.rates.length (scell u.rates)) (hurn:u.rates.length≤9223372036854775807) (huu:InS w F 6 u.UA u.uses.length (ucell u.uses)) (huun:u.uses.length≤9223372036854775807) :
    Calls Try.prog 108 [.agg [.int .i64 u.mach,.int .i64 u.every,.int .i64 u.seen,.slice u.RA u.rates.length u.rc,.int .i64 u.worn,.int .i64 u.turns,.int .i64 u.age,.slice u.UA u.uses.length u.uc,.int .i64 u.old,.int .i64 u.tn,.int .i64 u.cl,.int .i64 u.kind].toArray,.map (some mb)].toArray w (Ret (fun v w'=>v = .bool (untU ps us i u)∧St w F [mapK (fun n:Int=>Value.int .i64 n) mb (macP ps us ps.length i)] w')):=by
 refine enter Try.func108 rfl Try.ntmps108 rfl (fun a H=>?_)
 skip
 refine seq_list fun K1 k1=>?_
 refine aQ H rfl S G G ?_;clear H a S;intro b2 _ a hb2 hbw2 S H
 refine ls 1 H<|sr 1 rfl<|sE ?_;clear H a;intro a H
 refine k1 _ _ ?_;clear k1 K1
 refine wp_seq_k fun K2 k2=>?_
 replace H:=H.keep [1,2] rfl
 refine sS H fun K3 k3=>sr 1 rfl<|sf mO rfl<|sl S 0 aE G G G<|sd ((uA S (i:=1) rfl xS (hZ rfl) G G G (fun h hh=>hh u.mach):Does _ _ _ _ (.bool (freeM ps us i u.mach))))<|sr 2 rfl<|sg 4 5 14 18 false G G (fun hg6=>sy hg6<|sf mP rfl<|sy hg6<|sl S 0 aE G G G<|sy hg6<|sc rfl Try.func54 G G (bH _ _ _ _)<|sy hg6<|sr 1 rfl<|sz 4 G G G)<|so G G G<|sr 1 rfl<|sg 4 11 20 24 false G G (fun hg12=>sy hg12<|sf oS rfl<|sy hg12<|sl S 0 aE G G G<|sy hg12<|sc rfl Try.func54 G G (bH _ _ _ _)<|sy hg12<|sr 1 rfl<|sz 4 G G G)<|so G G G<|sr 1 rfl<|sg 4 17 26 30 false G G (fun hg18=>sy hg18<|sf zH rfl<|sy hg18<|sl S 0 aE G G G<|sy hg18<|sc rfl Try.func54 G G (bH _ _ _ _)<|sy hg18<|sr 1 rfl<|sz 4 G G G)<|so G G G<|sE ?_;clear H a;intro a H
 refine k3 _ ?_;clear k3 K3
 refine cond_ H rfl (fun hc1=>?_) (fun hc1=>?_)
 ·skip
  try simp only [o1,o2,o3,o4,o5,o6,o7,o8,o9,oa] at hc1
  replace H:=H.keep [] rfl
  refine sS H fun K4 k4=>sr 1 rfl<|sE ?_;clear H a;intro a H
  refine k4 _ ?_;clear k4 K4
  refine wp_ret ?_
  refine ret1 (fn:=Try.f108) rfl H rfl ?_
  rw [wE (ps:=ps) (us:=us) (i:=i) (u:=u) (fun h=>by have h1:=h.free;have h2:=h.i;unfold untI at h2;rw [h1] at hc1;simp only [Bool.true_eq_false,Bool.not_true,Bool.false_eq_true,not_true_eq_false,false_or] at hc1;omega)];exact ⟨rfl,(S.sel [1] G G)⟩
 try simp only [o1,o2,o3,o4,o5,o6,o7,o8,o9,oa] at hc1
 refine wp_skip ?_
 refine k2 _ _ ?_
 refine wp_seq_k fun K5 k5=>?_
 replace H:=H.keep [2] rfl
 refine seq_list fun K6 k6=>?_
 refine ls 4 H<|sf jP rfl<|sd ((aB cU dR rfl S (i:=0) G G))<|sf eU rfl<|sl S 0 gT G G G<|sE ?_;clear H a;intro a H
 refine aA H G G Try.func122 G G (eG (lR u.rates u.worn u.turns u.age u.RA u.rc u.uses u.UA u.uc _ (hur.now S) hurn (huu.now S) huun) (fun _ _ h=>Gi h)) ?_;clear H a
 rintro _ _ a ⟨WA,wn,wc,rfl,S2⟩ H
 replace S:=S.call S2;clear S2
 refine ls 5 H<|sr 5 rfl<|sE ?_;clear H a;intro a H
 refine k6 _ _ ?_;clear k6 K6
 replace H:=H.keep [2,6] rfl
 refine sS H fun K7 k7=>sr 3 rfl<|sg 4 2 42 46 false G G (fun hg3=>sy hg3<|sf eU rfl<|sy hg3<|sl S 0 gT G G G<|sy hg3<|sL cG rfl<|sy hg3<|sr 1 rfl<|sz 4 G G G)<|so G G G<|sE ?_;clear H a;intro a H
 refine k7 _ ?_;clear k7 K7
 refine cond_ H rfl (fun hc2=>?_) (fun hc2=>?_)
 ·skip
  try simp only [o1,o2,o3,o4,o5,o6,o7,o8,o9,oa] at hc2
  refine sS H fun K8 k8=>sr 1 rfl<|sE ?_;clear H a;intro a H
  refine k8 _ ?_;clear k8 K8
  refine wp_ret ?_
  refine ret1 (fn:=Try.f108) rfl H rfl ?_
  rw [wE (ps:=ps) (us:=us) (i:=i) (u:=u) (fun h=>by have h1:=h.wear;have h2:=h.i;unfold untI at h2;rcases hc2 with h9|h9;exact h9 h1;omega)];exact ⟨rfl,(S.sel [1] rfl rfl)⟩
 try simp only [o1,o2,o3,o4,o5,o6,o7,o8,o9,oa] at hc2
 have hwe:wearE u.part u.uses=0:=by have h9:=hc2;show wearE ⟨u.rates,u.worn,u.turns,u.age⟩ u.uses=0;omega
 have hpv:=qU hwe
 refine wp_skip ?_
 refine k5 _ _ ?_
 replace H:=H.keep [2] rfl
 refine sS H fun K9 k9=>sr 1 rfl<|sE ?_;clear H a;intro a H
 refine k9 _ ?_;clear k9 K9
 have SR:=(S.sel [0,1] G G)
 refine meet_sr (X:=Int) [2] H rfl (fun x=>[(7,.int .i64 x)]) (fun x=>[]) (fun x=>x=prevD u.uses u.uses.length) SR (fun K11 k11=>?_) ?_
 ·skip
  refine sS H fun K12 k12=>sf eU rfl<|sl S 0 gT G G G<|sL cG rfl<|sr 1 rfl<|sE ?_;clear H a;intro a H
  refine k12 _ ?_;clear k12 K12
  refine sS H fun K13 k13=>sr 2 rfl<|sE ?_;clear H a;intro a H
  refine k13 _ ?_;clear k13 K13
  refine condL H rfl (fun hc3=>?_) (fun hc3=>?_)
  ·skip
   replace H:=H.keep [2,8] rfl
   refine sO H<|sf eU rfl<|sl S 0 gT G G G<|sr 1 rfl<|sd (aR G G (by unfold i64ok;omega))<|sI cG cW G G (huu.adr (by omega)) (by omega) (by omega)<|sp gJ rfl<|slm aE rfl (huu.rd S (by omega) (by omega))<|sr 1 rfl<|sE ?_;clear H a;intro a H
   exact k11 _ a _ (lU (k:=((u.uses.length:Int)-1).toNat) (by omega)) (S.sel [0,1] G G) (H.keep [7,2] rfl)
  refine wp_skip ?_
  exact k11 _ a _ (by rw [show u.uses.length=0 by omega];rfl) (S.sel [0,1] G G) (H.keep [7,2] rfl)
 clear SR H S a
 intro xm a wm hp S H
 obtain ⟨x,rfl⟩:∃ y,y=xm:=⟨_,rfl⟩
 replace H:=H.keep [2,7] rfl
 refine sS H fun K15 k15=>sf mQ rfl<|sl S 0 aE G G G<|sr 1 rfl<|sc rfl Try.func54 G G (bH _ _ _ _)<|sr 1 rfl<|sg 3 4 64 67 true G G (fun hg5=>sy hg5<|sf kT rfl<|sy hg5<|sl S 0 aE G G G<|sy hg5<|sc rfl Try.func54 G G (bH _ _ _ _)<|sz 3 G G G)<|sa G G G<|sr 1 rfl<|sg 8 9 69 77 true G G (fun hg10=>sy hg10<|sf mR rfl<|sy hg10<|sl S 0 aE G G G<|sy hg10<|sf jP rfl<|sy hg10<|sf dG rfl<|sy hg10<|sl S 0 eL G G G<|sy hg10<|sL cB rfl<|sy hg10<|sd (aR G G (by unfold i64ok;omega))<|sy hg10<|sc rfl Try.func54 G G (bH _ _ _ _)<|sz 8 G G G)<|sa G G G<|sr 1 rfl<|sE ?_;clear H a;intro a H
 refine k15 _ ?_;clear k15 K15
 refine wp_ret ?_
 refine ret1 (fn:=Try.f108) rfl H rfl ?_
 refine ⟨congrArg Value.bool ?_,(S.sel [1] G G)⟩
 rw [Bool.eq_iff_iff,qQ]
 simp only [Bool.and_eq_true,decide_eq_true_eq]
 constructor
 · intro h9
   refine ⟨?_,?_,hwe⟩
   · rcases hc1 with ⟨⟨⟨h1,_⟩,_⟩,_⟩;exact h1
   · unfold untI;omega
 · intro h9
   have h2:=h9.i
   unfold untI at h2
   omega
theorem Jv (y:Yr) (w:World) (hy:YIn w noF y) (hyb:YBd y) :
    Calls Try.prog 85 [.agg [.int .i64 y.days,.int .i64 y.pl,.slice y.PA y.ps.length y.pc,.slice y.XA y.xs.length y.xc,.slice y.BA y.pe.length y.bc,.int .i64 y.limit,.bool y.help,.slice y.QA y.prs.length y.qc,.slice y.VA y.us.length y.vc,.int .i64 y.crew,.slice y.SA y.sps.length y.sc].toArray].toArray w (Ret (fun v w'=>v = .int .i64 (yearE y)∧St w noF [] w')):=by
 have hn1:=hyb.psn;have hn2:=hyb.pen;have hn3:=hyb.usn;have hn4:=hyb.spn
 refine enter Try.func85 rfl Try.ntmps85 rfl (fun a H=>?_)
 have S:=St.start w
 refine seq_list fun K1 k1=>?_
 refine aQ H rfl S G G ?_;clear H a S;intro b1 _ a hb1 hbw1 S H
 refine ls 1 H<|sr 1 rfl<|sE ?_;clear H a;intro a H
 refine k1 _ _ ?_;clear k1 K1
 refine wp_seq_k fun K2 k2=>?_
 replace H:=H.keep [1] rfl
 refine seq_list fun K3 k3=>?_
 refine ls 4 H<|sf eT rfl<|sd ((aB dY fZ rfl S (i:=0) G G))<|sf tI rfl<|sl S 0 xM G G G<|sE ?_;clear H a;intro a H
 refine aA H G G Try.func107 G G (Bs y.pl y.ps y.PA y.pc y.xs y.XA y.xc ([]:List Hq) none 0 (fun _=>none) (fun _=>0) y.prs y.QA y.qc _ (hy.ps.now S) hyb.psn (hy.xs.now S) hyb.xsn InS.nil (by decide) (fun k hk=>absurd hk (Nat.not_lt_zero k)) (fun k hk=>absurd hk (Nat.not_lt_zero k)) (hy.prs.now S) hyb.prn) ?_;clear H a
 rintro _ _ a ⟨rfl,S2⟩ H
 replace S:=S.call S2;clear S2
 rw [Jt] at H
 refine ls 9 H<|sr 9 rfl<|sE ?_;clear H a;intro a H
 refine k3 _ _ ?_;clear k3 K3
 replace H:=H.keep [1,6] rfl
 refine sS H fun K4 k4=>sr 2 rfl<|sE ?_;clear H a;intro a H
 refine k4 _ ?_;clear k4 K4
 refine condN H rfl (fun hc1=>?_) (fun hc1=>?_)
 ·skip
  refine sS H fun K5 k5=>sr 2 rfl<|sE ?_;clear H a;intro a H
  refine k5 _ ?_;clear k5 K5
  refine wp_ret ?_
  refine ret1 (fn:=Try.f85) rfl H rfl ?_
  exact ⟨congrArg _ (lT hc1).symm,(S.sel [] G G)⟩
 have hke:keptE y.pl y.ps y.xs [] y.prs=0:=by omega
 have hV:=Js hke
 refine wp_skip ?_
 refine k2 _ _ ?_
 refine wp_seq_k fun K6 k6=>?_
 replace H:=H.keep [1] rfl
 refine sS H fun K7 k7=>sf dA rfl<|sl S 0 aE G G G<|sc rfl Try.func54 G G (bH _ _ _ _)<|sr 2 rfl<|sg 7 4 33 40 false G G (fun hg5=>by
     have hq5:=hg5;try simp only [o1,o2,o3,o4,o5,o6,o7,o8,o9,oa] at hq5
     exact sy hg5<|sf kR rfl<|sy hg5<|sl S 0 bM G G G<|sy hg5<|sL aX rfl<|sy hg5<|sf eT rfl<|sy hg5<|sf dU rfl<|sy hg5<|sl S 0 aE G G G<|sy hg5<|sr 1 rfl<|sz 7 G G G)<|so G G G<|sr 1 rfl<|sg 4 13 42 46 false G G (fun hg14=>by
     have hq14:=hg14;try simp only [o1,o2,o3,o4,o5,o6,o7,o8,o9,oa] at hq14
     exact sy hg14<|sf mL rfl<|sy hg14<|sl S 0 aE G G G<|sy hg14<|sc rfl Try.func54 G G (bH _ _ _ _)<|sy hg14<|sr 1 rfl<|sz 4 G G G)<|so G G G<|sr 1 rfl<|sg 4 19 48 52 false G G (fun hg20=>by
     have hq20:=hg20;try simp only [o1,o2,o3,o4,o5,o6,o7,o8,o9,oa] at hq20
     exact sy hg20<|sf zG rfl<|sy hg20<|sl S 0 aE G G G<|sy hg20<|sc rfl Try.func54 G G (bH _ _ _ _)<|sy hg20<|sr 1 rfl<|sz 4 G G G)<|so G G G<|sr 1 rfl<|sg 4 25 54 58 false G G (fun hg26=>by
     have hq26:=hg26;try simp only [o1,o2,o3,o4,o5,o6,o7,o8,o9,oa] at hq26
     exact sy hg26<|sf kS rfl<|sy hg26<|sl S 0 nR G G G<|sy hg26<|sL pQ rfl<|sy hg26<|sr 1 rfl<|sz 4 G G G)<|so G G G<|sE ?_;clear H a;intro a H
 refine k7 _ ?_;clear k7 K7
 refine cond_ H rfl (fun hc2=>?_) (fun hc2=>?_)
 ·skip
  try simp only [o1,o2,o3,o4,o5,o6,o7,o8,o9,oa] at hc2
  replace H:=H.keep [] rfl
  refine sS H fun K8 k8=>sr 1 rfl<|sE ?_;clear H a;intro a H
  refine k8 _ ?_;clear k8 K8
  refine wp_ret ?_
  refine ret1 (fn:=Try.f85) rfl H rfl ?_
  rw [nD hke (fun h=>by unfold yrI at h;omega)];exact ⟨rfl,(S.sel [] G G)⟩
 try simp only [o1,o2,o3,o4,o5,o6,o7,o8,o9,oa] at hc2
 refine wp_skip ?_
 refine k6 _ _ ?_
 refine wp_seq_k fun K9 k9=>?_
 refine sS H fun K10 k10=>sf kR rfl<|sl S 0 bM G G G<|sL aX rfl<|sr 1 rfl<|sE ?_;clear H a;intro a H
 refine k10 _ ?_;clear k10 K10
 refine wp_block ?_
 refine loop_st (X:=Nat) (R0:=_) [1,61,62] H rfl (fun k=>[(63,.int .i64 (k:Int))]) (fun k=>[]) (fun g k=>k≤y.pe.length∧g+k=y.pe.length∧∀ q,q<k→0≤y.pe.getD q 0∧y.pe.getD q 0≤1000) (y.pe.length) 0 ?_ (S.sel [0] G G) (H.keep [63,1,61,62] rfl) ?_
 · exact ⟨by omega,by omega,fun q hq=>absurd hq (Nat.not_lt_zero q)⟩
 clear H S a
 intro g1 x1 a w1 hp S H K11 k11
 obtain ⟨k,rfl⟩:∃ y,y=x1:=⟨_,rfl⟩
 refine sS H fun K12 k12=>sr 1 rfl<|sE ?_;clear H a;intro a H
 refine k12 _ ?_;clear k12 K12
 refine wp_seq_k fun K13 k13=>?_
 refine condL H rfl (fun hc3=>?_) (fun hc3=>?_)
 ·skip
  refine wp_skip ?_
  refine k13 _ _ ?_
  refine wp_seq_k fun K14 k14=>?_
  refine wp_block ?_
  refine sS H fun K15 k15=>si aX bK G G (hy.pe.adr (by omega)) (by omega)<|slm aE rfl (hy.pe.rd S (by omega) (by omega))<|sr 1 rfl<|sE ?_;clear H a;intro a H
  refine k15 _ ?_;clear k15 K15
  refine sS H fun K16 k16=>sr 1 rfl<|sc rfl Try.func54 G G (bH _ _ _ _)<|sr 1 rfl<|sE ?_;clear H a;intro a H
  refine k16 _ ?_;clear k16 K16
  refine cond_ H rfl (fun hc4=>?_) (fun hc4=>?_)
  ·skip
   try simp only [o1,o2,o3,o4,o5,o6,o7,o8,o9,oa] at hc4
   refine sS H fun K17 k17=>sr 1 rfl<|sE ?_;clear H a;intro a H
   refine k17 _ ?_;clear k17 K17
   refine wp_ret ?_
   refine ret1 (fn:=Try.f85) rfl H rfl ?_
   rw [nD hke (fun h=>by have h9:=h.2.1.2 k (by omega);omega)];exact ⟨rfl,(S.sel [] G G)⟩
  try simp only [o1,o2,o3,o4,o5,o6,o7,o8,o9,oa] at hc4
  refine wp_skip ?_
  refine k14 _ _ ?_
  replace H:=H.keep [1,61,62,63] rfl
  refine sO H<|sd (aL G G (by unfold i64ok;omega))<|sr 1 rfl<|sE ?_;clear H a;intro a H
  exact k11 (g1-1) (k+1) a _ (by omega) (⟨by omega,by omega,Gj hp.2.2 (by omega)⟩) (S.sel [0] G G) (H.keep [63,1,61,62] rfl)
 refine wp_exit ?_
 refine k9 _ _ ?_
 refine wp_seq_k fun K19 k19=>?_
 refine sS H fun K20 k20=>sf kS rfl<|sl S 0 nR G G G<|sL pQ rfl<|sr 1 rfl<|sE ?_;clear H a;intro a H
 refine k20 _ ?_;clear k20 K20
 refine wp_block ?_
 have hpe9:∀ q,q<y.pe.length→0≤y.pe.getD q 0∧y.pe.getD q 0≤1000:=fun q hq=>hp.2.2 q (by omega)
 refine loop_st (X:=Nat) (R0:=_) [1,72,73] H rfl (fun k=>[(74,.int .i64 (k:Int))]) (fun k=>[]) (fun g k=>k≤y.sps.length∧g+k=y.sps.length∧∀ q,q<k→sprB y.days (y.sps.getD q Spr.zero)=true) (y.sps.length) 0 ?_ (S.sel [0] G G) (H.keep [74,1,72,73] rfl) ?_
 · exact ⟨by omega,by omega,fun q hq=>absurd hq (Nat.not_lt_zero q)⟩
 clear H S a
 intro g2 x2 a w2 hp S H K21 k21
 obtain ⟨k,rfl⟩:∃ y,y=x2:=⟨_,rfl⟩
 refine sS H fun K22 k22=>sr 1 rfl<|sE ?_;clear H a;intro a H
 refine k22 _ ?_;clear k22 K22
 refine wp_seq_k fun K23 k23=>?_
 refine condL H rfl (fun hc5=>?_) (fun hc5=>?_)
 ·skip
  refine wp_skip ?_
  refine k23 _ _ ?_
  refine wp_seq_k fun K24 k24=>?_
  refine wp_block ?_
  refine seq_list fun K25 k25=>?_
  refine ls 2 H<|si pQ nU G G (hy.sps.adr (by omega)) (by omega)<|sd ((aU zC nU rfl S hy.sps (by omega) (by omega)))<|sE ?_;clear H a;intro a H
  refine aI H rfl S Eo ?_;clear H a S;intro b10 _ a hb10 hbw10 S H
  refine aD H S (i:=0) G G G G nU G G ?_
  clear H a S;intro _ a S H
  refine k25 _ _ ?_;clear k25 K25
  replace H:=H.keep [1,10,72,73,74] rfl
  refine sS H fun K26 k26=>sf vC rfl<|sl S 0 aE G G G<|sf dA rfl<|sl S 1 aE G G G<|sd (aR G G (by unfold i64ok;omega))<|sc rfl Try.func54 G G (bH _ _ _ _)<|sr 2 rfl<|sg 4 7 85 89 false G G (fun hg8=>by
      have hq8:=hg8;try simp only [o1,o2,o3,o4,o5,o6,o7,o8,o9,oa] at hq8
      exact sy hg8<|sf vD rfl<|sy hg8<|sl S 0 aE G G G<|sy hg8<|sc rfl Try.func54 G G (bH _ _ _ _)<|sy hg8<|sr 1 rfl<|sz 4 G G G)<|so G G G<|sr 1 rfl<|sg 4 13 91 95 false G G (fun hg14=>by
      have hq14:=hg14;try simp only [o1,o2,o3,o4,o5,o6,o7,o8,o9,oa] at hq14
      exact sy hg14<|sf vE rfl<|sy hg14<|sl S 0 aE G G G<|sy hg14<|sc rfl Try.func54 G G (bH _ _ _ _)<|sy hg14<|sr 1 rfl<|sz 4 G G G)<|so G G G<|sE ?_;clear H a;intro a H
  refine k26 _ ?_;clear k26 K26
  refine cond_ H rfl (fun hc6=>?_) (fun hc6=>?_)
  ·skip
   try simp only [o1,o2,o3,o4,o5,o6,o7,o8,o9,oa] at hc6
   replace H:=H.keep [] rfl
   refine sS H fun K27 k27=>sr 1 rfl<|sE ?_;clear H a;intro a H
   refine k27 _ ?_;clear k27 K27
   refine wp_ret ?_
   refine ret1 (fn:=Try.f85) rfl H rfl ?_
   rw [nD hke (fun h=>by have h9:=nG.1 (h.2.2.2.2.2 k (by omega));omega)];exact ⟨rfl,(S.sel [] G G)⟩
  try simp only [o1,o2,o3,o4,o5,o6,o7,o8,o9,oa] at hc6
  refine wp_skip ?_
  refine k24 _ _ ?_
  refine sO H<|sd (aL G G (by unfold i64ok;omega))<|sr 1 rfl<|sE ?_;clear H a;intro a H
  exact k21 (g2-1) (k+1) a _ (by omega) (⟨by omega,by omega,fQ (f:=fun q=>sprB y.days (y.sps.getD q Spr.zero)) hp.2.2 (nG.2 (by omega))⟩) (S.sel [1] G G) (H.keep [74,1,72,73] rfl)
 refine wp_exit ?_
 refine k19 _ _ ?_
 refine wp_seq_k fun K29 k29=>?_
 refine sS H fun K30 k30=>sf dM rfl<|sl S 0 eK G G G<|sL gO rfl<|sr 1 rfl<|sE ?_;clear H a;intro a H
 refine k30 _ ?_;clear k30 K30
 refine condL H rfl (fun hc7=>?_) (fun hc7=>?_)
 ·skip
  refine sS H fun K31 k31=>sr 1 rfl<|sE ?_;clear H a;intro a H
  refine k31 _ ?_;clear k31 K31
  refine wp_ret ?_
  refine ret1 (fn:=Try.f85) rfl H rfl ?_
  rw [qO hke (by
    unfold yrI
    have h9:=hp.2.2
    exact ⟨by omega,⟨by omega,hpe9⟩,by omega,by omega,by omega,fun q hq=>h9 q (by omega)⟩) (by omega)];exact ⟨rfl,(S.sel [] G G)⟩
 refine wp_skip ?_
 refine k29 _ _ ?_
 replace H:=H.keep [1] rfl
 refine seq_list fun K32 k32=>?_
 refine gK (fun n:Int=>Value.int .i64 n) (macP y.ps y.us 0 0) Cf H rfl S ?_;clear H a S;intro mb _ a hmb S H
 refine ls 1 H<|sr 1 rfl<|sE ?_;clear H a;intro a H
 refine k32 _ _ ?_;clear k32 K32
 refine wp_seq_k fun K33 k33=>?_
 refine sS H fun K34 k34=>sf eT rfl<|sf eS rfl<|sl S 1 gS G G G<|sL iE rfl<|sr 1 rfl<|sE ?_;clear H a;intro a H
 refine k34 _ ?_;clear k34 K34
 refine wp_block ?_
 have hyi:yrI y:=by
   unfold yrI
   have h9:=hp.2.2
   exact ⟨by omega,⟨by omega,hpe9⟩,by omega,by omega,by omega,fun q hq=>h9 q (by omega)⟩
 refine loop_st (X:=Nat) (R0:=_) [1,11,105,106] H rfl (fun k=>[(107,.int .i64 (k:Int))]) (fun k=>[mapK (fun n:Int=>Value.int .i64 n) mb (macP y.ps y.us k 0)]) (fun g k=>k≤y.ps.length∧g+k=y.ps.length) (y.ps.length) 0 ?_ (S.sel [0,1] G G) (H.keep [107,1,11,105,106] rfl) ?_
 · exact ⟨by omega,by omega⟩
 clear H S a
 intro g3 x3 a w3 hp S H K35 k35
 obtain ⟨k,rfl⟩:∃ y,y=x3:=⟨_,rfl⟩
 refine sS H fun K36 k36=>sr 1 rfl<|sE ?_;clear H a;intro a H
 refine k36 _ ?_;clear k36 K36
 refine wp_seq_k fun K37 k37=>?_
 refine condL H rfl (fun hc8=>?_) (fun hc8=>?_)
 ·skip
  refine wp_skip ?_
  refine k37 _ _ ?_
  refine wp_seq_k fun K38 k38=>?_
  refine wp_block ?_
  refine seq_list fun K39 k39=>?_
  refine ls 2 H<|si iE gN G G (hy.ps.adr (by omega)) (by omega)<|sd ((aU lO gN rfl S hy.ps (by omega) (by omega)))<|sE ?_;clear H a;intro a H
  refine aI H rfl S vK ?_;clear H a S;intro b13 _ a hb13 hbw13 S H
  refine aD H S (i:=0) G G G G gN G G ?_
  clear H a S;intro _ a S H
  refine k39 _ _ ?_;clear k39 K39
  replace H:=H.keep [1,11,13,105,106,107] rfl
  refine one_list ?_
  refine ls 6 H<|sr 1 rfl<|sf dV rfl<|sl S 0 aE G G G<|sf dV rfl<|sl S 0 aE G G G<|sr 1 rfl<|sE ?_;clear H a;intro a H
  refine gW (k:=(y.ps.getD k Psg.zero).mach) (macP y.ps y.us (k+1) 0) H S (i:=1) rfl xS (hZ rfl) G G G (Jg (wP hV (by omega)).1 (wP hV (by omega)).2) ?_;clear H a S;intro _ a S H
  refine k38 _ _ ?_
  refine sO H<|sd (aL G G (by unfold i64ok;omega))<|sr 1 rfl<|sE ?_;clear H a;intro a H
  exact k35 (g3-1) (k+1) a _ (by omega) (⟨by omega,by omega⟩) (S.sel [1,2] G G) (H.keep [107,1,11,105,106] rfl)
 refine wp_exit ?_
 refine k33 _ _ ?_
 refine wp_seq_k fun K42 k42=>?_
 replace H:=H.keep [1,11] rfl
 refine sS H fun K43 k43=>sf dM rfl<|sl S 1 eK G G G<|sL gO rfl<|sr 1 rfl<|sE ?_;clear H a;intro a H
 refine k43 _ ?_;clear k43 K43
 refine wp_block ?_
 obtain rfl:k=y.ps.length:=by omega
 refine loop_st (X:=Nat) (R0:=_) [11,119,120] H rfl (fun k=>[(121,.int .i64 (k:Int))]) (fun k=>[mapK (fun n:Int=>Value.int .i64 n) mb (macP y.ps y.us y.ps.length k)]) (fun g k=>k≤y.us.length∧g+k=y.us.length∧∀ q,q<k→untB y.ps y.us q=true) (y.us.length) 0 ?_ (S.sel [0,1] G G) (H.keep [121,11,119,120] rfl) ?_
 · exact ⟨by omega,by omega,fun q hq=>absurd hq (Nat.not_lt_zero q)⟩
 clear H S a
 intro g4 x4 a w4 hp S H K44 k44
 obtain ⟨k,rfl⟩:∃ y,y=x4:=⟨_,rfl⟩
 refine sS H fun K45 k45=>sr 1 rfl<|sE ?_;clear H a;intro a H
 refine k45 _ ?_;clear k45 K45
 refine wp_seq_k fun K46 k46=>?_
 refine condL H rfl (fun hc9=>?_) (fun hc9=>?_)
 ·skip
  refine wp_skip ?_
  refine k46 _ _ ?_
  refine wp_seq_k fun K47 k47=>?_
  refine wp_block ?_
  refine seq_list fun K48 k48=>?_
  refine ls 2 H<|si gO iM G G (hy.us.adr (by omega)) (by omega)<|sd ((aU nS iM rfl S hy.us (by omega) (by omega)))<|sE ?_;clear H a;intro a H
  refine aI H rfl S Em ?_;clear H a S;intro b15 _ a hb15 hbw15 S H
  refine aD H S (i:=0) G G G G iM G G ?_
  clear H a S;intro _ a S H
  refine k48 _ _ ?_;clear k48 K48
  refine wp_seq_k fun K49 k49=>?_
  refine seq_list fun K50 k50=>?_
  refine ls 2 H<|sd ((aB nS iM rfl S (i:=0) G G))<|sr 1 rfl<|sE ?_;clear H a;intro a H
  refine aA H G G Try.func108 G G (Ju (y.u k) y.ps y.us k mb _ _ ((S.sel [1] G G).startR) ((hy.rt k (by omega)).nowR (S.sel [1] G G)) (hyb.rtn (by omega)) ((hy.ul k (by omega)).nowR (S.sel [1] G G)) (hyb.uln (by omega))) ?_;clear H a
  rintro _ _ a ⟨rfl,S2⟩ H
  replace S:=St.callR (M:=[_]) (S.sel [1,0,2] G G) S2;clear S2
  refine ls 1 H<|sr 1 rfl<|sE ?_;clear H a;intro a H
  refine k50 _ _ ?_;clear k50 K50
  refine cond_ H rfl (fun hc10=>?_) (fun hc10=>?_)
  ·skip
   try simp only [o1,o2,o3,o4,o5,o6,o7,o8,o9,oa] at hc10
   replace H:=H.keep [] rfl
   refine sS H fun K51 k51=>sr 1 rfl<|sE ?_;clear H a;intro a H
   refine k51 _ ?_;clear k51 K51
   refine wp_ret ?_
   refine ret1 (fn:=Try.f85) rfl H rfl ?_
   rw [qP hke hyi (by omega) (show k<y.us.length by omega) hc10];exact ⟨rfl,(S.sel [] G G)⟩
  try simp only [o1,o2,o3,o4,o5,o6,o7,o8,o9,oa] at hc10
  refine wp_skip ?_
  refine k49 _ _ ?_
  refine one_list ?_
  refine ls 3 H<|sr 1 rfl<|sf mO rfl<|sl S 1 aE G G G<|sE ?_;clear H a;intro a H
  refine gW (k:=(y.us.getD k Unt.zero).mach) (macP y.ps y.us y.ps.length (k+1)) H S (i:=0) rfl xS (hZ rfl) G G G Jh ?_;clear H a S;intro _ a S H
  refine k47 _ _ ?_
  refine sO H<|sd (aL G G (by unfold i64ok;omega))<|sr 1 rfl<|sE ?_;clear H a;intro a H
  exact k44 (g4-1) (k+1) a _ (by omega) (⟨by omega,by omega,fQ (f:=untB y.ps y.us) hp.2.2 hc10⟩) (S.sel [0,2] G G) (H.keep [121,11,119,120] rfl)
 refine wp_exit ?_
 refine k42 _ _ ?_
 refine sS H fun K54 k54=>sr 1 rfl<|sE ?_;clear H a;intro a H
 refine k54 _ ?_;clear k54 K54
 refine wp_ret ?_
 refine ret1 (fn:=Try.f85) rfl H rfl ?_
 rw [wC hke hyi (by omega) (cI.2 fun q hq=>hp.2.2 q (by omega))];exact ⟨rfl,(S.sel [] G G)⟩
end
section
theorem chk5 (A B C:Prop) [Decidable A] [Decidable B] [Decidable C] (k:Nat):¬ A∨(A∧¬ B)∨(A∧B∧¬ C)∨(A∧B∧C∧k=0)∨(A∧B∧C∧0<k):=by
  by_cases hA:A <;> by_cases hB:B <;> by_cases hC:C <;> by_cases hk:k=0 <;> simp [hA,hB,hC,hk] <;> omega
section
variable {P:Program} {w:World} {L:List (Nat×Value)} {ty:TypeId} {pos:String} {af:Array Edge} {dd:Option Nat} {g:Option (Nat×Bool)}
theorem kK {x:Operand} {xt:TypeId} {lo n hi:Int} (hx:ev L x=some (.bool (decide (lo≤n)&&decide (n≤hi)))) (h:¬ (lo≤n∧n≤hi)):Does P L ⟨dd,.unOp .not xt x,ty,pos,af,g⟩ w (.bool true):=by
  have h1:=cF (P:=P) (d:=dd) (w:=w) (ty:=ty) (pos:=pos) (af:=af) (g:=g) (xt:=xt) hx
  have e:(!(decide (lo≤n)&&decide (n≤hi)))=true:=by simp only [Bool.not_eq_true',Bool.and_eq_false_iff,decide_eq_false_iff_not];omega
  rw [e] at h1
  exact h1
theorem dJ {x:Operand} {xt:TypeId} {lo n hi:Int} (hx:ev L x=some (.bool (decide (lo≤n)&&decide (n≤hi)))) (h:lo≤n∧n≤hi):Does P L ⟨dd,.unOp .not xt x,ty,pos,af,g⟩ w (.bool false):=by
  have h1:=cF (P:=P) (d:=dd) (w:=w) (ty:=ty) (pos:=pos) (af:=af) (g:=g) (xt:=xt) hx
  rw [decide_eq_true h.1,decide_eq_true h.2] at h1
  exact h1
end
section
variable {y:Yr} {l:List Tsk} {k:Nat}
def tskI (y:Yr) (t:Tsk):Prop:=(0≤t.day∧t.day≤y.days-1)∧(0≤t.unit∧t.unit≤(y.us.length:Int)-1)∧(1≤t.kind∧t.kind≤2)
theorem qV (h:¬ ((0≤(l.getD k Tsk.zero).day∧(l.getD k Tsk.zero).day≤y.days-1)∧(0≤(l.getD k Tsk.zero).unit∧(l.getD k Tsk.zero).unit≤(y.us.length:Int)-1)∧(1≤(l.getD k Tsk.zero).kind∧(l.getD k Tsk.zero).kind≤2))):tskB y l k=false:=by
  unfold tskB;rw [decide_eq_false h,Bool.false_and]
theorem Gk (hB:(0≤(l.getD k Tsk.zero).day∧(l.getD k Tsk.zero).day≤y.days-1)∧(0≤(l.getD k Tsk.zero).unit∧(l.getD k Tsk.zero).unit≤(y.us.length:Int)-1)∧(1≤(l.getD k Tsk.zero).kind∧(l.getD k Tsk.zero).kind≤2)∧0<k) (h:befB (l.getD ((k:Int)-1).toNat Tsk.zero) (l.getD k Tsk.zero)=false):tskB y l k=false:=by
  rw [show ((k:Int)-1).toNat=k-1 by omega] at h
  unfold tskB;rw [h,decide_eq_false (show ¬ k=0 by omega),Bool.or_self,Bool.and_false]
theorem sB (hB:(0≤(l.getD k Tsk.zero).day∧(l.getD k Tsk.zero).day≤y.days-1)∧(0≤(l.getD k Tsk.zero).unit∧(l.getD k Tsk.zero).unit≤(y.us.length:Int)-1)∧(1≤(l.getD k Tsk.zero).kind∧(l.getD k Tsk.zero).kind≤2)∧k=0):tskB y l k=true:=by
  unfold tskB;rw [decide_eq_true ⟨hB.1,hB.2.1,hB.2.2.1⟩,decide_eq_true hB.2.2.2];rfl
theorem sC (hB:(0≤(l.getD k Tsk.zero).day∧(l.getD k Tsk.zero).day≤y.days-1)∧(0≤(l.getD k Tsk.zero).unit∧(l.getD k Tsk.zero).unit≤(y.us.length:Int)-1)∧(1≤(l.getD k Tsk.zero).kind∧(l.getD k Tsk.zero).kind≤2)∧0<k) (h:befB (l.getD ((k:Int)-1).toNat Tsk.zero) (l.getD k Tsk.zero)=true):tskB y l k=true:=by
  rw [show ((k:Int)-1).toNat=k-1 by omega] at h
  unfold tskB;rw [decide_eq_true ⟨hB.1,hB.2.1,hB.2.2.1⟩,h,Bool.or_true];rfl
end
theorem Co (a b:Tsk) (w:World) :
    Calls Try.prog 86 [.agg [.int .i64 a.day,.int .i64 a.unit,.int .i64 a.kind].toArray,.agg [.int .i64 b.day,.int .i64 b.unit,.int .i64 b.kind].toArray].toArray w (Ret (fun v w'=>v = .bool (befB a b)∧St w noF [] w')):=by
 refine enter Try.func86 rfl Try.ntmps86 rfl (fun a H=>?_)
 have S:=St.start w
 refine seq_list fun K1 k1=>?_
 refine aQ H rfl S G G ?_;clear H a S;intro b2 _ a hb2 hbw2 S H
 refine aQ H rfl S G G ?_;clear H a S;intro b3 _ a hb3 hbw3 S H
 refine ls 1 H<|sr 1 rfl<|sE ?_;clear H a;intro a H
 refine k1 _ _ ?_;clear k1 K1
 refine wp_seq_k fun K2 k2=>?_
 refine sS H fun K3 k3=>sf eR rfl<|sl S 1 aE G G G<|sf eR rfl<|sl S 0 aE G G G<|sr 1 rfl<|sE ?_;clear H a;intro a H
 refine k3 _ ?_;clear k3 K3
 refine condN H rfl (fun hc1=>?_) (fun hc1=>?_)
 ·skip
  replace H:=H.keep [2,3] rfl
  refine sS H fun K4 k4=>sf eR rfl<|sl S 1 aE G G G<|sf eR rfl<|sl S 0 aE G G G<|sr 2 rfl<|sE ?_;clear H a;intro a H
  refine k4 _ ?_;clear k4 K4
  refine wp_ret ?_
  refine ret1 (fn:=Try.f86) rfl H rfl ?_
  refine ⟨?_,(S.sel [] G G)⟩;unfold befB;rw [if_pos hc1]
 refine wp_skip ?_
 refine k2 _ _ ?_
 refine wp_seq_k fun K5 k5=>?_
 replace H:=H.keep [2,3] rfl
 refine sS H fun K6 k6=>sf fL rfl<|sl S 1 aE G G G<|sf fL rfl<|sl S 0 aE G G G<|sr 1 rfl<|sE ?_;clear H a;intro a H
 refine k6 _ ?_;clear k6 K6
 refine condN H rfl (fun hc2=>?_) (fun hc2=>?_)
 ·skip
  replace H:=H.keep [2,3] rfl
  refine sS H fun K7 k7=>sf fL rfl<|sl S 1 aE G G G<|sf fL rfl<|sl S 0 aE G G G<|sr 2 rfl<|sE ?_;clear H a;intro a H
  refine k7 _ ?_;clear k7 K7
  refine wp_ret ?_
  refine ret1 (fn:=Try.f86) rfl H rfl ?_
  refine ⟨?_,(S.sel [] G G)⟩;unfold befB;rw [if_neg (fun h=>h (by omega)),if_pos hc2]
 refine wp_skip ?_
 refine k5 _ _ ?_
 replace H:=H.keep [2,3] rfl
 refine sS H fun K8 k8=>sf jB rfl<|sl S 1 aE G G G<|sf jB rfl<|sl S 0 aE G G G<|sr 2 rfl<|sE ?_;clear H a;intro a H
 refine k8 _ ?_;clear k8 K8
 refine wp_ret ?_
 refine ret1 (fn:=Try.f86) rfl H rfl ?_
 refine ⟨?_,(S.sel [] G G)⟩;unfold befB;rw [if_neg (fun h=>h (by omega)),if_neg (fun h=>h (by omega))]
theorem Gl (y:Yr) (l:List Tsk) (LA:Option Addr) (lc:Nat) (w:World) (hy:YIn w noF y) (hyb:YBd y) (hl:InS w noF 3 LA l.length (yF l)) (hln:l.length≤9223372036854775807) :
    Calls Try.prog 53 [.agg [.int .i64 y.days,.int .i64 y.pl,.slice y.PA y.ps.length y.pc,.slice y.XA y.xs.length y.xc,.slice y.BA y.pe.length y.bc,.int .i64 y.limit,.bool y.help,.slice y.QA y.prs.length y.qc,.slice y.VA y.us.length y.vc,.int .i64 y.crew,.slice y.SA y.sps.length y.sc].toArray,.slice LA l.length lc].toArray w (Ret (fun v w'=>v = .int .i64 (taskE y l)∧St w noF [] w')):=by
 have hn3:=hyb.usn
 refine enter Try.func53 rfl Try.ntmps53 rfl (fun a H=>?_)
 have S:=St.start w
 refine seq_list fun K1 k1=>?_
 refine aQ H rfl S G G ?_;clear H a S;intro b2 _ a hb2 hbw2 S H
 refine ls 1 H<|sr 1 rfl<|sE ?_;clear H a;intro a H
 refine k1 _ _ ?_;clear k1 K1
 refine wp_seq_k fun K2 k2=>?_
 refine seq_list fun K3 k3=>?_
 refine ls 1 H<|sd ((aB fJ iL rfl S (i:=0) G G))<|sE ?_;clear H a;intro a H
 refine aA H G G Try.func85 G G (Jv y _ (hy.now S) hyb) ?_;clear H a
 rintro _ _ a ⟨rfl,S2⟩ H
 replace S:=S.call S2;clear S2
 refine ls 1 H<|sr 1 rfl<|sE ?_;clear H a;intro a H
 refine k3 _ _ ?_;clear k3 K3
 refine sS H fun K4 k4=>sr 2 rfl<|sE ?_;clear H a;intro a H
 refine k4 _ ?_;clear k4 K4
 refine condN H rfl (fun hc1=>?_) (fun hc1=>?_)
 ·skip
  refine sS H fun K5 k5=>sr 2 rfl<|sE ?_;clear H a;intro a H
  refine k5 _ ?_;clear k5 K5
  refine wp_ret ?_
  refine ret1 (fn:=Try.f53) rfl H rfl ?_
  exact ⟨congrArg _ (yG hc1).symm,(S.sel [] G G)⟩
 have hye:yearE y=0:=by omega
 have hyi:=(oW hye).yr
 unfold yrI at hyi
 refine wp_skip ?_
 refine k2 _ _ ?_
 refine wp_seq_k fun K6 k6=>?_
 replace H:=H.keep [1,2] rfl
 refine sS H fun K7 k7=>sr 1 rfl<|sL nV rfl<|sr 1 rfl<|sE ?_;clear H a;intro a H
 refine k7 _ ?_;clear k7 K7
 refine condL H rfl (fun hc2=>?_) (fun hc2=>?_)
 ·skip
  refine sS H fun K8 k8=>sr 1 rfl<|sE ?_;clear H a;intro a H
  refine k8 _ ?_;clear k8 K8
  refine wp_ret ?_
  refine ret1 (fn:=Try.f53) rfl H rfl ?_
  rw [yH hye (by omega)];exact ⟨rfl,(S.sel [] G G)⟩
 refine wp_skip ?_
 refine k6 _ _ ?_
 refine wp_seq_k fun K9 k9=>?_
 refine sS H fun K10 k10=>sr 1 rfl<|sL nV rfl<|sr 1 rfl<|sE ?_;clear H a;intro a H
 refine k10 _ ?_;clear k10 K10
 refine wp_block ?_
 refine loop_st (X:=Nat) (R0:=_) [1,2,16,17] H rfl (fun k=>[(18,.int .i64 (k:Int))]) (fun k=>[]) (fun g k=>k≤l.length∧g+k=l.length∧∀ q,q<k→tskB y l q=true) (l.length) 0 ?_ (S.sel [0] G G) (H.keep [18,1,2,16,17] rfl) ?_
 · exact ⟨by omega,by omega,fun q hq=>absurd hq (Nat.not_lt_zero q)⟩
 clear H S a
 intro g1 x1 a w1 hp S H K11 k11
 obtain ⟨k,rfl⟩:∃ y,y=x1:=⟨_,rfl⟩
 refine sS H fun K12 k12=>sr 1 rfl<|sE ?_;clear H a;intro a H
 refine k12 _ ?_;clear k12 K12
 refine wp_seq_k fun K13 k13=>?_
 refine condL H rfl (fun hc3=>?_) (fun hc3=>?_)
 ·skip
  refine wp_skip ?_
  refine k13 _ _ ?_
  refine wp_seq_k fun K14 k14=>?_
  refine wp_block ?_
  refine seq_list fun K15 k15=>?_
  refine ls 3 H<|sr 1 rfl<|si nV jN G G (hl.adr (by omega)) (by omega)<|sd ((aU oR jN rfl S hl (by omega) (by omega)))<|sE ?_;clear H a;intro a H
  refine aI H rfl S Es ?_;clear H a S;intro b7 _ a hb7 hbw7 S H
  refine ls 1 H<|sr 1 rfl<|sE ?_;clear H a;intro a H
  refine aD H S (i:=0) G G G G jN G G ?_
  clear H a S;intro _ a S H
  refine k15 _ _ ?_;clear k15 K15
  rcases chk5 (0≤(l.getD k Tsk.zero).day∧(l.getD k Tsk.zero).day≤y.days-1) (0≤(l.getD k Tsk.zero).unit∧(l.getD k Tsk.zero).unit≤(y.us.length:Int)-1) (1≤(l.getD k Tsk.zero).kind∧(l.getD k Tsk.zero).kind≤2) k with hB|hB|hB|hB|hB
  ·skip
   skip
   replace H:=H.keep [1,2,6,7,16,17,18] rfl
   replace S:=S.drew
   refine seq_wq [(0,true),(1,true),(2,true),(3,true),(4,true),(5,false),(6,true),(7,true),(8,true),(9,true),(10,true),(11,true),(12,true),(13,true),(14,true),(15,true),(16,true),(17,true),(18,true),(19,true),(20,true),(21,true),(22,true),(23,true),(24,true),(25,true),(26,true),(27,true),(28,true),(29,true),(30,true),(31,true),(32,true),(33,true),(34,true),(35,true),(36,true)] (by kernel_rfl) (by kernel_rfl) (S.sel [0,1] G G) fun K16 k16=>?_
   refine qF H<|qd rfl (fun _ S=>(aC eR rfl))<|qd rfl (fun _ S=>aH aE rfl (boxM.rd S (i:=0) G G))<|qd rfl (fun _ S=>(aC dA rfl))<|qd rfl (fun _ S=>aH aE rfl (boxM.rd S (i:=1) G G))<|qd rfl (fun _ S=>aR G G (by unfold i64ok;omega))<|qK ?_;clear H a;intro a H
   refine aT rfl ?_
   refine aA H G G Try.func54 G G (bH _ _ _ _) ?_;clear H a
   rintro _ _ a ⟨rfl,rfl⟩ H
   refine wpList_nil (And.intro (S.sel [0,1] G G) ?_)
   refine qF H<|qd rfl (fun _ S=>kK rfl (by omega))<|qr 1 rfl<|qK ?_;clear H a;intro a H
   refine aJ H G G G G G ?_;clear H a;intro a H
   refine aJ H G G G G G ?_;clear H a;intro a H
   refine aJ H G G G G G ?_;clear H a;intro a H
   refine aJ H G G G G G ?_;clear H a;intro a H
   refine aJ H G G G G G ?_;clear H a;intro a H
   refine aJ H G G G G G ?_;clear H a;intro a H
   refine aJ H G G G G G ?_;clear H a;intro a H
   refine aJ H G G G G G ?_;clear H a;intro a H
   refine qF H<|qd rfl (fun _ S=>(aS G G G))<|qr 1 rfl<|qK ?_;clear H a;intro a H
   refine aJ H G G G G G ?_;clear H a;intro a H
   refine aJ H G G G G G ?_;clear H a;intro a H
   refine aJ H G G G G G ?_;clear H a;intro a H
   refine aJ H G G G G G ?_;clear H a;intro a H
   refine qF H<|qd rfl (fun _ S=>(aS G G G))<|qr 1 rfl<|qK ?_;clear H a;intro a H
   refine aJ H G G G G G ?_;clear H a;intro a H
   refine aJ H G G G G G ?_;clear H a;intro a H
   refine aJ H G G G G G ?_;clear H a;intro a H
   refine dZ H G G G G ?_;clear H a;intro a H
   refine dZ H G G G G ?_;clear H a;intro a H
   refine dZ H G G G G ?_;clear H a;intro a H
   refine dZ H G G G G ?_;clear H a;intro a H
   refine dZ H G G G G ?_;clear H a;intro a H
   refine dZ H G G G G ?_;clear H a;intro a H
   refine dZ H G G G G ?_;clear H a;intro a H
   refine dZ H G G G G ?_;clear H a;intro a H
   refine aJ H G G G G G ?_;clear H a;intro a H
   refine qF H<|qd rfl (fun _ S=>(aS G G G))<|qK ?_;clear H a;intro a H
   refine bJ ?_
   refine k16 _ _ ?_
   clear k16 K16
   refine cond_ H rfl (fun hc4=>?_) (fun hc4=>?_)
   ·skip
    skip
    replace H:=H.keep [] rfl
    refine sS H fun K17 k17=>sr 1 rfl<|sE ?_;clear H a;intro a H
    refine k17 _ ?_;clear k17 K17
    refine wp_ret ?_
    refine ret1 (fn:=Try.f53) rfl H rfl ?_
    rw [lB hye (by omega) (show k<l.length by omega) (qV (by omega))];exact ⟨rfl,(S.sel [] G G)⟩
   skip
   cases hc4
  ·skip
   skip
   replace H:=H.keep [1,2,6,7,16,17,18] rfl
   replace S:=S.drew
   refine seq_wq [(0,true),(1,true),(2,true),(3,true),(4,true),(5,false),(6,true),(7,true),(8,true),(9,true),(10,true),(11,true),(12,true),(13,true),(14,false),(15,true),(16,true),(17,true),(18,true),(19,true),(20,true),(21,true),(22,true),(23,true),(24,true),(25,true),(26,true),(27,true),(28,true),(29,true),(30,true),(31,true),(32,true),(33,true),(34,true),(35,true),(36,true)] (by kernel_rfl) (by kernel_rfl) (S.sel [0,1] G G) fun K18 k18=>?_
   refine qF H<|qd rfl (fun _ S=>(aC eR rfl))<|qd rfl (fun _ S=>aH aE rfl (boxM.rd S (i:=0) G G))<|qd rfl (fun _ S=>(aC dA rfl))<|qd rfl (fun _ S=>aH aE rfl (boxM.rd S (i:=1) G G))<|qd rfl (fun _ S=>aR G G (by unfold i64ok;omega))<|qK ?_;clear H a;intro a H
   refine aT rfl ?_
   refine aA H G G Try.func54 G G (bH _ _ _ _) ?_;clear H a
   rintro _ _ a ⟨rfl,rfl⟩ H
   refine wpList_nil (And.intro (S.sel [0,1] G G) ?_)
   refine qF H<|qd rfl (fun _ S=>dJ rfl (by omega))<|qr 1 rfl<|qK ?_;clear H a;intro a H
   refine aG H G G G G (fun _ S=>(aC fL rfl)) ?_;clear H a;intro a H
   refine aG H G G G G (fun _ S=>aH aE rfl (boxM.rd S (i:=0) G G)) ?_;clear H a;intro a H
   refine aG H G G G G (fun _ S=>(aC dM rfl)) ?_;clear H a;intro a H
   refine aG H G G G G (fun _ S=>aH eK rfl (boxM.rd S (i:=1) G G)) ?_;clear H a;intro a H
   refine aG H G G G G (fun _ S=>cP gO rfl) ?_;clear H a;intro a H
   refine aG H G G G G (fun _ S=>aR G G (by unfold i64ok;omega)) ?_;clear H a;intro a H
   refine aT rfl ?_
   refine aW H G G ?_
   refine aA H G G Try.func54 G G (bH _ _ _ _) ?_;clear H a
   rintro _ _ a ⟨rfl,rfl⟩ H
   refine wpList_nil (And.intro (S.sel [0,1] G G) ?_)
   refine aG H G G G G (fun _ S=>kK rfl (by omega)) ?_;clear H a;intro a H
   refine qF H<|qd rfl (fun _ S=>(aV G G G))<|qr 1 rfl<|qK ?_;clear H a;intro a H
   refine aJ H G G G G G ?_;clear H a;intro a H
   refine aJ H G G G G G ?_;clear H a;intro a H
   refine aJ H G G G G G ?_;clear H a;intro a H
   refine aJ H G G G G G ?_;clear H a;intro a H
   refine qF H<|qd rfl (fun _ S=>(aS G G G))<|qr 1 rfl<|qK ?_;clear H a;intro a H
   refine aJ H G G G G G ?_;clear H a;intro a H
   refine aJ H G G G G G ?_;clear H a;intro a H
   refine aJ H G G G G G ?_;clear H a;intro a H
   refine dZ H G G G G ?_;clear H a;intro a H
   refine dZ H G G G G ?_;clear H a;intro a H
   refine dZ H G G G G ?_;clear H a;intro a H
   refine dZ H G G G G ?_;clear H a;intro a H
   refine dZ H G G G G ?_;clear H a;intro a H
   refine dZ H G G G G ?_;clear H a;intro a H
   refine dZ H G G G G ?_;clear H a;intro a H
   refine dZ H G G G G ?_;clear H a;intro a H
   refine aJ H G G G G G ?_;clear H a;intro a H
   refine qF H<|qd rfl (fun _ S=>(aS G G G))<|qK ?_;clear H a;intro a H
   refine bJ ?_
   refine k18 _ _ ?_
   clear k18 K18
   refine cond_ H rfl (fun hc5=>?_) (fun hc5=>?_)
   ·skip
    skip
    replace H:=H.keep [] rfl
    refine sS H fun K19 k19=>sr 1 rfl<|sE ?_;clear H a;intro a H
    refine k19 _ ?_;clear k19 K19
    refine wp_ret ?_
    refine ret1 (fn:=Try.f53) rfl H rfl ?_
    rw [lB hye (by omega) (show k<l.length by omega) (qV (by omega))];exact ⟨rfl,(S.sel [] G G)⟩
   skip
   cases hc5
  ·skip
   skip
   replace H:=H.keep [1,2,6,7,16,17,18] rfl
   replace S:=S.drew
   refine seq_wq [(0,true),(1,true),(2,true),(3,true),(4,true),(5,false),(6,true),(7,true),(8,true),(9,true),(10,true),(11,true),(12,true),(13,true),(14,false),(15,true),(16,true),(17,true),(18,true),(19,true),(20,false),(21,true),(22,true),(23,true),(24,true),(25,true),(26,true),(27,true),(28,true),(29,true),(30,true),(31,true),(32,true),(33,true),(34,true),(35,true),(36,true)] (by kernel_rfl) (by kernel_rfl) (S.sel [0,1] G G) fun K20 k20=>?_
   refine qF H<|qd rfl (fun _ S=>(aC eR rfl))<|qd rfl (fun _ S=>aH aE rfl (boxM.rd S (i:=0) G G))<|qd rfl (fun _ S=>(aC dA rfl))<|qd rfl (fun _ S=>aH aE rfl (boxM.rd S (i:=1) G G))<|qd rfl (fun _ S=>aR G G (by unfold i64ok;omega))<|qK ?_;clear H a;intro a H
   refine aT rfl ?_
   refine aA H G G Try.func54 G G (bH _ _ _ _) ?_;clear H a
   rintro _ _ a ⟨rfl,rfl⟩ H
   refine wpList_nil (And.intro (S.sel [0,1] G G) ?_)
   refine qF H<|qd rfl (fun _ S=>dJ rfl (by omega))<|qr 1 rfl<|qK ?_;clear H a;intro a H
   refine aG H G G G G (fun _ S=>(aC fL rfl)) ?_;clear H a;intro a H
   refine aG H G G G G (fun _ S=>aH aE rfl (boxM.rd S (i:=0) G G)) ?_;clear H a;intro a H
   refine aG H G G G G (fun _ S=>(aC dM rfl)) ?_;clear H a;intro a H
   refine aG H G G G G (fun _ S=>aH eK rfl (boxM.rd S (i:=1) G G)) ?_;clear H a;intro a H
   refine aG H G G G G (fun _ S=>cP gO rfl) ?_;clear H a;intro a H
   refine aG H G G G G (fun _ S=>aR G G (by unfold i64ok;omega)) ?_;clear H a;intro a H
   refine aT rfl ?_
   refine aW H G G ?_
   refine aA H G G Try.func54 G G (bH _ _ _ _) ?_;clear H a
   rintro _ _ a ⟨rfl,rfl⟩ H
   refine wpList_nil (And.intro (S.sel [0,1] G G) ?_)
   refine aG H G G G G (fun _ S=>dJ rfl (by omega)) ?_;clear H a;intro a H
   refine qF H<|qd rfl (fun _ S=>(aV G G G))<|qr 1 rfl<|qK ?_;clear H a;intro a H
   refine aG H G G G G (fun _ S=>(aC jB rfl)) ?_;clear H a;intro a H
   refine aG H G G G G (fun _ S=>aH aE rfl (boxM.rd S (i:=0) G G)) ?_;clear H a;intro a H
   refine aT rfl ?_
   refine aW H G G ?_
   refine aA H G G Try.func54 G G (bH _ _ _ _) ?_;clear H a
   rintro _ _ a ⟨rfl,rfl⟩ H
   refine wpList_nil (And.intro (S.sel [0,1] G G) ?_)
   refine aG H G G G G (fun _ S=>kK rfl (by omega)) ?_;clear H a;intro a H
   refine qF H<|qd rfl (fun _ S=>(aV G G G))<|qr 1 rfl<|qK ?_;clear H a;intro a H
   refine aJ H G G G G G ?_;clear H a;intro a H
   refine aJ H G G G G G ?_;clear H a;intro a H
   refine aJ H G G G G G ?_;clear H a;intro a H
   refine dZ H G G G G ?_;clear H a;intro a H
   refine dZ H G G G G ?_;clear H a;intro a H
   refine dZ H G G G G ?_;clear H a;intro a H
   refine dZ H G G G G ?_;clear H a;intro a H
   refine dZ H G G G G ?_;clear H a;intro a H
   refine dZ H G G G G ?_;clear H a;intro a H
   refine dZ H G G G G ?_;clear H a;intro a H
   refine dZ H G G G G ?_;clear H a;intro a H
   refine aJ H G G G G G ?_;clear H a;intro a H
   refine qF H<|qd rfl (fun _ S=>(aS G G G))<|qK ?_;clear H a;intro a H
   refine bJ ?_
   refine k20 _ _ ?_
   clear k20 K20
   refine cond_ H rfl (fun hc6=>?_) (fun hc6=>?_)
   ·skip
    skip
    replace H:=H.keep [] rfl
    refine sS H fun K21 k21=>sr 1 rfl<|sE ?_;clear H a;intro a H
    refine k21 _ ?_;clear k21 K21
    refine wp_ret ?_
    refine ret1 (fn:=Try.f53) rfl H rfl ?_
    rw [lB hye (by omega) (show k<l.length by omega) (qV (by omega))];exact ⟨rfl,(S.sel [] G G)⟩
   skip
   cases hc6
  ·skip
   skip
   replace H:=H.keep [1,2,6,7,16,17,18] rfl
   replace S:=S.drew
   refine seq_wq [(0,true),(1,true),(2,true),(3,true),(4,true),(5,false),(6,true),(7,true),(8,true),(9,true),(10,true),(11,true),(12,true),(13,true),(14,false),(15,true),(16,true),(17,true),(18,true),(19,true),(20,false),(21,true),(22,true),(23,true),(24,true),(25,true),(26,true),(27,true),(28,true),(29,true),(30,true),(31,true),(32,true),(33,true),(34,true),(35,true),(36,true)] (by kernel_rfl) (by kernel_rfl) (S.sel [0,1] G G) fun K22 k22=>?_
   refine qF H<|qd rfl (fun _ S=>(aC eR rfl))<|qd rfl (fun _ S=>aH aE rfl (boxM.rd S (i:=0) G G))<|qd rfl (fun _ S=>(aC dA rfl))<|qd rfl (fun _ S=>aH aE rfl (boxM.rd S (i:=1) G G))<|qd rfl (fun _ S=>aR G G (by unfold i64ok;omega))<|qK ?_;clear H a;intro a H
   refine aT rfl ?_
   refine aA H G G Try.func54 G G (bH _ _ _ _) ?_;clear H a
   rintro _ _ a ⟨rfl,rfl⟩ H
   refine wpList_nil (And.intro (S.sel [0,1] G G) ?_)
   refine qF H<|qd rfl (fun _ S=>dJ rfl (by omega))<|qr 1 rfl<|qK ?_;clear H a;intro a H
   refine aG H G G G G (fun _ S=>(aC fL rfl)) ?_;clear H a;intro a H
   refine aG H G G G G (fun _ S=>aH aE rfl (boxM.rd S (i:=0) G G)) ?_;clear H a;intro a H
   refine aG H G G G G (fun _ S=>(aC dM rfl)) ?_;clear H a;intro a H
   refine aG H G G G G (fun _ S=>aH eK rfl (boxM.rd S (i:=1) G G)) ?_;clear H a;intro a H
   refine aG H G G G G (fun _ S=>cP gO rfl) ?_;clear H a;intro a H
   refine aG H G G G G (fun _ S=>aR G G (by unfold i64ok;omega)) ?_;clear H a;intro a H
   refine aT rfl ?_
   refine aW H G G ?_
   refine aA H G G Try.func54 G G (bH _ _ _ _) ?_;clear H a
   rintro _ _ a ⟨rfl,rfl⟩ H
   refine wpList_nil (And.intro (S.sel [0,1] G G) ?_)
   refine aG H G G G G (fun _ S=>dJ rfl (by omega)) ?_;clear H a;intro a H
   refine qF H<|qd rfl (fun _ S=>(aV G G G))<|qr 1 rfl<|qK ?_;clear H a;intro a H
   refine aG H G G G G (fun _ S=>(aC jB rfl)) ?_;clear H a;intro a H
   refine aG H G G G G (fun _ S=>aH aE rfl (boxM.rd S (i:=0) G G)) ?_;clear H a;intro a H
   refine aT rfl ?_
   refine aW H G G ?_
   refine aA H G G Try.func54 G G (bH _ _ _ _) ?_;clear H a
   rintro _ _ a ⟨rfl,rfl⟩ H
   refine wpList_nil (And.intro (S.sel [0,1] G G) ?_)
   refine aG H G G G G (fun _ S=>dJ rfl (by omega)) ?_;clear H a;intro a H
   refine qF H<|qd rfl (fun _ S=>(aV G G G))<|qr 1 rfl<|qK ?_;clear H a;intro a H
   refine aG H G G G G (fun _ S=>aM rfl) ?_;clear H a;intro a H
   refine aG H G G G G (fun _ S=>rN G G (by omega)) ?_;clear H a;intro a H
   refine aG H G G G G (fun _ S=>aM rfl) ?_;clear H a;intro a H
   refine aJ H G G G G G ?_;clear H a;intro a H
   refine aJ H G G G G G ?_;clear H a;intro a H
   refine aJ H G G G G G ?_;clear H a;intro a H
   refine aJ H G G G G G ?_;clear H a;intro a H
   refine aJ H G G G G G ?_;clear H a;intro a H
   refine aJ H G G G G G ?_;clear H a;intro a H
   refine aJ H G G G G G ?_;clear H a;intro a H
   refine aJ H G G G G G ?_;clear H a;intro a H
   refine aG H G G G G (fun _ S=>(aS G G G)) ?_;clear H a;intro a H
   refine qF H<|qd rfl (fun _ S=>(aV G G G))<|qK ?_;clear H a;intro a H
   refine bJ ?_
   refine k22 _ _ ?_
   clear k22 K22
   refine cond_ H rfl (fun hc7=>?_) (fun hc7=>?_)
   ·skip
    skip
    cases hc7
   skip
   refine wp_skip ?_
   refine k14 _ _ ?_
   replace H:=H.keep [1,2,16,17,18] rfl
   refine sO H<|sd (aL G G (by unfold i64ok;omega))<|sr 1 rfl<|sE ?_;clear H a;intro a H
   exact k11 (g1-1) (k+1) a _ (by omega) (by first|exact ⟨by omega,by omega,fQ (f:=tskB y l) hp.2.2 (sB hB)⟩|exact ⟨by omega,by omega,fQ (f:=tskB y l) hp.2.2 (sC hB hc8)⟩) (S.sel [1] G G) (H.keep [18,1,2,16,17] rfl)
  skip
  replace H:=H.keep [1,2,6,7,16,17,18] rfl
  replace S:=S.drew
  refine seq_wq [(0,true),(1,true),(2,true),(3,true),(4,true),(5,false),(6,true),(7,true),(8,true),(9,true),(10,true),(11,true),(12,true),(13,true),(14,false),(15,true),(16,true),(17,true),(18,true),(19,true),(20,false),(21,true),(22,true),(23,true),(24,true),(25,true),(26,true),(27,true),(28,true),(29,true),(30,true),(31,true),(32,true),(33,false),(34,true),(35,true),(36,true)] (by kernel_rfl) (by kernel_rfl) (S.sel [0,1] G G) fun K24 k24=>?_
  refine qF H<|qd rfl (fun _ S=>(aC eR rfl))<|qd rfl (fun _ S=>aH aE rfl (boxM.rd S (i:=0) G G))<|qd rfl (fun _ S=>(aC dA rfl))<|qd rfl (fun _ S=>aH aE rfl (boxM.rd S (i:=1) G G))<|qd rfl (fun _ S=>aR G G (by unfold i64ok;omega))<|qK ?_;clear H a;intro a H
  refine aT rfl ?_
  refine aA H G G Try.func54 G G (bH _ _ _ _) ?_;clear H a
  rintro _ _ a ⟨rfl,rfl⟩ H
  refine wpList_nil (And.intro (S.sel [0,1] G G) ?_)
  refine qF H<|qd rfl (fun _ S=>dJ rfl (by omega))<|qr 1 rfl<|qK ?_;clear H a;intro a H
  refine aG H G G G G (fun _ S=>(aC fL rfl)) ?_;clear H a;intro a H
  refine aG H G G G G (fun _ S=>aH aE rfl (boxM.rd S (i:=0) G G)) ?_;clear H a;intro a H
  refine aG H G G G G (fun _ S=>(aC dM rfl)) ?_;clear H a;intro a H
  refine aG H G G G G (fun _ S=>aH eK rfl (boxM.rd S (i:=1) G G)) ?_;clear H a;intro a H
  refine aG H G G G G (fun _ S=>cP gO rfl) ?_;clear H a;intro a H
  refine aG H G G G G (fun _ S=>aR G G (by unfold i64ok;omega)) ?_;clear H a;intro a H
  refine aT rfl ?_
  refine aW H G G ?_
  refine aA H G G Try.func54 G G (bH _ _ _ _) ?_;clear H a
  rintro _ _ a ⟨rfl,rfl⟩ H
  refine wpList_nil (And.intro (S.sel [0,1] G G) ?_)
  refine aG H G G G G (fun _ S=>dJ rfl (by omega)) ?_;clear H a;intro a H
  refine qF H<|qd rfl (fun _ S=>(aV G G G))<|qr 1 rfl<|qK ?_;clear H a;intro a H
  refine aG H G G G G (fun _ S=>(aC jB rfl)) ?_;clear H a;intro a H
  refine aG H G G G G (fun _ S=>aH aE rfl (boxM.rd S (i:=0) G G)) ?_;clear H a;intro a H
  refine aT rfl ?_
  refine aW H G G ?_
  refine aA H G G Try.func54 G G (bH _ _ _ _) ?_;clear H a
  rintro _ _ a ⟨rfl,rfl⟩ H
  refine wpList_nil (And.intro (S.sel [0,1] G G) ?_)
  refine aG H G G G G (fun _ S=>dJ rfl (by omega)) ?_;clear H a;intro a H
  refine qF H<|qd rfl (fun _ S=>(aV G G G))<|qr 1 rfl<|qK ?_;clear H a;intro a H
  refine aG H G G G G (fun _ S=>aM rfl) ?_;clear H a;intro a H
  refine aG H G G G G (fun _ S=>rM G G (by omega)) ?_;clear H a;intro a H
  refine aG H G G G G (fun _ S=>aM rfl) ?_;clear H a;intro a H
  refine aG H G G G G (fun _ S=>aM rfl) ?_;clear H a;intro a H
  refine aG H G G G G (fun _ S=>aM rfl) ?_;clear H a;intro a H
  refine aG H G G G G (fun _ S=>aR G G (by unfold i64ok;omega)) ?_;clear H a;intro a H
  refine aG H G G G G (fun _ S=>bO nV jN G G (hl.adr (by omega)) (by omega) (by omega)) ?_;clear H a;intro a H
  refine aG H G G G G (fun _ S=>(aU oR jN rfl S hl (by omega) (by omega))) ?_;clear H a;intro a H
  refine aG H G G G G (fun _ S=>(aB oR jN rfl S (i:=0) G G)) ?_;clear H a;intro a H
  refine aT rfl ?_
  refine aW H G G ?_
  refine aA H G G Try.func86 G G (Co (l.getD ((k:Int)-1).toNat Tsk.zero) (l.getD k Tsk.zero) _) ?_;clear H a
  rintro _ _ a ⟨rfl,S2⟩ H
  replace S:=S.call S2;clear S2
  refine wpList_nil (And.intro (S.sel [0,1] G G) ?_)
  refine aG H G G G G (fun _ S=>cF rfl) ?_;clear H a;intro a H
  refine aG H G G G G (fun _ S=>(iV G G G)) ?_;clear H a;intro a H
  refine qF H<|qd rfl (fun _ S=>(aV G G G))<|qK ?_;clear H a;intro a H
  refine bJ ?_
  refine k24 _ _ ?_
  clear k24 K24
  refine cond_ H rfl (fun hc8=>?_) (fun hc8=>?_)
  ·skip
   try simp only [o1,o2,o3,o4,o5,o6,o7,o8,o9,oa] at hc8
   replace hc8:befB (l.getD ((k:Int)-1).toNat Tsk.zero) (l.getD k Tsk.zero)=false:=by simpa using hc8
   replace H:=H.keep [] rfl
   refine sS H fun K25 k25=>sr 1 rfl<|sE ?_;clear H a;intro a H
   refine k25 _ ?_;clear k25 K25
   refine wp_ret ?_
   refine ret1 (fn:=Try.f53) rfl H rfl ?_
   rw [lB hye (by omega) (show k<l.length by omega) (Gk hB hc8)];exact ⟨rfl,(S.sel [] G G)⟩
  try simp only [o1,o2,o3,o4,o5,o6,o7,o8,o9,oa] at hc8
  replace hc8:befB (l.getD ((k:Int)-1).toNat Tsk.zero) (l.getD k Tsk.zero)=true:=by simpa using hc8
  refine wp_skip ?_
  refine k14 _ _ ?_
  refine sO H<|sd (aL G G (by unfold i64ok;omega))<|sr 1 rfl<|sE ?_;clear H a;intro a H
  exact k11 (g1-1) (k+1) a _ (by omega) (by first|exact ⟨by omega,by omega,fQ (f:=tskB y l) hp.2.2 (sB hB)⟩|exact ⟨by omega,by omega,fQ (f:=tskB y l) hp.2.2 (sC hB hc8)⟩) (S.sel [1] G G) (H.keep [18,1,2,16,17] rfl)
 refine wp_exit ?_
 refine k9 _ _ ?_
 refine sS H fun K27 k27=>sr 1 rfl<|sE ?_;clear H a;intro a H
 refine k27 _ ?_;clear k27 K27
 refine wp_ret ?_
 refine ret1 (fn:=Try.f53) rfl H rfl ?_
 rw [wD hye (by omega) (cI.2 fun q hq=>hp.2.2 q (by omega))];exact ⟨rfl,(S.sel [] G G)⟩
end
section
theorem six {p:Nat→Prop} (h0:p 0) (h1:p 1) (h2:p 2) (h3:p 3) (h4:p 4) (h5:p 5):∀ j,j<6→p j:=by
  intro j hj
  match j,hj with
  | 0,_=>exact h0
  | 1,_=>exact h1
  | 2,_=>exact h2
  | 3,_=>exact h3
  | 4,_=>exact h4
  | 5,_=>exact h5
theorem qW {l:List Use} {x:Use} {vs:List Value} (h:∀ j,j<6→vs.getD j undef=x.cell j):∀ q j,q<l.length+1→j<6→capp l.length (ucell l) (fun k' j=>([vs].getD k' []).getD j undef) q j=ucell (l++[x]) q j:=by
  intro q j hq hj
  unfold capp ucell
  by_cases h1:q<l.length
  · rw [if_pos h1,List.getD_eq_getElem?_getD,List.getD_eq_getElem?_getD,List.getElem?_append_left h1]
  · rw [if_neg h1]
    have e:q=l.length:=by omega
    subst e
    rw [Nat.sub_self,List.getD_eq_getElem?_getD (l:=l++[x]),List.getElem?_append_right (Nat.le_refl _),Nat.sub_self]
    exact h j hj
theorem Jw {w:World} {p:Part} {l:List Use} {v:Value} {w':World} (h:v = .tuple #[.int .i64 (cD p l Prod.snd).1,.int .i64 (cD p l Prod.snd).2]∧St w noF [] w'):∃ n e:Int,v = .tuple #[.int .i64 n,.int .i64 e]∧bydB p l=(!decide (e=0)||decide (0≤n))∧St w noF [] w':=⟨_,_,h.1,rfl,h.2⟩
theorem Gm {w:World} {F:Nat→Prop} {sz n:Nat} {A:Option Addr} {cell:Nat→Nat→Value} (h:InS w F sz A n cell):A=none→n=0∧n=0:=fun e=>by
  rcases Nat.eq_zero_or_pos n with h0|h0
  · exact ⟨h0,h0⟩
  · obtain ⟨b,o,h1,_⟩:=h h0
    rw [e] at h1;cases h1
theorem Cp (u:Unt) (l:List Use) (LA:Option Addr) (lc:Nat) (age:Int) (w:World) (hur:InS w noF 2 u.RA u.rates.length (scell u.rates)) (hurn:u.rates.length≤9223372036854775807) (huu:InS w noF 6 u.UA u.uses.length (ucell u.uses)) (huun:u.uses.length≤9223372036854775807) (hl:InS w noF 6 LA l.length (ucell l)) (hln:l.length≤1000000) (hlc:l.length≤lc) :
    Calls Try.prog 109 [.agg [.int .i64 u.mach,.int .i64 u.every,.int .i64 u.seen,.slice u.RA u.rates.length u.rc,.int .i64 u.worn,.int .i64 u.turns,.int .i64 u.age,.slice u.UA u.uses.length u.uc,.int .i64 u.old,.int .i64 u.tn,.int .i64 u.cl,.int .i64 u.kind].toArray,.slice LA l.length lc,.int .i64 age].toArray w (Ret (fun v w'=>v = .bool (bydB u.part (l++[⟨age,u.tn,u.cl,false,0,0⟩]))∧St w noF [] w')):=by
 refine enter Try.func109 rfl Try.ntmps109 rfl (fun a H=>?_)
 have S:=St.start w
 refine seq_list fun K1 k1=>?_
 refine aQ H rfl S G G ?_;clear H a S;intro b3 _ a hb3 hbw3 S H
 refine ls 1 H<|sr 1 rfl<|sE ?_;clear H a;intro a H
 refine k1 _ _ ?_;clear k1 K1
 replace H:=H.keep [1,2,3] rfl
 refine seq_list fun K2 k2=>?_
 refine ls 6 H<|sr 1 rfl<|sf kT rfl<|sl S 0 aE G G G<|sf mR rfl<|sl S 0 aE G G G<|sd (aP Lo G G)<|sE ?_;clear H a;intro a H
 refine aI H rfl S jX ?_;clear H a S;intro b7 _ a hb7 hbw7 S H
 refine aD H S (i:=0) G G G G cW G G ?_
 clear H a S;intro _ a S H
 refine k2 _ _ ?_;clear k2 K2
 replace H:=H.keep [1,3,7] rfl
 replace S:=S.drew
 refine seq_wt 999999 (.q 0 (.q 1 (.q 2 (.q 3 (.q 4 (.q 5 (.q 6 (.q 7 (.q 8 (.e 9 (.e 10 (.e 11 (.q 12 (.q 13 (.q 14 (.q 15 (.q 16 .nil))))))))))))))))) (by kernel_rfl) (by kernel_rfl) (S.sel [0,1] G G) fun K3 k3=>?_
 refine aF H G G (fun _ S=>(aC jP rfl)) ?_;clear H a;intro a H
 refine aF H G G (fun _ S=>(aB cU dR rfl S (i:=1) G G)) ?_;clear H a;intro a H
 refine aF H G G (fun _ S=>aM rfl) ?_;clear H a;intro a H
 refine aF H G G (fun _ S=>aM rfl) ?_;clear H a;intro a H
 refine aF H G G (fun _ S=>cP cG rfl) ?_;clear H a;intro a H
 refine aF H G G (fun _ S=>aM rfl) ?_;clear H a;intro a H
 refine aF H G G (fun _ S=>cP cG rfl) ?_;clear H a;intro a H
 refine aF H G G (fun _ S=>oN cG cW G G G hlc) ?_;clear H a;intro a H
 refine aF H G G (fun _ S=>(aB jK cW rfl S (i:=0) G G)) ?_;clear H a;intro a H
 refine aK rfl ?_
 refine bD H rfl S cG cW jX G G G G G G G G G ?_;clear H a S;intro A1 _ a hA1 S H
 refine wpList_nil (And.intro (Or.inr (S.sel [1,2] G G)) ?_)
 refine aK rfl ?_
 refine nF H rfl S cG cW jX En G G G G (n:=l.length) (cell:=ucell l) (cell':=_) (hl.now S) (Gm (hl.now S)) (by omega) (by omega) (ownM.inS S (i:=0) rfl) (iH (six G G G G G G)) (by omega) (by omega) ?_;clear H a S;intro A2 c2 _ a S H
 replace S:=S.recell (i:=0) rfl (cell':=ucell (l++[⟨age,u.tn,u.cl,false,0,0⟩])) (qW (x:=⟨age,u.tn,u.cl,false,0,0⟩) (six G G G G G G))
 refine wpList_nil (And.intro (Or.inr (S.sel [2,3] G G)) ?_)
 refine aK rfl ?_
 rw [show l.length+1=(l++[(⟨age,u.tn,u.cl,false,0,0⟩:Use)]).length by simp] at H S
 have hcl9:=eG (tY u.rates u.worn u.turns u.age u.RA u.rc (l++[⟨age,u.tn,u.cl,false,0,0⟩]) A2 c2 _ (hur.now S) hurn ((ownM.inS S (i:=0) rfl)) (by simp;omega)) (fun _ _ h=>Jw h)
 refine aA H G G Try.func123 G G hcl9 ?_;clear H a hcl9
 rintro _ _ a ⟨n9,e9,rfl,hb9,S2⟩ H
 replace S:=S.call S2;clear S2
 refine wpList_nil (And.intro (Or.inr (S.sel [2,3] G G)) ?_)
 refine aF H G G (fun _ S=>aM rfl) ?_;clear H a;intro a H
 refine aF H G G (fun _ S=>aN G G) ?_;clear H a;intro a H
 refine aF H G G (fun _ S=>aN G G) ?_;clear H a;intro a H
 refine aF H G G (fun _ S=>bE rfl) ?_;clear H a;intro a H
 refine aF H G G (fun _ S=>bE rfl) ?_;clear H a;intro a H
 refine bC ?_
 refine k3 _ _ ?_
 clear k3 K3
 replace H:=H.keep [8,9] rfl
 refine sS H fun K4 k4=>sr 3 rfl<|sg 2 2 33 35 false G G (fun hg3=>sy hg3<|sr 1 rfl<|sy hg3<|sr 1 rfl<|sz 2 G G G)<|so G G G<|sr 1 rfl<|sE ?_;clear H a;intro a H
 refine k4 _ ?_;clear k4 K4
 refine wp_ret ?_
 refine ret1 (fn:=Try.f109) rfl H rfl ?_
 exact ⟨congrArg Value.bool hb9.symm,(S.sel [] G G)⟩
theorem Jx (u:Unt) (J:Nat→Int) (dy:Nat) (w:World) (hur:InS w noF 2 u.RA u.rates.length (scell u.rates)) (hurn:u.rates.length≤9223372036854775807) (huu:InS w noF 6 u.UA u.uses.length (ucell u.uses)) (huun:u.uses.length≤9223372036854775807) (hucp:u.uses.length≤u.uc) (hui:untI u) (ho0:0≤u.old) (hJ:∀ d,0≤J d∧J d≤6) (hdy:dy≤20) :
    Calls Try.prog 87 [.agg [.int .i64 u.mach,.int .i64 u.every,.int .i64 u.seen,.slice u.RA u.rates.length u.rc,.int .i64 u.worn,.int .i64 u.turns,.int .i64 u.age,.slice u.UA u.uses.length u.uc,.int .i64 u.old,.int .i64 u.tn,.int .i64 u.cl,.int .i64 u.kind].toArray,.agg ((List.range 20).map fun k=>Value.int .i64 (J k)).toArray,.int .i64 (dy:Int)].toArray w (Ret (fun v w'=>v = .agg [.int .i64 (bsum (runB' u J) dy),.int .i64 (bsum (certB u J) dy)].toArray∧St w noF [] w')):=by
 have hmx:maxLen=9223372036854775807:=rfl
 unfold untI at hui
 refine enter Try.func87 rfl Try.ntmps87 rfl (fun a H=>?_)
 have S:=St.start w
 refine seq_list fun K1 k1=>?_
 refine aQ H rfl S G G ?_;clear H a S;intro b3 _ a hb3 hbw3 S H
 refine aQ H rfl S G G ?_;clear H a S;intro b4 _ a hb4 hbw4 S H
 refine aI H rfl S oJ ?_;clear H a S;intro b6 _ a hb6 hbw6 S H
 refine k1 _ _ ?_;clear k1 K1
 replace S:=Jl S (i:=1) rfl (by omega)
 refine seq_list fun K2 k2=>?_
 refine aI H rfl S oJ ?_;clear H a S;intro b7 _ a hb7 hbw7 S H
 refine k2 _ _ ?_;clear k2 K2
 replace H:=H.keep [2,3,4,6,7] rfl
 replace S:=S.drew
 refine sD H fun K3 k3=>sf eU rfl<|sl S 3 gT G G G<|sf mQ rfl<|sl S 3 aE G G G<|sd (gM rfl (by unfold i64ok;omega))<|sf oS rfl<|sl S 3 aE G G G<|sr 3 rfl<|sE ?_;clear H a;intro a H
 refine k3 _ ?_;clear k3 K3
 refine wp_seq_k fun K4 k4=>?_
 replace H:=H.keep [2,3,4,6,7,8,9,10] rfl
 refine sS H fun K5 k5=>sr 2 rfl<|sE ?_;clear H a;intro a H
 refine k5 _ ?_;clear k5 K5
 refine wp_block ?_
 replace S:=S.frz0
 refine loop_st (X:=Nat×LSt×Option Addr×Nat×(Nat→Prop)×World) (R0:=_) [3,4,6,7,21] H rfl (fun ⟨d,st,A9,c9,B9,wz⟩=>[(8,.slice A9 st.uses.length c9),(9,.int .i64 st.born),(10,.int .i64 st.seen),(22,.int .i64 (d:Int))]) (fun ⟨d,st,A9,c9,B9,wz⟩=>[boxM b7 86 [.int .i64 (bsum (runB' u J) d),.int .i64 (bsum (certB u J) d)],frzM B9 wz]) (fun g ⟨d,st,A9,c9,B9,wz⟩=>(d≤dy∧g+d=dy)∧(RdF w noF B9 wz 6 A9 st.uses.length (ucell st.uses)∧st.uses.length≤c9)∧st=lifeS u J d) (dy) (0,lifeS u J 0,u.UA,u.uc,noF,_) ?_ (S.sel [1,0,2,3,4] G G) (H.keep [8,9,10,22,3,4,6,7,21] rfl) ?_
 · exact ⟨⟨by omega,by omega⟩,⟨RdF.base huu,hucp⟩,rfl⟩
 clear H S a
 intro g1 x1 a w1 hp S H K6 k6
 obtain ⟨d,st,A9,c9,B9,wz⟩:=x1
 dsimp only at hp S H
 obtain ⟨⟨hdl,hgd⟩,⟨hrd,hcap⟩,hst9⟩:=hp
 subst hst9
 have hln:=Cg (u:=u) (J:=J) d
 have hbo:=yI (u:=u) (J:=J) (by omega) d
 have hsn:=yJ (u:=u) (J:=J) (by omega) d
 skip
 refine sS H fun K7 k7=>sr 1 rfl<|sE ?_;clear H a;intro a H
 refine k7 _ ?_;clear k7 K7
 refine wp_seq_k fun K8 k8=>?_
 refine condL H rfl (fun hc1=>?_) (fun hc1=>?_)
 ·skip
  refine wp_skip ?_
  refine k8 _ _ ?_
  refine wp_seq_k fun K9 k9=>?_
  refine wp_block ?_
  refine sS H fun K10 k10=>sr 2 rfl<|sE ?_;clear H a;intro a H
  refine k10 _ ?_;clear k10 K10
  have hJd:=hJ d
  replace H:=H.keep [3,4,6,7,8,9,10,11,21,22] rfl
  replace S:=S.drew
  refine sD H fun K11 k11=>sr 1 rfl<|sd (eQ Try.underlying174 bK G G (by omega) (by omega))<|slm aE rfl (ownM.rd S (i:=3) (k:=d) (j:=0) rfl (by omega) (by omega))<|sd (iC G G (by omega) (by omega))<|sd (gA G G)<|sr 2 rfl<|sd (eQ Try.underlying174 bK G G (by omega) (by omega))<|slm aE rfl (ownM.rd S (i:=3) (k:=d) (j:=0) rfl (by omega) (by omega))<|sd (iC G G (by omega) (by omega))<|sd (gA G G)<|sr 3 rfl<|sE ?_;clear H a;intro a H
  refine k11 _ ?_;clear k11 K11
  have SR:=(S.sel [0,1,2,3,4] G G)
  refine meet_sr (X:=Int) [3,4,6,7,8,9,11,13,21,22] H rfl (fun x=>[(10,.int .i64 x)]) (fun x=>[]) (fun x=>x=seenN (lifeS u J d) (J d) d) SR (fun K13 k13=>?_) ?_
  ·skip
   replace H:=H.keep [3,4,6,7,8,9,10,11,12,13,21,22] rfl
   refine sS H fun K14 k14=>sr 1 rfl<|sE ?_;clear H a;intro a H
   refine k14 _ ?_;clear k14 K14
   refine condE H rfl (fun hc2=>?_) (fun hc2=>?_)
   ·skip
    refine sO H<|sr 2 rfl<|sE ?_;clear H a;intro a H
    exact k13 _ a _ ((if_pos (show insp (J d)=true from decide_eq_true hc2)).symm) (S.sel [0,1,2,3,4] G G) (H.keep [10,3,4,6,7,8,9,11,13,21,22] rfl)
   refine wp_skip ?_
   exact k13 _ a _ ((if_neg (show ¬ insp (J d)=true from fun h=>hc2 (of_decide_eq_true h))).symm) (S.sel [0,1,2,3,4] G G) (H.keep [10,3,4,6,7,8,9,11,13,21,22] rfl)
  clear SR H S a
  intro xm a wm hp S H
  obtain ⟨x,rfl⟩:∃ y,y=xm:=⟨_,rfl⟩
  have hx9:=hp
  have hxb:=wJ (s:=(lifeS u J d)) (j:=J d) (d:=d) hsn
  rw [←hx9] at hxb
  have SR:=(S.sel [1,2,3,4] G G)
  refine meet_sr (X:=Unit) [3,4,6,7,8,9,10,11,13,21,22] H rfl (fun u3=>[]) (fun u3=>[boxM b7 86 [.int .i64 (bsum (runB' u J) d),.int .i64 (bsum (certB u J) (d+1))]]) (fun u3=>True) SR (fun K17 k17=>?_) ?_
  ·skip
   refine sS H fun K18 k18=>sr 2 rfl<|sd (aR G G (by unfold i64ok;omega))<|sf mP rfl<|sl S 4 aE G G G<|sr 1 rfl<|sE ?_;clear H a;intro a H
   refine k18 _ ?_;clear k18 K18
   refine condG H rfl (fun hc3=>?_) (fun hc3=>?_)
   ·skip
    replace H:=H.keep [3,4,6,7,8,9,10,11,13,21,22] rfl
    refine pG 6 (by kernel_rfl) (by kernel_rfl) ?_
    replace S:=S.drew
    refine sF H<|sf zK rfl<|sl S 0 aE G G G<|sr 1 rfl<|sd (eO G G (by omega) (by omega) (Fz (by omega)))<|sd (wI G G (rY _ (by omega)) (by omega) (Ae (Nat.le_refl d)))<|sf zK rfl<|sE ?_;clear H a;intro a H
    refine aD H S (i:=0) G G G G bK G G ?_
    clear H a S;intro _ a S H
    replace S:=boxM.same S (i:=0) rfl (cs':=[.int .i64 (bsum (runB' u J) d),.int .i64 (bsum (certB u J) (d+1))]) (by rw [←Ga (f:=certB u J) (n:=d) ((wL u J d x hx9).symm.trans (decide_eq_true hc3))] <;> rfl)
    exact k17 () a _ (trivial) (S.sel [0,1,2,3,4] G G) (H.keep [3,4,6,7,8,9,10,11,13,21,22] rfl)
   refine wp_skip ?_
   replace S:=boxM.same S (i:=0) rfl (cs':=[.int .i64 (bsum (runB' u J) d),.int .i64 (bsum (certB u J) (d+1))]) (by rw [←Gb (f:=certB u J) (n:=d) ((wL u J d x hx9).symm.trans (decide_eq_false (by omega)))] <;> rfl)
   exact k17 () a _ (trivial) (S.sel [0,1,2,3,4] G G) (H.keep [3,4,6,7,8,9,10,11,13,21,22] rfl)
  clear SR H S a
  intro xm a wm hp S H
  obtain ⟨u3,rfl⟩:∃ y,y=xm:=⟨_,rfl⟩
  skip
  have SR:=(S.sel [2,3,4] G G)
  refine meet_sr (X:=Option Addr×Nat×(Nat→Prop)×World) [3,4,6,7,9,10,11,13,21,22] H rfl (fun ⟨A8,c8,B8,wy⟩=>[(8,.slice A8 (usesN u J d).length c8)]) (fun ⟨A8,c8,B8,wy⟩=>[boxM b7 86 [.int .i64 (bsum (runB' u J) (d+1)),.int .i64 (bsum (certB u J) (d+1))],frzM B8 wy]) (fun ⟨A8,c8,B8,wy⟩=>RdF w noF B8 wy 6 A8 (usesN u J d).length (ucell (usesN u J d))∧(usesN u J d).length≤c8) SR (fun K21 k21=>?_) ?_
  ·skip
   replace H:=H.keep [3,4,6,7,8,9,10,11,13,21,22] rfl
   refine seq_list fun K22 k22=>?_
   refine ls 13 H<|sr 1 rfl<|sd (eQ Try.underlying174 bK G G (by omega) (by omega))<|slm aE rfl (ownM.rd S (i:=3) (k:=d) (j:=0) rfl (by omega) (by omega))<|sr 2 rfl<|sg 6 4 55 61 true G G (fun hg5=>sy hg5<|sr 1 rfl<|sy hg5<|sr 1 rfl<|sy hg5<|sd (aR G G (by unfold i64ok;omega))<|sy hg5<|sf mP rfl<|sy hg5<|sl S 4 aE G G G<|sy hg5<|sr 1 rfl<|sz 6 G G G)<|sa G G G<|sr 1 rfl<|sE ?_;clear H a;intro a H
   apply cA (i:=12) (g:=63) (t:=70) (b:=true) 7 H S G G (by kernel_rfl) (by kernel_rfl) G G
   case h1=>
    intro hg13
    refine ls 5 H<|sy hg13<|sd ((aB nS iM rfl S (i:=4) G G))<|sy hg13<|sr 1 rfl<|sy hg13<|sr 1 rfl<|sy hg13<|sr 1 rfl<|sy hg13<|sd (aR G G (by unfold i64ok;omega))<|sE ?_;intro a H
    refine cQ H G G (by assumption) ?_
    refine aA H G G Try.func109 G G (Cp u (lifeS u J d).uses A9 c9 ((d:Int)-(lifeS u J d).born) _ (hur.now S) hurn (huu.now S) huun (hrd.now S (i:=1) rfl) (by omega) hcap) ?_
    rintro _ _ a ⟨rfl,S2⟩ H
    replace S:=S.call S2;clear S2
    refine ls 1 H<|sy hg13<|sr 1 rfl<|sE ?_;intro a H
    exact wpList_nil ⟨H.strip 7 G G,(S.sel [0,1,2,3,4] G G)⟩
   clear H a S;intro a _ H S
   refine ls 1 H<|sa G G G<|sE ?_;clear H a;intro a H
   refine k22 _ _ ?_;clear k22 K22
   refine cond_ H rfl (fun hc4=>?_) (fun hc4=>?_)
   ·skip
    rw [Af u J d x hx9] at hc4
    replace H:=H.keep [3,4,6,7,8,9,10,11,13,21,22] rfl
    refine uT 6 (by kernel_rfl) (by kernel_rfl) fun K23 k23=>?_
    replace S:=S.drew
    refine sF H<|sf tL rfl<|sl S 0 aE G G G<|sr 1 rfl<|sd (eO G G (by omega) (by omega) (Fz (by omega)))<|sd (wI G G (rY _ (by omega)) (by omega) (Ae (Nat.le_refl d)))<|sf tL rfl<|sE ?_;clear H a;intro a H
    refine aD H S (i:=0) G G G G bK G G ?_
    clear H a S;intro _ a S H
    refine k23 _ _ ?_;clear k23 K23
    replace H:=H.keep [3,4,6,7,8,9,10,11,13,21,22] rfl
    replace S:=S.drew
    refine one_wq [(0,true),(1,true),(2,true),(3,true),(4,true),(5,true),(6,true),(7,true),(8,true),(9,true),(10,true),(11,true),(12,true),(13,true),(14,false),(15,false),(16,true)] (by kernel_rfl) (by kernel_rfl) (S.sel [0,1,2,3,4] G G) ?_
    refine qF H<|qr 2 rfl<|qd rfl (fun _ S=>cP cG rfl)<|qr 1 rfl<|qd rfl (fun _ S=>cP cG rfl)<|qd rfl (fun _ S=>oN cG cW G G G hcap)<|qr 2 rfl<|qd rfl (fun _ S=>aR G G (by unfold i64ok;omega))<|qd rfl (fun _ S=>(aC kT rfl))<|qd rfl (fun _ S=>aH aE rfl (boxM.rd S (i:=4) G G))<|qd rfl (fun _ S=>(aC mR rfl))<|qd rfl (fun _ S=>aH aE rfl (boxM.rd S (i:=4) G G))<|qd rfl (fun _ S=>aP Lo G G)<|qK ?_;clear H a;intro a H
    refine aT rfl ?_
    refine bD H rfl S cG cW jX G G G G G G G G G ?_;clear H a S;intro A1 _ a hA1 S H
    refine wpList_nil (And.intro (S.sel [1,2,3,4,5] G G) ?_)
    refine aT rfl ?_
    refine nF H rfl S cG cW jX En G G G G (n:=(lifeS u J d).uses.length) (cell:=ucell (lifeS u J d).uses) (cell':=_) (hrd.now S (i:=2) rfl) (Gm (hrd.now S (i:=2) rfl)) (by omega) (by omega) (ownM.inS S (i:=0) rfl) (iH (six G G G G G G)) (by omega) (by omega) ?_;clear H a S;intro A3 c3 _ a S H
    replace S:=S.recell (i:=0) rfl (cell':=ucell ((lifeS u J d).uses++[useAt u d (lifeS u J d).born])) (qW (x:=useAt u d (lifeS u J d).born) (six G G G G G G))
    refine wpList_nil (And.intro (S.sel [2,3,4,5,6] G G) ?_)
    refine qF H<|qr 1 rfl<|qK ?_;clear H a;intro a H
    refine bJ ?_
    replace S:=boxM.same S (i:=2) rfl (cs':=[.int .i64 (bsum (runB' u J) (d+1)),.int .i64 (bsum (certB u J) (d+1))]) (by rw [←Ga (f:=runB' u J) (n:=d) hc4] <;> rfl)
    replace S:=(S.sel [0,1,2,3,4,5,6] G G)
    have hle3:=ownM.le S (i:=0) rfl
    obtain ⟨B2,S,hA2,_⟩:=St.freeze S (i:=2) rfl
    rw [show (lifeS u J d).uses.length+1=(usesN u J d).length by unfold usesN;rw [if_pos hc4];simp] at H
    exact k21 (A3,c3,B2,_) a _ (⟨by rw [Ag hc4,List.length_append];exact hA2,by rw [Ag hc4,List.length_append];exact hle3.1⟩) (S.sel [1,2,3,4,5] G G) (H.keep [8,3,4,6,7,9,10,11,13,21,22] rfl)
   rw [Af u J d x hx9] at hc4
   refine wp_skip ?_
   replace S:=boxM.same S (i:=0) rfl (cs':=[.int .i64 (bsum (runB' u J) (d+1)),.int .i64 (bsum (certB u J) (d+1))]) (by rw [←Gb (f:=runB' u J) (n:=d) hc4] <;> rfl)
   rw [←uC hc4] at H
   exact k21 (A9,c9,B9,wz) a _ (⟨by rw [uC hc4];exact hrd,by rw [uC hc4];exact hcap⟩) (S.sel [0,1,2,3,4] G G) (H.keep [8,3,4,6,7,9,10,11,13,21,22] rfl)
  clear SR H S a
  intro xm a wm hp S H
  obtain ⟨A8,c8,B8,wy⟩:=xm
  rw [show Value.bool (decide (J d/2^(2:Int).toNat%2=1))=Value.bool (renw (J d)) from rfl] at H
  replace H:=H.keep [3,4,6,7,8,9,10,11,13,21,22] rfl
  refine sS H fun K25 k25=>sr 1 rfl<|sE ?_;clear H a;intro a H
  refine k25 _ ?_;clear k25 K25
  refine cond_ H rfl (fun hc5=>?_) (fun hc5=>?_)
  ·skip
   skip
   refine sO H<|sr 3 rfl<|sE ?_;clear H a;intro a H
   refine k9 _ _ ?_
   refine sO H<|sd (aL G G (by unfold i64ok;omega))<|sr 1 rfl<|sE ?_;clear H a;intro a H
   have hp8:=hp
   exact k6 (g1-1) (d+1,⟨[],(d:Int),x⟩,none,0,B8,wy) a _ (by omega) (⟨⟨by omega,by omega⟩,⟨RdF.nil,Nat.le_refl 0⟩,Nc hc5 hx9⟩) (S.sel [0,1,2,3,4] G G) (H.keep [8,9,10,22,3,4,6,7,21] rfl)
  skip
  refine wp_skip ?_
  refine k9 _ _ ?_
  refine sO H<|sd (aL G G (by unfold i64ok;omega))<|sr 1 rfl<|sE ?_;clear H a;intro a H
  have hp8:=hp
  exact k6 (g1-1) (d+1,⟨usesN u J d,(lifeS u J d).born,x⟩,A8,c8,B8,wy) a _ (by omega) (⟨⟨by omega,by omega⟩,hp8,Nd hc5 hx9⟩) (S.sel [0,1,2,3,4] G G) (H.keep [8,9,10,22,3,4,6,7,21] rfl)
 refine wp_exit ?_
 refine k4 _ _ ?_
 replace H:=H.keep [6,7] rfl
 refine seq_list fun K29 k29=>?_
 refine ls 1 H<|sd ((aB iR fG rfl S (i:=0) G G))<|sE ?_;clear H a;intro a H
 refine aD H S (i:=2) G G G G fG G G ?_
 clear H a S;intro _ a S H
 refine k29 _ _ ?_;clear k29 K29
 refine wp_ret ?_
 refine retA (fn:=Try.f87) rfl H rfl iR (by exact fG) (cL S (i:=2) rfl) ?_
 obtain rfl:d=dy:=by omega
 exact ⟨rfl,(S.sel [] G G)⟩
end
section
theorem keyOK:KeyOk Try.prog 176 (encN (n:=21)):=
  Jf (Fy Try.underlying176 pP (.cons (by decide) rfl (PartK.int2 Try.underlying3 aE) (.cons (by decide) rfl (PartK.of (Fx Try.underlying174 Ec (PartK.int Try.underlying3 aE) bK)) (.nil 21))) (by kernel_rfl)) (by omega) (by rw [Try.underlying176])
theorem YIn.nowR {w w0:World} {F0:Nat→Prop} {R:List Mem} {y:Yr} (h:YIn w0 F0 y) (S:St w0 F0 R w):YIn w (fps R) y:=
  ⟨h.ps.nowR S,h.xs.nowR S,h.pe.nowR S,h.prs.nowR S,h.us.nowR S,h.sps.nowR S,fun k hk=>(h.rt k hk).nowR S,fun k hk=>(h.ul k hk).nowR S⟩
theorem YOk.days {y:Yr} (h:YOk y):1≤y.days∧y.days≤20:=h.yr.1
theorem YOk.unit {y:Yr} (h:YOk y) {i:Nat} (hi:i<y.us.length):UntOk y.ps y.us (y.us.getD i Unt.zero) i:=qR.1 (h.un i hi)
theorem YOk.old {y:Yr} (h:YOk y) {i:Nat} (hi:i<y.us.length):0≤(y.us.getD i Unt.zero).old:=by
  have h1:=h.unit hi
  have h2:=qU h1.wear
  have h3:=h1.i
  unfold untI at h3
  omega
theorem Jy (y:Yr) (w:World) :
    Calls Try.prog 55 [.agg [.int .i64 y.days,.int .i64 y.pl,.slice y.PA y.ps.length y.pc,.slice y.XA y.xs.length y.xc,.slice y.BA y.pe.length y.bc,.int .i64 y.limit,.bool y.help,.slice y.QA y.prs.length y.qc,.slice y.VA y.us.length y.vc,.int .i64 y.crew,.slice y.SA y.sps.length y.sc].toArray].toArray w (Ret (fun v w'=>∃ cb bl bs bk,v = .pointer (some ⟨cb,0,none⟩)∧St w noF [boxM cb 173 [.int .i64 y.days,.int .i64 y.pl,.slice y.PA y.ps.length y.pc,.slice y.XA y.xs.length y.xc,.slice y.BA y.pe.length y.bc,.int .i64 y.limit,.bool y.help,.slice y.QA y.prs.length y.qc,.slice y.VA y.us.length y.vc,.int .i64 y.crew,.slice y.SA y.sps.length y.sc,.map (some bl),.map (some bs),.map (some bk)],mapK (encN (n:=21)) bl (livP y),mapK (fun n:Int=>Value.int .i64 n) bs (safP y),mapK enc2 bk (kepP y)] w')):=by
 refine enter Try.func55 rfl Try.ntmps55 rfl (fun a H=>?_)
 have S:=St.start w
 refine seq_list fun K1 k1=>?_
 refine aQ H rfl S G G ?_;clear H a S;intro b1 _ a hb1 hbw1 S H
 refine ls 1 H<|sr 1 rfl<|sE ?_;clear H a;intro a H
 refine k1 _ _ ?_;clear k1 K1
 refine seq_list fun K2 k2=>?_
 refine ls 1 H<|sd ((aB fJ iL rfl S (i:=0) G G))<|sE ?_;clear H a;intro a H
 refine gK (encN (n:=21)) (livP y) Ck H rfl S ?_;clear H a S;intro bl _ a hbl S H
 refine gK (fun n:Int=>Value.int .i64 n) (safP y) Cl H rfl S ?_;clear H a S;intro bs _ a hbs S H
 refine gK enc2 (kepP y) Cm H rfl S ?_;clear H a S;intro bk _ a hbk S H
 refine ls 1 H<|sd (aP Mi G G)<|sE ?_;clear H a;intro a H
 refine aQ H rfl S G G ?_;clear H a S;intro b8 _ a hb8 hbw8 S H
 refine ls 1 H<|sr 1 rfl<|sE ?_;clear H a;intro a H
 refine k2 _ _ ?_;clear k2 K2
 refine wp_ret ?_
 refine ret1 (fn:=Try.f55) rfl H rfl ?_
 exact ⟨b8,bl,bs,bk,rfl,(S.sel [0,3,2,1] G G)⟩
theorem Gn (y:Yr) (cb bl bs bk:Nat) (i:Nat) (l:List Tsk) (LA:Option Addr) (lc:Nat) (w:World) (F:Nat→Prop) (S:St w F [boxM cb 173 [.int .i64 y.days,.int .i64 y.pl,.slice y.PA y.ps.length y.pc,.slice y.XA y.xs.length y.xc,.slice y.BA y.pe.length y.bc,.int .i64 y.limit,.bool y.help,.slice y.QA y.prs.length y.qc,.slice y.VA y.us.length y.vc,.int .i64 y.crew,.slice y.SA y.sps.length y.sc,.map (some bl),.map (some bs),.map (some bk)],mapK (encN (n:=21)) bl (livP y),mapK (fun n:Int=>Value.int .i64 n) bs (safP y),mapK enc2 bk (kepP y)] w) (hy:YIn w F y) (hyb:YBd y) (hok:YOk y) (hi:i<y.us.length) (hl:InS w F 3 LA l.length (yF l)) (hln:l.length≤9223372036854775807) (htk:∀ k,k<l.length→tskI y (l.getD k Tsk.zero)) :
    Calls Try.prog 56 [.pointer (some ⟨cb,0,none⟩),.int .i64 (i:Int),.slice LA l.length lc].toArray w (Ret (fun v w'=>v=lifeV (y.us.getD i Unt.zero) (jobF l i) y.days.toNat∧St w F [boxM cb 173 [.int .i64 y.days,.int .i64 y.pl,.slice y.PA y.ps.length y.pc,.slice y.XA y.xs.length y.xc,.slice y.BA y.pe.length y.bc,.int .i64 y.limit,.bool y.help,.slice y.QA y.prs.length y.qc,.slice y.VA y.us.length y.vc,.int .i64 y.crew,.slice y.SA y.sps.length y.sc,.map (some bl),.map (some bs),.map (some bk)],mapK (encN (n:=21)) bl (livP y),mapK (fun n:Int=>Value.int .i64 n) bs (safP y),mapK enc2 bk (kepP y)] w')):=by
 have hmx:maxLen=9223372036854775807:=rfl
 have hdy:=hok.days;have husn:=hyb.usn
 have hD:((y.days.toNat:Nat):Int)=y.days:=by omega
 refine enter Try.func56 rfl Try.ntmps56 rfl (fun a H=>?_)
 skip
 refine seq_list fun K1 k1=>?_
 refine aI H rfl S oJ ?_;clear H a S;intro b6 _ a hb6 hbw6 S H
 refine k1 _ _ ?_;clear k1 K1
 refine seq_list fun K2 k2=>?_
 refine ls 2 H<|sr 1 rfl<|sd (aP Mj G G)<|sE ?_;clear H a;intro a H
 refine aI H rfl S Et ?_;clear H a S;intro b7 _ a hb7 hbw7 S H
 refine aD H S (i:=0) G G G G pP G G ?_
 clear H a S;intro _ a S H
 refine k2 _ _ ?_;clear k2 K2
 refine wp_seq_k fun K3 k3=>?_
 replace S:=boxM.same S (i:=0) rfl (cs':=[.int .i64 (i:Int),.int .i64 0,.int .i64 0,.int .i64 0,.int .i64 0,.int .i64 0,.int .i64 0,.int .i64 0,.int .i64 0,.int .i64 0,.int .i64 0,.int .i64 0,.int .i64 0,.int .i64 0,.int .i64 0,.int .i64 0,.int .i64 0,.int .i64 0,.int .i64 0,.int .i64 0,.int .i64 0]) rfl
 replace S:=Gc S (i:=0) rfl (by show 21≤maxLen;decide)
 replace S:=S.recell (i:=0) rfl (cell':=kcl i (jobP l 0 i)) (fun k j hk hj=>Gg hk hj)
 refine sS H fun K4 k4=>sr 1 rfl<|sL nV rfl<|sr 1 rfl<|sE ?_;clear H a;intro a H
 refine k4 _ ?_;clear k4 K4
 refine wp_block ?_
 refine loop_st (X:=Nat) (R0:=_) [0,1,6,7,14,15] H rfl (fun k=>[(16,.int .i64 (k:Int))]) (fun k=>[ownM 176 1 (some ⟨b7,0,none⟩) 21 21 (kcl i (jobP l k i))]) (fun g k=>k≤l.length∧g+k=l.length) (l.length) 0 ?_ (S.sel [0,1,2,3,4,5] G G) (H.keep [16,0,1,6,7,14,15] rfl) ?_
 · exact ⟨by omega,by omega⟩
 clear H S a
 intro g1 x1 a w1 hp S H K5 k5
 obtain ⟨k,rfl⟩:∃ y,y=x1:=⟨_,rfl⟩
 refine sS H fun K6 k6=>sr 1 rfl<|sE ?_;clear H a;intro a H
 refine k6 _ ?_;clear k6 K6
 refine wp_seq_k fun K7 k7=>?_
 refine condL H rfl (fun hc1=>?_) (fun hc1=>?_)
 ·skip
  refine wp_skip ?_
  refine k7 _ _ ?_
  refine wp_seq_k fun K8 k8=>?_
  refine wp_block ?_
  refine seq_list fun K9 k9=>?_
  refine ls 2 H<|si nV jN G G (hl.adr (by omega)) (by omega)<|sd ((aU oR jN rfl S hl (by omega) (by omega)))<|sE ?_;clear H a;intro a H
  refine aI H rfl S Es ?_;clear H a S;intro b9 _ a hb9 hbw9 S H
  refine aD H S (i:=0) G G G G jN G G ?_
  clear H a S;intro _ a S H
  refine k9 _ _ ?_;clear k9 K9
  have htt:=htk k (by omega);unfold tskI at htt
  refine sS H fun K10 k10=>sf fL rfl<|sl S 0 aE G G G<|sr 2 rfl<|sE ?_;clear H a;intro a H
  refine k10 _ ?_;clear k10 K10
  refine condE H rfl (fun hc2=>?_) (fun hc2=>?_)
  ·skip
   replace H:=H.keep [0,1,6,7,9,14,15,16] rfl
   refine pG 11 (by kernel_rfl) (by kernel_rfl) ?_
   replace S:=S.drew
   refine sF H<|sf eR rfl<|sl S 0 aE G G G<|sf pV rfl<|sd ((eQ Try.underlying174 bK G G (by omega) (by omega)).to (v' := .pointer (some (pt (some ⟨b7,0,none⟩) 1 ((l.getD k Tsk.zero).day.toNat+1) 0))) (congrArg (fun o=>Value.pointer (some ⟨b7,o,none⟩)) (show 0+1+(l.getD k Tsk.zero).day.toNat*1=0+((l.getD k Tsk.zero).day.toNat+1)*1+0 by omega)))<|slm aE rfl (ownM.rd S (i:=1) (k:=(l.getD k Tsk.zero).day.toNat+1) (j:=0) rfl (by omega) (by omega))<|sf jB rfl<|sl S 0 aE G G G<|sd (eO G G (by omega) (by omega) (Jp htt.2.2))<|sd (Gd G G (Ch _ _ _) (by omega))<|sf pV rfl<|sd ((eQ Try.underlying174 bK G G (by omega) (by omega)).to (v' := .pointer (some (pt (some ⟨b7,0,none⟩) 1 ((l.getD k Tsk.zero).day.toNat+1) 0))) (congrArg (fun o=>Value.pointer (some ⟨b7,o,none⟩)) (show 0+1+(l.getD k Tsk.zero).day.toNat*1=0+((l.getD k Tsk.zero).day.toNat+1)*1+0 by omega)))<|sE ?_;clear H a;intro a H
   refine dO H S (i:=1) G G G (by omega) (by omega) bK rfl ?_
   clear H a S;intro _ a S H
   refine k8 _ _ ?_
   replace H:=H.keep [0,1,6,7,14,15,16] rfl
   refine sO H<|sd (aL G G (by unfold i64ok;omega))<|sr 1 rfl<|sE ?_;clear H a;intro a H
   replace S:=S.recell (i:=1) rfl (cell':=kcl i (jobP l (k+1) i)) (fun k9 j9 hk9 hj9=>Jr (d:=(l.getD k Tsk.zero).day.toNat) (by omega) htt.2.2 (by omega) (by omega) k9 j9 hj9)
   exact k5 (g1-1) (k+1) a _ (by omega) (⟨by omega,by omega⟩) (S.sel [1,2,3,4,5,6] G G) (H.keep [16,0,1,6,7,14,15] rfl)
  refine wp_skip ?_
  refine k8 _ _ ?_
  refine sO H<|sd (aL G G (by unfold i64ok;omega))<|sr 1 rfl<|sE ?_;clear H a;intro a H
  rw [←Jq (l:=l) (n:=k) (i:=i) (by omega) htt.2.2 (by omega)] at S
  exact k5 (g1-1) (k+1) a _ (by omega) (⟨by omega,by omega⟩) (S.sel [1,2,3,4,5,6] G G) (H.keep [16,0,1,6,7,14,15] rfl)
 refine wp_exit ?_
 refine k3 _ _ ?_
 obtain rfl:k=l.length:=by omega
 rw [Gf] at S
 replace S:=Jo S (i:=0) rfl
 obtain ⟨h0,hh0,S⟩:=mapK.fix S (i:=3) rfl
 rcases hk0:h0 (keyOf i (jobF l i)) with _|v0
 ·skip
  skip
  replace H:=H.keep [0,1,6,7] rfl
  replace S:=S.drew
  refine seq_wq [(0,true),(1,true),(2,true),(3,true),(4,true),(5,true),(6,true),(7,true),(8,true),(9,false),(10,false),(11,true)] (by kernel_rfl) (by kernel_rfl) (S.sel [0,1,2,3,4,5] G G) fun K14 k14=>?_
  refine qF H<|qr 2 rfl<|qd rfl (fun _ S=>(aC pU rfl))<|qd rfl (fun _ S=>aH tG rfl (boxM.rd S (i:=2) G G))<|qd rfl (fun _ S=>(aB tH pP rfl S (i:=0) G G))<|qd rfl (fun _ S=>kJ S (i:=3) rfl xR keyOK Lp rfl (k:=keyOf i (jobF l i)) rfl (fun h e=>by subst e;rw [hk0];exact ⟨rfl,rfl⟩))<|qr 3 rfl<|qK ?_;clear H a;intro a H
  refine aT rfl ?_
  refine aI H rfl S oJ ?_;clear H a S;intro b10 _ a hb10 hbw10 S H
  refine wpList_nil (And.intro (S.sel [1,2,3,4,5,6] G G) ?_)
  refine aT rfl ?_
  refine aD H S (i:=0) G G G G fG G G ?_
  clear H a S;intro _ a S H
  refine wpList_nil (And.intro (S.sel [1,2,3,4,5,6] G G) ?_)
  refine qF H<|qr 1 rfl<|qK ?_;clear H a;intro a H
  refine bJ ?_
  refine k14 _ _ ?_
  clear k14 K14
  refine wp_seq_k fun K15 k15=>?_
  replace H:=H.keep [0,1,6,7,10,11] rfl
  refine sS H fun K16 k16=>sr 2 rfl<|sE ?_;clear H a;intro a H
  refine k16 _ ?_;clear k16 K16
  refine cond_ H rfl (fun hc3=>?_) (fun hc3=>?_)
  ·skip
   skip
   replace H:=H.keep [0,1,6,7,10] rfl
   replace S:=S.drew
   refine seq_wq [(0,true),(1,true),(2,true),(3,true),(4,true),(5,true),(6,true),(7,true),(8,true),(9,true),(10,true),(11,true),(12,true),(13,true),(14,true),(15,false),(16,false)] (by kernel_rfl) (by kernel_rfl) (S.sel [1,2,3,4,5,6] G G) fun K17 k17=>?_
   refine qF H<|qr 2 rfl<|qd rfl (fun _ S=>(aC vI rfl))<|qd rfl (fun _ S=>(aC dM rfl))<|qd rfl (fun _ S=>aH eK rfl (boxM.rd S (i:=2) G G))<|qr 1 rfl<|qd rfl (fun _ S=>fF gO iM G G (hy.us.adr (by omega)) (by omega))<|qd rfl (fun _ S=>(aU nS iM rfl S hy.us (by omega) (by omega)))<|qd rfl (fun _ S=>(aC pV rfl))<|qd rfl (fun _ S=>(aB Ip Ec rfl S (i:=0) G G))<|qr 2 rfl<|qd rfl (fun _ S=>(aC vI rfl))<|qd rfl (fun _ S=>(aC dA rfl))<|qd rfl (fun _ S=>aH aE rfl (boxM.rd S (i:=2) G G))<|qK ?_;clear H a;intro a H
   refine aT rfl ?_
   rw [←hD] at H
   refine aA H G G Try.func87 G G (Jx (y.us.getD i Unt.zero) (jobF l i) y.days.toNat _ ((hy.rt i hi).now S) (hyb.rtn hi) ((hy.ul i hi).now S) (hyb.uln hi) (hyb.cap i hi) (hok.unit hi).i (hok.old hi) (fun d=>Jm _ _ _) (by omega)) ?_;clear H a
   rintro _ _ a ⟨rfl,S2⟩ H
   replace S:=S.call S2;clear S2
   refine wpList_nil (And.intro (S.sel [1,2,3,4,5,6] G G) ?_)
   refine aT rfl ?_
   refine aD H S (i:=0) G G G G fG G G ?_
   clear H a S;intro _ a S H
   refine wpList_nil (And.intro (S.sel [1,2,3,4,5,6] G G) ?_)
   refine bJ ?_
   refine k17 _ _ ?_
   clear k17 K17
   replace H:=H.keep [0,6,7,10] rfl
   refine pG 6 (by kernel_rfl) (by kernel_rfl) ?_
   replace S:=S.drew
   refine sF H<|sr 2 rfl<|sf pU rfl<|sl S 3 tG G G G<|sd ((aB tH pP rfl S (i:=1) G G))<|sd ((aB iR fG rfl S (i:=0) G G))<|sE ?_;clear H a;intro a H
   refine gW (k:=keyOf i (jobF l i)) (livP y) H S (i:=4) rfl xR keyOK G G G (fun h e=>by subst e;exact Gh (by omega) rfl h hh0) ?_;clear H a S;intro _ a S H
   refine k15 _ _ ?_
   refine seq_list fun K19 k19=>?_
   refine ls 1 H<|sd ((aB iR fG rfl S (i:=0) G G))<|sE ?_;clear H a;intro a H
   refine aD H S (i:=2) G G G G fG G G ?_
   clear H a S;intro _ a S H
   refine k19 _ _ ?_;clear k19 K19
   refine wp_ret ?_
   refine retA (fn:=Try.f56) rfl H rfl iR (by exact fG) (cL S (i:=2) rfl) ?_
   exact ⟨rfl,(S.sel [3,4,5,6] G G)⟩
  skip
  cases hc3
 obtain rfl:=hh0 _ _ _ hi hk0
 replace H:=H.keep [0,1,6,7] rfl
 replace S:=S.drew
 refine seq_wq [(0,true),(1,true),(2,true),(3,true),(4,true),(5,true),(6,true),(7,true),(8,true),(9,false),(10,false),(11,true)] (by kernel_rfl) (by kernel_rfl) (S.sel [0,1,2,3,4,5] G G) fun K20 k20=>?_
 refine qF H<|qr 2 rfl<|qd rfl (fun _ S=>(aC pU rfl))<|qd rfl (fun _ S=>aH tG rfl (boxM.rd S (i:=2) G G))<|qd rfl (fun _ S=>(aB tH pP rfl S (i:=0) G G))<|qd rfl (fun _ S=>kJ S (i:=3) rfl xR keyOK Lp rfl (k:=keyOf i (jobF l i)) rfl (fun h e=>by subst e;rw [hk0];exact ⟨rfl,rfl⟩))<|qr 3 rfl<|qK ?_;clear H a;intro a H
 refine aT rfl ?_
 refine aI H rfl S oJ ?_;clear H a S;intro b10 _ a hb10 hbw10 S H
 refine wpList_nil (And.intro (S.sel [1,2,3,4,5,6] G G) ?_)
 refine aT rfl ?_
 refine aD H S (i:=0) G G G G fG G G ?_
 clear H a S;intro _ a S H
 refine wpList_nil (And.intro (S.sel [1,2,3,4,5,6] G G) ?_)
 refine qF H<|qr 1 rfl<|qK ?_;clear H a;intro a H
 refine bJ ?_
 refine k20 _ _ ?_
 clear k20 K20
 refine wp_seq_k fun K21 k21=>?_
 replace H:=H.keep [0,1,6,7,10,11] rfl
 refine sS H fun K22 k22=>sr 2 rfl<|sE ?_;clear H a;intro a H
 refine k22 _ ?_;clear k22 K22
 refine cond_ H rfl (fun hc4=>?_) (fun hc4=>?_)
 ·skip
  skip
  cases hc4
 skip
 refine wp_skip ?_
 refine k21 _ _ ?_
 refine seq_list fun K23 k23=>?_
 refine ls 1 H<|sd ((aB iR fG rfl S (i:=0) G G))<|sE ?_;clear H a;intro a H
 refine aD H S (i:=2) G G G G fG G G ?_
 clear H a S;intro _ a S H
 refine k23 _ _ ?_;clear k23 K23
 refine wp_ret ?_
 refine retA (fn:=Try.f56) rfl H rfl iR (by exact fG) (cL S (i:=2) rfl) ?_
 replace S:=mapK.weak S (i:=4) rfl (Φ':=livP y) (fun g e=>by subst e;exact hh0)
 exact ⟨rfl,(S.sel [3,4,5,6] G G)⟩
end
section
theorem Jz {l:List Int} (h:∀ k,k<l.length→0≤l.getD k 0∧l.getD k 0≤1000):∀ k,k≤l.length→0≤sumI l k∧sumI l k≤1000*k:=by
  intro k
  induction k with
  | zero=>intro _;simp [sumI,sm]
  | succ k ih=>
    intro hk
    have h1:=ih (by omega)
    have h2:=h k (by omega)
    unfold sumI at *
    rw [sm]
    push_cast
    omega
end
section
section
variable {y:Yr} {d out:Int} {k:Nat} {b:Bool} {e:Int}
end
end
section
theorem Gp (y:Yr) (l:List Tsk) (LA:Option Addr) (lc:Nat) (u:Int) (w:World) (hy:YIn w noF y) (hyb:YBd y) (hl:InS w noF 3 LA l.length (yF l)) (hln:l.length≤9223372036854775807) :
    Calls Try.prog 27 [.agg [.int .i64 y.days,.int .i64 y.pl,.slice y.PA y.ps.length y.pc,.slice y.XA y.xs.length y.xc,.slice y.BA y.pe.length y.bc,.int .i64 y.limit,.bool y.help,.slice y.QA y.prs.length y.qc,.slice y.VA y.us.length y.vc,.int .i64 y.crew,.slice y.SA y.sps.length y.sc].toArray,.slice LA l.length lc,.int .i64 u].toArray w (Ret (fun v w'=>∃ a9 b9:Int,v = .tuple #[.agg [.int .i64 a9,.int .i64 b9].toArray,.int .i64 (askdE y l u)]∧(askdE y l u=0→a9=bsum (runB' (y.us.getD u.toNat Unt.zero) (jobF l u.toNat)) y.days.toNat∧b9=bsum (certB (y.us.getD u.toNat Unt.zero) (jobF l u.toNat)) y.days.toNat)∧St w noF [] w')):=by
 have hn3:=hyb.usn
 refine enter Try.func27 rfl Try.ntmps27 rfl (fun a H=>?_)
 have S:=St.start w
 refine seq_list fun K1 k1=>?_
 refine aQ H rfl S G G ?_;clear H a S;intro b3 _ a hb3 hbw3 S H
 refine aI H rfl S oJ ?_;clear H a S;intro b6 _ a hb6 hbw6 S H
 refine ls 1 H<|sr 1 rfl<|sE ?_;clear H a;intro a H
 refine k1 _ _ ?_;clear k1 K1
 refine wp_seq_k fun K2 k2=>?_
 refine seq_list fun K3 k3=>?_
 refine ls 2 H<|sd ((aB fJ iL rfl S (i:=1) G G))<|sr 1 rfl<|sE ?_;clear H a;intro a H
 refine aA H G G Try.func53 G G (Gl y l LA lc _ (hy.now S) hyb (hl.now S) hln) ?_;clear H a
 rintro _ _ a ⟨rfl,S2⟩ H
 replace S:=S.call S2;clear S2
 refine ls 1 H<|sr 1 rfl<|sE ?_;clear H a;intro a H
 refine k3 _ _ ?_;clear k3 K3
 refine sS H fun K4 k4=>sr 2 rfl<|sE ?_;clear H a;intro a H
 refine k4 _ ?_;clear k4 K4
 refine condN H rfl (fun hc1=>?_) (fun hc1=>?_)
 ·skip
  replace H:=H.keep [6,8] rfl
  refine seq_list fun K5 k5=>?_
  refine ls 2 H<|sd (aP Ln G G)<|sr 1 rfl<|sE ?_;clear H a;intro a H
  refine aD H S (i:=0) G G G G fG G G ?_
  clear H a S;intro _ a S H
  refine ls 1 H<|sr 1 rfl<|sE ?_;clear H a;intro a H
  refine k5 _ _ ?_;clear k5 K5
  refine wp_ret ?_
  refine retA1 (fn:=Try.f27) rfl H rfl iR (by exact fG) (cL S (i:=0) rfl) rfl ?_
  refine ⟨0,0,by rw [sA (by omega)];rfl,fun h=>absurd h (by rw [sA (by omega)];omega),(S.sel [] G G)⟩
 have hte:taskE y l=0:=by omega
 have htk0:=Ad hte
 have hok:=oW htk0.1
 have htk:∀ k,k<l.length→tskI y (l.getD k Tsk.zero):=fun k hk=>Nb (htk0.2.2 k hk)
 refine wp_skip ?_
 refine k2 _ _ ?_
 refine wp_seq_k fun K6 k6=>?_
 replace H:=H.keep [1,2,3,6] rfl
 refine sS H fun K7 k7=>sr 1 rfl<|sf dM rfl<|sl S 1 eK G G G<|sL gO rfl<|sd (aR G G (by unfold i64ok;omega))<|sc rfl Try.func54 G G (bH _ _ _ _)<|sr 1 rfl<|sE ?_;clear H a;intro a H
 refine k7 _ ?_;clear k7 K7
 refine cond_ H rfl (fun hc2=>?_) (fun hc2=>?_)
 ·skip
  try simp only [o1,o2,o3,o4,o5,o6,o7,o8,o9,oa] at hc2
  replace H:=H.keep [6] rfl
  refine seq_list fun K8 k8=>?_
  refine ls 1 H<|sd (aP Ln G G)<|sE ?_;clear H a;intro a H
  refine aD H S (i:=0) G G G G fG G G ?_
  clear H a S;intro _ a S H
  refine ls 1 H<|sr 1 rfl<|sE ?_;clear H a;intro a H
  refine k8 _ _ ?_;clear k8 K8
  refine wp_ret ?_
  refine retA1 (fn:=Try.f27) rfl H rfl iR (by exact fG) (cL S (i:=0) rfl) rfl ?_
  refine ⟨0,0,by rw [wO hte (by omega)];rfl,fun h=>absurd h (by rw [wO hte (by omega)];decide),(S.sel [] G G)⟩
 try simp only [o1,o2,o3,o4,o5,o6,o7,o8,o9,oa] at hc2
 have hu:0≤u∧u≤(y.us.length:Int)-1:=by first|exact hc2|omega
 rw [show u=((u.toNat:Nat):Int) by omega] at H
 refine wp_skip ?_
 refine k6 _ _ ?_
 replace H:=H.keep [1,2,3,6] rfl
 refine seq_list fun K9 k9=>?_
 refine ls 1 H<|sd ((aB fJ iL rfl S (i:=1) G G))<|sE ?_;clear H a;intro a H
 refine aA H G G Try.func55 G G (Jy y _) ?_;clear H a
 rintro _ _ a ⟨cb,bl,bs,bk,rfl,S2⟩ H
 replace S:=S.call S2;clear S2
 refine ls 2 H<|sr 2 rfl<|sE ?_;clear H a;intro a H
 refine aA H G G Try.func56 G G (Gn y cb bl bs bk u.toNat l LA lc _ _ ((S.sel [0,1,2,3] G G).startR) (hy.nowR (S.sel [0,1,2,3] G G)) hyb hok (by omega) (hl.nowR (S.sel [0,1,2,3] G G)) hln htk) ?_;clear H a
 rintro _ _ a ⟨rfl,S2⟩ H
 replace S:=St.callR (M:=[_,_,_,_]) (S.sel [0,1,2,3,4,5] G G) S2;clear S2
 refine aD H S (i:=4) G G G G fG G G ?_
 clear H a S;intro _ a S H
 refine ls 1 H<|sr 1 rfl<|sE ?_;clear H a;intro a H
 refine k9 _ _ ?_;clear k9 K9
 refine wp_ret ?_
 refine retA1 (fn:=Try.f27) rfl H rfl iR (by exact fG) (cL S (i:=4) rfl) rfl ?_
 refine ⟨_,_,by rw [Ah hte hu];rfl,fun h=>⟨rfl,rfl⟩,(S.sel [] G G)⟩
theorem Ng (y:Yr) (u:Int) (w:World) (hy:YIn w noF y) (hyb:YBd y) :
    Calls Try.prog 8 [.agg [.int .i64 y.days,.int .i64 y.pl,.slice y.PA y.ps.length y.pc,.slice y.XA y.xs.length y.xc,.slice y.BA y.pe.length y.bc,.int .i64 y.limit,.bool y.help,.slice y.QA y.prs.length y.qc,.slice y.VA y.us.length y.vc,.int .i64 y.crew,.slice y.SA y.sps.length y.sc].toArray,.int .i64 u].toArray w (Ret (fun v w'=>v = .tuple #[.int .i64 (dueN y u),.int .i64 (askdE y [] u)]∧St w noF [] w')):=by
 refine enter Try.func8 rfl Try.ntmps8 rfl (fun a H=>?_)
 have S:=St.start w
 refine seq_list fun K1 k1=>?_
 refine aQ H rfl S G G ?_;clear H a S;intro b2 _ a hb2 hbw2 S H
 refine ls 2 H<|sr 2 rfl<|sE ?_;clear H a;intro a H
 refine k1 _ _ ?_;clear k1 K1
 replace H:=H.keep [1,2,4] rfl
 refine seq_list fun K2 k2=>?_
 refine ls 2 H<|sd ((aB fJ iL rfl S (i:=0) G G))<|sr 1 rfl<|sE ?_;clear H a;intro a H
 refine aA H G G Try.func27 G G (Gp y [] none 0 u _ (hy.now S) hyb InS.nil (Nat.zero_le _)) ?_;clear H a
 rintro _ _ a ⟨a9,b9,rfl,hab,S2⟩ H
 replace S:=S.call S2;clear S2
 refine ls 3 H<|sr 3 rfl<|sE ?_;clear H a;intro a H
 refine aI H rfl S oJ ?_;clear H a S;intro b6 _ a hb6 hbw6 S H
 refine aD H S (i:=0) G G G G fG G G ?_
 clear H a S;intro _ a S H
 refine ls 1 H<|sr 1 rfl<|sE ?_;clear H a;intro a H
 refine k2 _ _ ?_;clear k2 K2
 refine wp_seq_k fun K3 k3=>?_
 replace H:=H.keep [2,4,5,6] rfl
 refine sS H fun K4 k4=>sr 2 rfl<|sE ?_;clear H a;intro a H
 refine k4 _ ?_;clear k4 K4
 refine condN H rfl (fun hc1=>?_) (fun hc1=>?_)
 ·skip
  refine sS H fun K5 k5=>sr 3 rfl<|sE ?_;clear H a;intro a H
  refine k5 _ ?_;clear k5 K5
  refine wp_ret ?_
  refine ret2 (fn:=Try.f8) rfl H G G ?_
  rw [show dueN y u=0 by unfold dueN;rw [if_pos hc1]]
  exact ⟨rfl,(S.sel [] G G)⟩
 have hz:askdE y [] u=0:=by omega
 obtain ⟨ha9,hb9⟩:=hab hz
 subst ha9;subst hb9
 have hok:=oW (Ad (Cn hz).1).1
 have hdy:=hok.days
 have hD:((y.days.toNat:Nat):Int)=y.days:=by omega
 refine wp_skip ?_
 refine k3 _ _ ?_
 refine wp_seq_k fun K6 k6=>?_
 refine wp_block ?_
 refine loop_st (X:=Nat) (R0:=_) [2,6] H rfl (fun d=>[(4,.int .i64 (d:Int))]) (fun d=>[]) (fun g d=>d≤y.days.toNat∧g+d=y.days.toNat∧∀ q,q<d→runsY y [] u.toNat q=true) (y.days.toNat) 0 ?_ (S.sel [0,1] G G) (H.keep [4,2,6] rfl) ?_
 · exact ⟨by omega,by omega,fun q hq=>absurd hq (Nat.not_lt_zero q)⟩
 clear H S a
 intro g1 x1 a w1 hp S H K7 k7
 obtain ⟨d,rfl⟩:∃ y,y=x1:=⟨_,rfl⟩
 refine wp_seq_k fun K8 k8=>?_
 replace H:=H.keep [2,4,6] rfl
 refine sS H fun K9 k9=>sr 1 rfl<|sf dA rfl<|sl S 1 aE G G G<|sr 2 rfl<|sg 6 4 20 26 true G G (fun hg5=>by
     have hq5:=hg5;try simp only [o1,o2,o3,o4,o5,o6,o7,o8,o9,oa] at hq5
     exact sy hg5<|sf tL rfl<|sy hg5<|sl S 0 aE G G G<|sy hg5<|sr 1 rfl<|sy hg5<|sd (iC G G (by omega) (by omega))<|sy hg5<|sd (gA G G)<|sy hg5<|sr 1 rfl<|sz 6 G G G)<|sa G G G<|sE ?_;clear H a;intro a H
 refine k9 _ ?_;clear k9 K9
 refine cond_ H rfl (fun hc2=>?_) (fun hc2=>?_)
 ·skip
  try simp only [o1,o2,o3,o4,o5,o6,o7,o8,o9,oa] at hc2
  refine wp_skip ?_
  refine k8 _ _ ?_
  refine wp_block ?_
  replace H:=H.keep [2,4,6] rfl
  refine sO H<|sr 1 rfl<|sd (aL G G (by unfold i64ok;omega))<|sr 1 rfl<|sE ?_;clear H a;intro a H
  exact k7 (g1-1) (d+1) a _ (by omega) (⟨by omega,by omega,fQ (f:=runsY y [] u.toNat) hp.2.2 (Ne (show d<y.days.toNat by omega) hc2.2)⟩) (S.sel [0,1] G G) (H.keep [4,2,6] rfl)
 try simp only [o1,o2,o3,o4,o5,o6,o7,o8,o9,oa] at hc2
 refine wp_exit ?_
 refine k6 _ _ ?_
 refine sS H fun K11 k11=>sr 3 rfl<|sE ?_;clear H a;intro a H
 refine k11 _ ?_;clear k11 K11
 refine wp_ret ?_
 refine ret2 (fn:=Try.f8) rfl H G G ?_
 have he:dueN y u=d:=by
   unfold dueN
   rw [if_neg (by omega)]
   by_cases e:d<y.days.toNat
   · exact nX (fun q hq=>by rw [hp.2.2 q hq];rfl) (by rw [show runsY y [] u.toNat d=false from Nf e (hc2.resolve_left (by omega))];rfl) e
   · rw [iG (fun q hq=>by rw [hp.2.2 q (by omega)];rfl)];omega
 rw [he,hz]
 exact ⟨rfl,(S.sel [] G G)⟩
end
section
theorem fR {l:List Use} {m k:Nat} (hk:k<m):(l.take m).getD k Use.zero=l.getD k Use.zero:=by
  rw [List.getD_eq_getElem?_getD,List.getD_eq_getElem?_getD,List.getElem?_take_of_lt hk]
theorem jE {p:Part} {l:List Use} {m:Nat}:∀ k,k≤m→fwd p (l.take m) k=fwd p l k:=by
  intro k
  induction k with
  | zero=>intro _;rfl
  | succ k ih=>
    intro hk
    rw [fwd,fwd,fR (show k<m by omega),ih (by omega)]
theorem oA {l:List Use} {m:Nat}:∀ k,k≤m→sumT (l.take m) k=sumT l k:=by
  intro k
  induction k with
  | zero=>intro _;rfl
  | succ k ih=>
    intro hk
    rw [sumT,sumT,fR (show k<m by omega),ih (by omega)]
theorem lV {l:List Use} {m k:Nat} (hk:k≤m):prevD (l.take m) k=prevD l k:=by
  cases k with
  | zero=>rfl
  | succ k=>show ((l.take m).getD k Use.zero).day=_;rw [fR (by omega)];rfl
theorem wQ {n:Nat} {l:List Use} {m k:Nat} (hk:k≤m) (h:dC n l k=true):dC n (l.take m) k=true:=by
  unfold dC at *
  rw [List.all_eq_true] at *
  intro i hi
  have hi':=List.mem_range.1 hi
  rw [lV (by omega),fR (by omega)]
  exact h i hi
theorem Cq {n:Nat} {l:List Use} {k j:Nat} (hj:j≤k) (h:dC n l k=true):dC n l j=true:=by
  unfold dC at *
  rw [List.all_eq_true] at *
  intro i hi
  have hi':=List.mem_range.1 hi
  exact h i (List.mem_range.2 (by omega))
theorem gF {p:Part} {l:List Use} (h:PartOk p l):bI p l=0:=by
  unfold bI
  rw [if_pos h.hdr,if_pos h.rates,if_pos h.len,if_pos h.uses]
theorem Ai {p:Part} {l:List Use} (h:PartOk p l) {m:Nat} (hm:m≤l.length):PartOk p (l.take m):=by
  have e:(l.take m).length=m:=by rw [List.length_take];omega
  refine ⟨h.hdr,h.rates,?_,?_⟩
  · have:=h.len;omega
  · rw [e];exact wQ (Nat.le_refl _) (Cq hm h.uses)
theorem Gq {p:Part} {l:List Use} (h:PartOk p l) {k:Nat} (hk:k<l.length):(cE p (l.getD k Use.zero)).1≤(cE p (l.getD k Use.zero)).2:=by
  have hu:=h.use hk
  unfold useOk at hu
  simp only [decide_eq_true_eq] at hu
  have hr:=h.rate (k:=(l.getD k Use.zero).cls.toNat) (by omega)
  unfold fB at hr
  simp only [decide_eq_true_eq] at hr
  unfold cE
  exact Int.mul_le_mul_of_nonneg_left hr.2.1 (by omega)
theorem sG {p:Part} {l:List Use} (h:PartOk p l) {k:Nat} (hk:k<l.length) (hf:∀ j,k<j→j<l.length→(l.getD j Use.zero).meas=false):bG p l k=fwd p l (k+1):=by
  have key:∀ d,d<l.length→(∀ j,l.length-1-d<j→j<l.length→(l.getD j Use.zero).meas=false)→bkw p l d=fwd p l (l.length-d):=by
    intro d
    induction d with
    | zero=>intro _ _;rfl
    | succ d ih=>
      intro hd hf
      have h1:=ih (by omega) fun j h1 h2=>hf j (by omega) h2
      have h2:(l.getD (l.length-1-d) Use.zero).meas=false:=hf _ (by omega) (by omega)
      have h3:=Gq h (show l.length-1-d<l.length by omega)
      have e1:l.length-d=(l.length-1-d)+1:=by omega
      have e2:l.length-(d+1)=l.length-1-d:=by omega
      rw [bkw,h1,e1,e2,mZ h2]
      unfold meetS addS
      refine Prod.ext ?_ ?_
      · dsimp only;omega
      · dsimp only;omega
  unfold bG
  rw [key (l.length-1-k) (by omega) (fun j h1 h2=>hf j (by omega) h2)]
  congr 1
  omega
theorem sH {p:Part} {l:List Use} (h:PartOk p l) {m:Nat} (hm:m≤l.length) (hf:∀ j,m≤j→j<l.length→(l.getD j Use.zero).meas=false):∀ d k,k+d+1=m→bG p (l.take m) k=bG p l k:=by
  have e:(l.take m).length=m:=by rw [List.length_take];omega
  intro d
  induction d with
  | zero=>
    intro k hk
    rw [sG h (by omega) (fun j h1 h2=>hf j (by omega) h2),sG (Ai h hm) (by omega) (fun j h1 h2=>by omega),jE _ (by omega)]
  | succ d ih=>
    intro k hk
    have h1:=ih (k+1) (by omega)
    rw [dI (l:=l.take m) (by omega),dI (l:=l) (by omega),h1,jE _ (by omega),fR (by omega)]
theorem Ka {p:Part} {l:List Use} {m:Nat} (hm:m≤l.length) (h:IsAt p l l.length):IsAt p (l.take m) (l.take m).length:=by
  have e:(l.take m).length=m:=by rw [List.length_take];omega
  rw [e]
  refine ⟨by omega,fun k hk=>?_,fun h=>by omega⟩
  have:=h.good k (by omega)
  unfold fits at *
  rw [fR hk,jE _ (by omega)]
  exact this
theorem sJ {p:Part} {l:List Use} {m k:Nat} (hk:k<m) (a:Int):wornB p (l.take m) k a=wornB p l k a:=by
  unfold wornB
  rw [oA _ (by omega),fR hk]
end
section
def inside (a b:Int×Int):Prop:=b.1≤a.1∧a.2≤b.2
def bA (day turns cls:Int):Use:=⟨day,turns,cls,false,0,0⟩
theorem Aj {p:Part} {l:List Use} (h:PartOk p l):∀ d k,k+d+1=l.length→(bG p l k).2≤(fwd p l l.length).2:=by
  intro d
  induction d with
  | zero=>intro k hk;rw [gQ (by omega)];exact Int.le_refl _
  | succ d ih=>
    intro k hk
    have h1:=ih (k+1) (by omega)
    have h2:=jC h (show k+1<l.length by omega)
    rw [dI (by omega)]
    unfold meetS
    dsimp only
    omega
theorem lW (p:Part) (l:List Use):bY p l=(fwd p l l.length).2:=by
  unfold bY
  split
  · rename_i h;rw [h];rfl
  · rfl
theorem Ak {p:Part} {l:List Use} (h:PartOk p l):∀ d k,k+d=l.length→sumT l k≤sumT l l.length:=by
  intro d
  induction d with
  | zero=>intro k hk;rw [show k=l.length by omega];exact Int.le_refl _
  | succ d ih=>
    intro k hk
    have h1:=ih (k+1) (by omega)
    have hu:=h.use (show k<l.length by omega)
    unfold useOk at hu
    simp only [decide_eq_true_eq] at hu
    rw [sumT] at h1
    omega
theorem Gr {p:Part} {l:List Use} (h:PartOk p l):∀ d k,k+d+1=l.length→(l.getD k Use.zero).day≤prevD l l.length:=by
  intro d
  induction d with
  | zero=>intro k hk;rw [show l.length=k+1 by omega];exact Int.le_refl _
  | succ d ih=>
    intro k hk
    have h1:=ih (k+1) (by omega)
    have hu:=h.use (show k+1<l.length by omega)
    unfold useOk at hu
    simp only [decide_eq_true_eq] at hu
    have:prevD l (k+1)=(l.getD k Use.zero).day:=rfl
    omega
theorem fS {l:List Use} {u:Use}:(l++[u]).getD l.length Use.zero=u:=by
  rw [List.getD_eq_getElem?_getD,List.getElem?_append_right (Nat.le_refl _)];simp
theorem eH (l:List Use) (u:Use):(l++[u]).take l.length=l:=by simp
theorem Al {p:Part} {l:List Use} (h:PartOk p l) {day turns cls:Int} (hl:l.length<40) (hd:prevD l l.length≤day∧day≤100000) (ht:0≤turns∧turns≤1000000) (hc:0≤cls∧cls≤(p.rates.length:Int)-1):PartOk p (l++[bA day turns cls]):=by
  refine ⟨h.hdr,h.rates,by simp;omega,?_⟩
  have e:(l++[bA day turns cls]).length=l.length+1:=by simp
  unfold dC
  rw [e,fM (n:=0),Bool.and_eq_true]
  constructor
  · rw [List.all_eq_true]
    intro i hi
    have hi':=List.mem_range.1 hi
    have h1:=h.use hi'
    have e1:prevD (l++[bA day turns cls]) i=prevD l i:=by
      have:=lV (l:=l++[bA day turns cls]) (m:=l.length) (k:=i) (by omega)
      rw [eH] at this;exact this.symm
    have e2:(l++[bA day turns cls]).getD i Use.zero=l.getD i Use.zero:=by
      have:=fR (l:=l++[bA day turns cls]) (m:=l.length) (k:=i) hi'
      rw [eH] at this;exact this.symm
    rw [e1,e2];exact h1
  · have e1:prevD (l++[bA day turns cls]) l.length=prevD l l.length:=by
      have:=lV (l:=l++[bA day turns cls]) (m:=l.length) (k:=l.length) (Nat.le_refl _)
      rw [eH] at this;exact this.symm
    rw [e1,fS]
    unfold useOk bA
    simp only [decide_eq_true_eq]
    refine ⟨by omega,by omega,by omega,by omega,fun _=>by constructor <;> trivial⟩
theorem Am {p:Part} {l:List Use} {day turns cls:Int} (h:IsAt p l l.length):IsAt p (l++[bA day turns cls]) (l++[bA day turns cls]).length:=by
  have e:(l++[bA day turns cls]).length=l.length+1:=by simp
  rw [e]
  refine ⟨by omega,fun k hk=>?_,fun h=>by omega⟩
  by_cases hk2:k<l.length
  · have h1:=h.good k hk2
    have e2:=fR (l:=l++[bA day turns cls]) (m:=l.length) (k:=k) hk2
    have e3:=jE (p:=p) (l:=l++[bA day turns cls]) (m:=l.length) (k+1) (by omega)
    rw [eH] at e2 e3
    unfold fits at *
    rw [←e2,←e3];exact h1
  · rw [show k=l.length by omega]
    refine nA ?_
    rw [fS];rfl
theorem wR {p:Part} {l:List Use} (h:PartOk p l) (hA:IsAt p l l.length) {day turns cls:Int} (hl:l.length<40) (hd:prevD l l.length≤day∧day≤100000) (ht:0≤turns∧turns≤1000000) (hc:0≤cls∧cls≤(p.rates.length:Int)-1)
    (h1:day≤p.age) (h2:sumT l l.length≤p.turns) (h3:bY p l≤p.worn*1000000) :
    (cD p (l++[bA day turns cls]) Prod.snd).2=0∧((cD p (l++[bA day turns cls]) Prod.snd).1<0↔sumT l l.length+turns≤p.turns∧bY p l+turns*(p.rates.getD cls.toNat (0,0)).2≤p.worn*1000000):=by
  have hok:=Al h hl hd ht hc
  have hW:wearE p (l++[bA day turns cls])=0:=jD (gF hok) (Am hA)
  rw [Aa _ hW]
  refine ⟨rfl,?_⟩
  dsimp only
  have e:(l++[bA day turns cls]).length=l.length+1:=by simp
  have early:∀ k,k<l.length→wornB p (l++[bA day turns cls]) k (Prod.snd (bG p (l++[bA day turns cls]) k))=false:=by
    intro k hk
    have t1:=sJ (p:=p) (l:=l++[bA day turns cls]) (m:=l.length) hk (Prod.snd (bG p (l++[bA day turns cls]) k))
    have t2:=sH hok (m:=l.length) (by omega) (fun j h4 h5=>by rw [show j=l.length by omega,fS];rfl) (l.length-1-k) k (by omega)
    rw [eH] at t1 t2
    rw [←t1,←t2]
    have b1:=Aj h (l.length-1-k) k (by omega)
    have b2:=Ak h (l.length-1-k) (k+1) (by omega)
    have b3:=Gr h (l.length-1-k) k (by omega)
    rw [lW] at h3
    unfold wornB
    simp only [Bool.or_eq_false_iff,decide_eq_false_iff_not]
    omega
  have f1:fwd p (l++[bA day turns cls]) l.length=fwd p l l.length:=by
    have:=jE (p:=p) (l:=l++[bA day turns cls]) (m:=l.length) l.length (Nat.le_refl _)
    rw [eH] at this;exact this.symm
  have s1:sumT (l++[bA day turns cls]) l.length=sumT l l.length:=by
    have:=oA (l:=l++[bA day turns cls]) (m:=l.length) l.length (Nat.le_refl _)
    rw [eH] at this;exact this.symm
  have last:wornB p (l++[bA day turns cls]) l.length (Prod.snd (bG p (l++[bA day turns cls]) l.length))=!(decide (sumT l l.length+turns≤p.turns)&&decide (bY p l+turns*(p.rates.getD cls.toNat (0,0)).2≤p.worn*1000000)):=by
    rw [gQ (by omega),e,mZ (by rw [fS];rfl),f1]
    unfold wornB
    rw [sumT,s1,fS,lW]
    rw [Bool.eq_iff_iff]
    simp only [Bool.or_eq_true,decide_eq_true_eq,Bool.not_eq_true',Bool.and_eq_false_iff,decide_eq_false_iff_not]
    unfold addS cE bA
    dsimp only
    omega
  rcases fP (fun k=>wornB p (l++[bA day turns cls]) k (Prod.snd (bG p (l++[bA day turns cls]) k))) (l++[bA day turns cls]).length with ⟨g1,g2⟩|⟨k,hk,g1,g2,g3⟩
  · rw [g1]
    have g4:=g2 l.length (by omega)
    rw [last] at g4
    simp only [Bool.not_eq_false',Bool.and_eq_true,decide_eq_true_eq] at g4
    exact ⟨fun _=>g4,fun _=>by decide⟩
  · rw [g1]
    constructor
    · intro hlt;omega
    · intro hle
      exfalso
      rcases Nat.lt_or_ge k l.length with h5|h5
      · rw [early k h5] at g2;cases g2
      · rw [show k=l.length by omega,last,decide_eq_true hle.1,decide_eq_true hle.2] at g2
        cases g2
theorem Cr {p:Part} {turns wear r:Int} (ht:turns≤p.turns) (hw:wear≤p.worn*1000000) (hr:0≤r):0≤dS p turns wear r∧dS p turns wear r≤1000000 ∧
    (turns+dS p turns wear r≤p.turns∧wear+dS p turns wear r*r≤p.worn*1000000) ∧
    (dS p turns wear r+1≤1000000→¬ (turns+(dS p turns wear r+1)≤p.turns∧wear+(dS p turns wear r+1)*r≤p.worn*1000000)):=by
  unfold dS
  split
  · rename_i h0
    have q0:0≤(p.worn*1000000-wear)/r:=Int.ediv_nonneg (by omega) hr
    have q1:=Int.ediv_mul_le (p.worn*1000000-wear) (show r≠0 by omega)
    have q2:=Int.lt_ediv_add_one_mul_self (p.worn*1000000-wear) h0
    generalize (p.worn*1000000-wear)/r=q at *
    generalize hm:min (min 1000000 (p.turns-turns)) q=m
    have hm1:m≤q:=by omega
    have hm2:m*r≤q*r:=Int.mul_le_mul_of_nonneg_right hm1 hr
    refine ⟨by omega,by omega,⟨by omega,by omega⟩,fun h1 h2=>?_⟩
    have h3:q+1≤m+1:=by omega
    have h4:(q+1)*r≤(m+1)*r:=Int.mul_le_mul_of_nonneg_right h3 hr
    omega
  · have hr0:r=0:=by omega
    subst hr0
    simp only [Int.mul_zero]
    refine ⟨by omega,by omega,⟨by omega,by omega⟩,fun h1 h2=>by omega⟩
end
section
theorem Gs {p:Part} {l:List Use} (h:PartOk p l) (hA:IsAt p l l.length) {day turns cls:Int} (hl:l.length<40) (hd:prevD l l.length≤day∧day≤100000) (ht:0≤turns∧turns≤1000000) (hc:0≤cls∧cls≤(p.rates.length:Int)-1)
    (h1:day≤p.age) (h2:sumT l l.length≤p.turns) (h3:bY p l≤p.worn*1000000):bydB p (l++[bA day turns cls])=!(decide (sumT l l.length+turns≤p.turns)&&decide (bY p l+turns*(p.rates.getD cls.toNat (0,0)).2≤p.worn*1000000)):=by
  obtain ⟨e1,e2⟩:=wR h hA hl hd ht hc h1 h2 h3
  unfold bydB
  rw [decide_eq_true e1,Bool.not_true,Bool.false_or]
  by_cases h9:sumT l l.length+turns≤p.turns∧bY p l+turns*(p.rates.getD cls.toNat (0,0)).2≤p.worn*1000000
  · have:=e2.2 h9
    rw [decide_eq_true h9.1,decide_eq_true h9.2,decide_eq_false (by omega)];rfl
  · have h8:¬ (cD p (l++[bA day turns cls]) Prod.snd).1<0:=fun h=>h9 (e2.1 h)
    rw [decide_eq_true (p:=0≤_) (by omega)]
    by_cases h7:sumT l l.length+turns≤p.turns
    · rw [decide_eq_true h7,decide_eq_false (fun h=>h9 ⟨h7,h⟩)];rfl
    · rw [decide_eq_false h7];rfl
theorem Cs {p:Part} {l:List Use} (h:∀ k,k<l.length→(l.getD k Use.zero).meas=false):IsAt p l l.length:=
  ⟨Nat.le_refl _,fun k hk=>nA (h k hk),fun h=>absurd h (Nat.lt_irrefl _)⟩
def exPt:Part:=⟨[(1,2)],1,1000000,1000⟩
def exU0 (RA:Option Addr) (rc:Nat):Unt:=⟨0,2,0,[(1,2)],RA,rc,1,1000000,1000,[],none,0,0,400000,0,0⟩
section
variable {PA:Option Addr} {pc:Nat} {XA:Option Addr} {xc:Nat} {BA:Option Addr} {bc:Nat} {QA:Option Addr} {qc:Nat} {VA:Option Addr} {vc:Nat} {RA:Option Addr} {rc:Nat}
end
theorem yL (l:List Use) {day turns:Int} {b:Bool} (h:bI exPt l=0) (hm:∀ k,k<l.length→(l.getD k Use.zero).meas=false) (hl:l.length<40) (hd:prevD l l.length≤day∧day≤1000) (ht:0≤turns∧turns≤1000000)
    (h2:sumT l l.length≤1000000) (h3:bY exPt l≤1000000) (hb:b=(decide (sumT l l.length+turns≤1000000)&&decide (bY exPt l+turns*2≤1000000))):bydB exPt (l++[bA day turns 0])=!b:=by
  rw [Gs (gD h) (Cs hm) hl (by omega) ht (by decide) (by show day≤1000;omega) (by show _≤(1000000:Int);omega) (by show _≤(1:Int)*1000000;omega),hb]
  rfl
def us1 (d:Int) (t:Int):Use:=⟨d,t,0,false,0,0⟩
section
variable {RA:Option Addr} {rc:Nat} {J:Nat→Int}
theorem m1 {P:Use→Prop} {u:Use} (h:P u):∀ k,k<[u].length→P ([u].getD k Use.zero):=fun k hk=>by
  have:k=0:=by simp at hk;omega
  subst this
  exact h
theorem m2 {P:Use→Prop} {u v:Use} (h:P u) (h':P v):∀ k,k<[u,v].length→P ([u,v].getD k Use.zero):=fun k hk=>by
  have:k=0∨k=1:=by simp at hk;omega
  rcases this with rfl|rfl
  · exact h
  · exact h'
theorem byd0 (t:Int) (ht:t=400000∨t=1000):bydB exPt [bA 0 t 0]=false:=by
  rcases ht with rfl|rfl
  · exact yL [] (b:=true) (by decide +kernel) (fun q hq=>absurd hq (Nat.not_lt_zero q)) (by decide) (by decide) (by decide) (by decide) (by decide) (by decide +kernel)
  · exact yL [] (b:=true) (by decide +kernel) (fun q hq=>absurd hq (Nat.not_lt_zero q)) (by decide) (by decide) (by decide) (by decide) (by decide) (by decide +kernel)
theorem byd1 (d:Int) (hd:0≤d∧d≤1000):bydB exPt [us1 0 400000,bA d 400000 0]=true:=
  yL [us1 0 400000] (b:=false) (by decide +kernel) (m1 (P:=fun u=>u.meas=false) rfl) (by decide) hd (by decide) (by decide +kernel) (by decide +kernel) (by decide +kernel)
theorem Gt {u:Unt} {s:LSt} {j:Int} {d:Nat} {b b':Bool} (h:bydB u.part (s.uses++[useAt u d s.born])=b) (h2:b'=((decide (j=0)&&certN u s j d)&&!b)):runN u s j d=b':=by unfold runN;rw [h,h2]
theorem Nh {u:Unt} {s:LSt} {j:Int} {d:Nat} (h:runN u s j d=true) (hr:renw j=false):stepL u s j d=⟨s.uses++[useAt u d s.born],s.born,seenN s j d⟩:=by unfold stepL;rw [hr,h];rfl
theorem Ni {u:Unt} {s:LSt} {j:Int} {d:Nat} (h:runN u s j d=false) (hr:renw j=false):stepL u s j d=⟨s.uses,s.born,seenN s j d⟩:=by unfold stepL;rw [hr,h];rfl
theorem Pe (h:J 0=0):runB' (exU0 RA rc) J 0=true:=by
  show runN (exU0 RA rc) ⟨[],0,0⟩ (J 0) 0=true
  rw [h];exact Gt (byd0 400000 (.inl rfl)) rfl
theorem Pk (h:J 0=0):lifeS (exU0 RA rc) J 1=⟨[us1 0 400000],0,0⟩:=by
  show stepL (exU0 RA rc) ⟨[],0,0⟩ (J 0) 0=_
  have h1:runN (exU0 RA rc) ⟨[],0,0⟩ (J 0) 0=true:=Pe (RA:=RA) (rc:=rc) h
  rw [h] at h1 ⊢
  rw [Nh h1 (by decide)];rfl
theorem Kb {d:Nat} (hd:d≤3) (s j:Int):runN (exU0 RA rc) ⟨[us1 0 400000],0,s⟩ j d=false:=
  Gt (b:=true) (by
    show bydB exPt [us1 0 400000,bA ((d:Int)-0) 400000 0]=true
    rw [Int.sub_zero];exact byd1 d (by omega)) (by simp)
theorem Pf {d:Nat} (hd:d≤3) (h1:lifeS (exU0 RA rc) J d=⟨[us1 0 400000],0,0⟩) (h:J d=0):lifeS (exU0 RA rc) J (d+1)=⟨[us1 0 400000],0,0⟩:=by
  show stepL (exU0 RA rc) (lifeS (exU0 RA rc) J d) (J d) d=_
  rw [h1,h,Ni (Kb hd 0 0) (by decide)];rfl
theorem z0 (h:∀ d,J d=0) {d:Nat} (hd:d≤3):runB' (exU0 RA rc) J d=decide (d=0):=by
  have h1:=Pk (RA:=RA) (rc:=rc) (h 0)
  have h2:=Pf (by omega) h1 (h 1)
  have h3:=Pf (by omega) h2 (h 2)
  match d,hd with
  | 0,_=>exact Pe (h 0)
  | 1,_=>unfold runB';rw [h1];exact Kb (by omega) _ _
  | 2,_=>unfold runB';rw [h2];exact Kb (by omega) _ _
  | 3,_=>unfold runB';rw [h3];exact Kb (by omega) _ _
end
end
section
section
variable {PA:Option Addr} {pc:Nat} {XA:Option Addr} {xc:Nat} {BA:Option Addr} {bc:Nat} {QA:Option Addr} {qc:Nat} {VA:Option Addr} {vc:Nat} {RA:Option Addr} {rc:Nat}
end
end
section
def MList (ps:List Psg) (k:Nat) (ml:List Int):Prop:=ml.length≤k∧∀ m,0≤m→(hasI ml m=true↔¬ cntM ps m k=0)
theorem MList.nil {ps:List Psg}:MList ps 0 []:=⟨Nat.le_refl 0,fun m _=>by
  constructor
  · intro h;cases h
  · intro h;exact absurd rfl h⟩
theorem sK {ps:List Psg} {m:Int} {k:Nat}:cntM ps m (k+1)=cntM ps m k+(if bT ps k=m then 1 else 0):=rfl
theorem Ct {l:List Int} {x m:Int}:hasI (l++[x]) m=(hasI l m||decide (m=x)):=by unfold hasI;rw [List.any_append];simp
theorem MList.add {ps:List Psg} {k:Nat} {ml:List Int} (h:MList ps k ml):MList ps (k+1) (ml++[bT ps k]):=⟨by rw [List.length_append];have:=h.1;simp;omega,fun m hm=>by
  have h1:=h.2 m hm
  have h2:=zQ (ps:=ps) (m:=m) (k:=k)
  rw [Ct,sK,Bool.or_eq_true,decide_eq_true_eq,h1]
  by_cases e:bT ps k=m
  · rw [if_pos e];exact ⟨fun _=>by omega,fun _ => .inr e.symm⟩
  · rw [if_neg e,Int.add_zero];exact ⟨fun g=>g.resolve_right (fun g=>e g.symm),.inl⟩⟩
theorem MList.skip {ps:List Psg} {k:Nat} {ml:List Int} (h:MList ps k ml) (hk:bT ps k<0):MList ps (k+1) ml:=⟨by have:=h.1;omega,fun m hm=>by
  rw [sK,if_neg (by omega),Int.add_zero]
  exact h.2 m hm⟩
theorem MList.fresh {ps:List Psg} {k:Nat} {ml:List Int} (h:MList ps k ml) (h0:0≤(ps.getD k Psg.zero).mach) (hh:hasI ml (ps.getD k Psg.zero).mach=false):cntM ps (bT ps k) k=0:=by
  have h9:=h.2 _ h0
  rw [hh] at h9
  have h8:bT ps k=(ps.getD k Psg.zero).mach:=rfl
  rw [h8]
  simp only [Bool.false_eq_true,false_iff] at h9
  omega
theorem nH {pl:Int} {ps:List Psg} {k:Nat} (h:psgOk pl (ps.getD k Psg.zero)=true) (hz:cntM ps (bT ps k) k=0):pasOk pl ps k=true:=by unfold pasOk;rw [h,decide_eq_true (.inr hz)];rfl
theorem nI {pl:Int} {ps:List Psg} {k:Nat} (h:psgOk pl (ps.getD k Psg.zero)=true) (hz:(ps.getD k Psg.zero).mach<0):pasOk pl ps k=true:=by unfold pasOk;rw [h,decide_eq_true (.inl hz)];rfl
theorem Kc {pl:Int} {ps:List Psg} {k:Nat} {ml:List Int} (hM:MList ps k ml) (hc:((ps.getD k Psg.zero).mach<0∨11<(ps.getD k Psg.zero).mach)∨hasI ml (ps.getD k Psg.zero).mach=true) (hk:(ps.getD k Psg.zero).kind=3∨(ps.getD k Psg.zero).kind=4):pasOk pl ps k=false:=by
  unfold pasOk
  rw [Bool.and_eq_false_iff]
  by_cases h0:0≤(ps.getD k Psg.zero).mach∧(ps.getD k Psg.zero).mach≤11
  · refine .inr (decide_eq_false ?_)
    have h9:=hM.2 _ h0.1
    have h8:bT ps k=(ps.getD k Psg.zero).mach:=rfl
    rw [h8]
    rcases hc with h7|h7
    · omega
    · rw [h7] at h9
      simp only [true_iff] at h9
      omega
  · exact .inl (eF (by omega))
theorem Kd {pl:Int} {xs:List Int} {k:Nat} (h:(0≤xs.getD k 0∧xs.getD k 0≤pl-1)∧(k=0∨xs.getD (k-1) 0<xs.getD k 0)):exOk pl xs k=true:=by unfold exOk;rw [decide_eq_true_eq];omega
theorem Ke {pl:Int} {xs:List Int} {k:Nat} (h:¬ ((0≤xs.getD k 0∧xs.getD k 0≤pl-1)∧(k=0∨xs.getD (k-1) 0<xs.getD k 0))):exOk pl xs k=false:=by unfold exOk;rw [decide_eq_false_iff_not];omega
theorem yM {l:List Int} {x:Int} {v:Value} (hv:v = .int .i64 x):∀ k j,k<l.length+1→j<1→capp l.length (icl l) (fun k' j=>([[v]].getD k' []).getD j undef) k j=icl (l++[x]) k j:=by
  intro k j hk hj
  have:j=0:=by omega
  subst this
  subst hv
  unfold capp icl
  by_cases h:k<l.length
  · rw [if_pos h,List.getD_eq_getElem?_getD,List.getD_eq_getElem?_getD,List.getElem?_append_left h]
  · have e:k=l.length:=by omega
    subst e
    rw [if_neg h,Nat.sub_self,List.getD_eq_getElem?_getD,List.getElem?_append_right (Nat.le_refl _),Nat.sub_self]
    rfl
theorem bU (n lo hi:Int) (w:World) :
    Calls Try.prog 33 [.int .i64 n,.int .i64 lo,.int .i64 hi].toArray w (Ret (fun v w'=>v = .bool (decide (lo≤n)&&decide (n≤hi))∧w'=w)):=by
 refine enter Try.func33 rfl Try.ntmps33 rfl (fun a H=>?_)
 have S:=St.start w
 refine sS H fun K1 k1=>sr 1 rfl<|sE ?_;clear H a;intro a H
 refine k1 _ ?_;clear k1 K1
 replace H:=H.keep [0,1,2] rfl
 refine sS H fun K2 k2=>sr 4 rfl<|sg 3 3 10 13 true G G (fun hg4=>sy hg4<|sr 1 rfl<|sy hg4<|sr 1 rfl<|sy hg4<|sr 1 rfl<|sz 3 G G G)<|sa G G G<|sr 1 rfl<|sE ?_;clear H a;intro a H
 refine k2 _ ?_;clear k2 K2
 refine wp_ret ?_
 refine ret1 (fn:=Try.f33) rfl H rfl ?_
 exact ⟨rfl,rfl⟩
theorem uD (n:Int) (w:World) :
    Calls Try.prog 31 [.int .i64 n].toArray w (Ret (fun v w'=>v = .bool (decide (0≤n)&&decide (n≤4095))∧w'=w)):=by
 refine enter Try.func31 rfl Try.ntmps31 rfl (fun a H=>?_)
 have S:=St.start w
 refine sS H fun K1 k1=>sr 1 rfl<|sE ?_;clear H a;intro a H
 refine k1 _ ?_;clear k1 K1
 refine sS H fun K2 k2=>sr 1 rfl<|sc rfl Try.func33 G G (bU _ _ _ _)<|sr 1 rfl<|sE ?_;clear H a;intro a H
 refine k2 _ ?_;clear k2 K2
 refine wp_ret ?_
 refine ret1 (fn:=Try.f31) rfl H rfl ?_
 exact ⟨rfl,rfl⟩
theorem Kf (l:List Int) (A:Option Addr) (cp:Nat) (x:Int) (w:World) (hl:InS w noF 1 A l.length (icl l)) (hn:l.length≤9223372036854775807) :
    Calls Try.prog 43 [.slice A l.length cp,.int .i64 x].toArray w (Ret (fun u w'=>u = .bool (hasI l x)∧St w noF [] w')):=by
 refine enter Try.func43 rfl Try.ntmps43 rfl (fun a H=>?_)
 have S:=St.start w
 refine sS H fun K1 k1=>sr 1 rfl<|sE ?_;clear H a;intro a H
 refine k1 _ ?_;clear k1 K1
 refine wp_seq_k fun K2 k2=>?_
 refine sS H fun K3 k3=>sr 1 rfl<|sE ?_;clear H a;intro a H
 refine k3 _ ?_;clear k3 K3
 refine wp_block ?_
 refine loop_st (X:=Nat) (R0:=_) [0,1] H rfl (fun k=>[(5,.int .i64 (k:Int))]) (fun k=>[]) (fun g k=>k≤l.length∧g+k=l.length∧(l.take k).any (fun y=>decide (x=y))=false) (l.length) 0 ?_ (S.sel [] G G) (H.keep [5,0,1] rfl) ?_
 · exact ⟨by omega,by omega,rfl⟩
 clear H S a
 intro g1 x1 a w1 hp S H K4 k4
 obtain ⟨k,rfl⟩:∃ y,y=x1:=⟨_,rfl⟩
 refine wp_seq_k fun K5 k5=>?_
 refine sS H fun K6 k6=>sr 2 rfl<|sL aX rfl<|sr 1 rfl<|sE ?_;clear H a;intro a H
 refine k6 _ ?_;clear k6 K6
 refine condL H rfl (fun hc1=>?_) (fun hc1=>?_)
 ·skip
  refine wp_skip ?_
  refine k5 _ _ ?_
  refine wp_seq_k fun K7 k7=>?_
  refine wp_block ?_
  replace H:=H.keep [0,1,5] rfl
  refine sS H fun K8 k8=>sr 2 rfl<|si aX bK G G (hl.adr (by omega)) (by omega)<|slm aE rfl (hl.rd S (by omega) (by omega))<|sr 2 rfl<|sE ?_;clear H a;intro a H
  refine k8 _ ?_;clear k8 K8
  refine condE H rfl (fun hc2=>?_) (fun hc2=>?_)
  ·skip
   refine sS H fun K9 k9=>sr 1 rfl<|sE ?_;clear H a;intro a H
   refine k9 _ ?_;clear k9 K9
   refine wp_ret ?_
   refine ret1 (fn:=Try.f43) rfl H rfl ?_
   exact ⟨by rw [Mt (k:=k) (by omega) (by omega)],(S.sel [] G G)⟩
  refine wp_skip ?_
  refine k7 _ _ ?_
  replace H:=H.keep [0,1,5] rfl
  refine sO H<|sr 1 rfl<|sd (aL G G (by unfold i64ok;omega))<|sr 1 rfl<|sE ?_;clear H a;intro a H
  exact k4 (g1-1) (k+1) a _ (by omega) (⟨by omega,by omega,Fa (by omega) hp.2.2 (by omega)⟩) (S.sel [] G G) (H.keep [5,0,1] rfl)
 refine wp_exit ?_
 refine k2 _ _ ?_
 refine sS H fun K11 k11=>sr 1 rfl<|sE ?_;clear H a;intro a H
 refine k11 _ ?_;clear k11 K11
 refine wp_ret ?_
 refine ret1 (fn:=Try.f43) rfl H rfl ?_
 exact ⟨by unfold hasI;rw [←List.take_of_length_le (l:=l) (i:=k) (by omega),hp.2.2],(S.sel [] G G)⟩
theorem kL (pl:Int) (ps:List Psg) (PA:Option Addr) (pc:Nat) (xs:List Int) (XA:Option Addr) (xc:Nat) (w:World) (hps:InS w noF 7 PA ps.length (pcell ps)) (hpn:ps.length≤9223372036854775807) (hxs:InS w noF 1 XA xs.length (icl xs)) (hxn:xs.length≤9223372036854775807) :
    Calls Try.prog 19 [.agg [.int .i64 pl,.slice PA ps.length pc,.slice XA xs.length xc].toArray].toArray w (Ret (fun v w'=>v = .int .i64 (stE pl ps xs)∧St w noF [] w')):=by
 refine enter Try.func19 rfl Try.ntmps19 rfl (fun a H=>?_)
 have S:=St.start w
 refine seq_list fun K1 k1=>?_
 refine aQ H rfl S G G ?_;clear H a S;intro b1 _ a hb1 hbw1 S H
 refine ls 1 H<|sr 1 rfl<|sE ?_;clear H a;intro a H
 refine k1 _ _ ?_;clear k1 K1
 refine wp_seq_k fun K2 k2=>?_
 replace H:=H.keep [1] rfl
 refine sS H fun K3 k3=>sf dU rfl<|sl S 0 aE G G G<|sc rfl Try.func33 G G (bU _ _ _ _)<|sr 2 rfl<|sg 4 4 11 15 false G G (fun hg5=>by
     have hq5:=hg5;try simp only [o1,o2,o3,o4,o5,o6,o7,o8,o9,oa] at hq5
     exact sy hg5<|sf eS rfl<|sy hg5<|sl S 0 gS G G G<|sy hg5<|sL iE rfl<|sy hg5<|sr 1 rfl<|sz 4 G G G)<|so G G G<|sE ?_;clear H a;intro a H
 refine k3 _ ?_;clear k3 K3
 refine cond_ H rfl (fun hc1=>?_) (fun hc1=>?_)
 ·skip
  try simp only [o1,o2,o3,o4,o5,o6,o7,o8,o9,oa] at hc1
  replace H:=H.keep [] rfl
  refine sS H fun K4 k4=>sr 1 rfl<|sE ?_;clear H a;intro a H
  refine k4 _ ?_;clear k4 K4
  refine wp_ret ?_
  refine ret1 (fn:=Try.f19) rfl H rfl ?_
  exact ⟨congrArg _ (zR (by omega)).symm,(S.sel [] G G)⟩
 try simp only [o1,o2,o3,o4,o5,o6,o7,o8,o9,oa] at hc1
 refine wp_skip ?_
 refine k2 _ _ ?_
 refine sS H fun K5 k5=>sr 1 rfl<|sE ?_;clear H a;intro a H
 refine k5 _ ?_;clear k5 K5
 refine wp_seq_k fun K6 k6=>?_
 refine sS H fun K7 k7=>sr 1 rfl<|sE ?_;clear H a;intro a H
 refine k7 _ ?_;clear k7 K7
 refine wp_block ?_
 replace S:=S.newNil 3 1 (icl [])
 refine loop_st (X:=Nat×List Int×Option Addr×Nat) (R0:=_) [1] H rfl (fun ⟨k,ml,A9,c9⟩=>[(3,.slice A9 ml.length c9),(4,.int .i64 (k:Int))]) (fun ⟨k,ml,A9,c9⟩=>[ownM 3 1 A9 ml.length c9 (icl ml)]) (fun g ⟨k,ml,A9,c9⟩=>k≤ps.length∧g+k=ps.length∧allN (pasOk pl ps) k=true∧MList ps k ml) (ps.length) (0,[],none,0) ?_ (S.sel [0,1] G G) (H.keep [3,4,1] rfl) ?_
 · exact ⟨by omega,by omega,rfl,MList.nil⟩
 clear H S a
 intro g1 x1 a w1 hp S H K8 k8
 obtain ⟨k,ml,A9,c9⟩:=x1
 dsimp only at hp S H
 obtain ⟨hkl,hgk,hA,hM⟩:=hp
 refine wp_seq_k fun K9 k9=>?_
 refine sS H fun K10 k10=>sr 1 rfl<|sf eS rfl<|sl S 1 gS G G G<|sL iE rfl<|sr 1 rfl<|sE ?_;clear H a;intro a H
 refine k10 _ ?_;clear k10 K10
 refine condL H rfl (fun hc2=>?_) (fun hc2=>?_)
 ·skip
  refine wp_skip ?_
  refine k9 _ _ ?_
  refine wp_seq_k fun K11 k11=>?_
  refine wp_block ?_
  replace H:=H.keep [1,3,4] rfl
  refine seq_list fun K12 k12=>?_
  refine ls 5 H<|sf eS rfl<|sl S 1 gS G G G<|sr 1 rfl<|si iE gN G G (hps.adr (by omega)) (by omega)<|sd ((aU lO gN rfl S hps (by omega) (by omega)))<|sE ?_;clear H a;intro a H
  refine aI H rfl S vK ?_;clear H a S;intro b5 _ a hb5 hbw5 S H
  refine aD H S (i:=0) G G G G gN G G ?_
  clear H a S;intro _ a S H
  refine k12 _ _ ?_;clear k12 K12
  refine wp_seq_k fun K13 k13=>?_
  replace H:=H.keep [1,3,4,5] rfl
  refine sS H fun K14 k14=>sf kU rfl<|sl S 0 aE G G G<|sf dU rfl<|sl S 2 aE G G G<|sd (aR G G (by unfold i64ok;omega))<|sc rfl Try.func33 G G (bU _ _ _ _)<|sr 2 rfl<|sg 7 7 36 43 false G G (fun hg8=>by
      have hq8:=hg8;try simp only [o1,o2,o3,o4,o5,o6,o7,o8,o9,oa] at hq8
      exact sy hg8<|sf kV rfl<|sy hg8<|sl S 0 aE G G G<|sy hg8<|sf dU rfl<|sy hg8<|sl S 2 aE G G G<|sy hg8<|sd (aR G G (by unfold i64ok;omega))<|sy hg8<|sc rfl Try.func33 G G (bU _ _ _ _)<|sy hg8<|sr 1 rfl<|sz 7 G G G)<|so G G G<|sr 1 rfl<|sg 5 16 45 50 false G G (fun hg17=>by
      have hq17:=hg17;try simp only [o1,o2,o3,o4,o5,o6,o7,o8,o9,oa] at hq17
      exact sy hg17<|sf kU rfl<|sy hg17<|sl S 0 aE G G G<|sy hg17<|sf kV rfl<|sy hg17<|sl S 0 aE G G G<|sy hg17<|sr 1 rfl<|sz 5 G G G)<|so G G G<|sr 1 rfl<|sg 4 23 52 56 false G G (fun hg24=>by
      have hq24:=hg24;try simp only [o1,o2,o3,o4,o5,o6,o7,o8,o9,oa] at hq24
      exact sy hg24<|sf tJ rfl<|sy hg24<|sl S 0 aE G G G<|sy hg24<|sc rfl Try.func33 G G (bU _ _ _ _)<|sy hg24<|sr 1 rfl<|sz 4 G G G)<|so G G G<|sr 1 rfl<|sg 4 29 58 62 false G G (fun hg30=>by
      have hq30:=hg30;try simp only [o1,o2,o3,o4,o5,o6,o7,o8,o9,oa] at hq30
      exact sy hg30<|sf zI rfl<|sy hg30<|sl S 0 aE G G G<|sy hg30<|sc rfl Try.func33 G G (bU _ _ _ _)<|sy hg30<|sr 1 rfl<|sz 4 G G G)<|so G G G<|sr 1 rfl<|sg 4 35 64 68 false G G (fun hg36=>by
      have hq36:=hg36;try simp only [o1,o2,o3,o4,o5,o6,o7,o8,o9,oa] at hq36
      exact sy hg36<|sf hG rfl<|sy hg36<|sl S 0 aE G G G<|sy hg36<|sc rfl Try.func33 G G (bU _ _ _ _)<|sy hg36<|sr 1 rfl<|sz 4 G G G)<|so G G G<|sE ?_;clear H a;intro a H
  refine k14 _ ?_;clear k14 K14
  refine cond_ H rfl (fun hc3=>?_) (fun hc3=>?_)
  ·skip
   try simp only [o1,o2,o3,o4,o5,o6,o7,o8,o9,oa] at hc3
   replace H:=H.keep [] rfl
   refine sS H fun K15 k15=>sr 1 rfl<|sE ?_;clear H a;intro a H
   refine k15 _ ?_;clear k15 K15
   refine wp_ret ?_
   refine ret1 (fn:=Try.f19) rfl H rfl ?_
   exact ⟨congrArg _ (jS (k:=k) (by omega) (by unfold pasOk;rw [Bool.and_eq_false_iff];exact .inl (eF (by omega)))).symm,(S.sel [] G G)⟩
  try simp only [o1,o2,o3,o4,o5,o6,o7,o8,o9,oa] at hc3
  refine wp_skip ?_
  refine k13 _ _ ?_
  refine wp_seq_k fun K16 k16=>?_
  refine sS H fun K17 k17=>sf hG rfl<|sl S 0 aE G G G<|sr 2 rfl<|sg 3 3 73 76 false G G (fun hg4=>by
      have hq4:=hg4;try simp only [o1,o2,o3,o4,o5,o6,o7,o8,o9,oa] at hq4
      exact sy hg4<|sf hG rfl<|sy hg4<|sl S 0 aE G G G<|sy hg4<|sr 1 rfl<|sz 3 G G G)<|so G G G<|sE ?_;clear H a;intro a H
  refine k17 _ ?_;clear k17 K17
  refine cond_ H rfl (fun hc4=>?_) (fun hc4=>?_)
  ·skip
   try simp only [o1,o2,o3,o4,o5,o6,o7,o8,o9,oa] at hc4
   refine wp_seq_k fun K18 k18=>?_
   replace H:=H.keep [1,3,4,5] rfl
   refine seq_list fun K19 k19=>?_
   refine ls 2 H<|sf dV rfl<|sl S 0 aE G G G<|sE ?_;clear H a;intro a H
   refine aA H G G Try.func33 G G (bU _ _ _ _) ?_;clear H a
   rintro _ _ a ⟨rfl,rfl⟩ H
   refine ls 2 H<|sr 2 rfl<|sE ?_;clear H a;intro a H
   apply cA (i:=4) (g:=82) (t:=86) (b:=false) 4 H S G G (by kernel_rfl) (by kernel_rfl) G G
   case h1=>
    intro hg5
    have hq5:=hg5;try simp only [o1,o2,o3,o4,o5,o6,o7,o8,o9,oa] at hq5
    refine ls 3 H<|sy hg5<|sr 1 rfl<|sy hg5<|sf dV rfl<|sy hg5<|sl S 0 aE G G G<|sE ?_;intro a H
    refine cQ H G G (by assumption) ?_
    refine aA H G G Try.func43 G G (Kf ml A9 c9 _ _ (ownM.inS S (i:=1) rfl) (by have:=hM.1;omega)) ?_
    rintro _ _ a ⟨rfl,S2⟩ H
    replace S:=S.call S2;clear S2
    exact wpList_nil ⟨H.strip 4 G G,(S.sel [0,1,2] G G)⟩
   clear H a S;intro a _ H S
   refine ls 1 H<|so G G G<|sE ?_;clear H a;intro a H
   refine k19 _ _ ?_;clear k19 K19
   refine cond_ H rfl (fun hc5=>?_) (fun hc5=>?_)
   ·skip
    try simp only [o1,o2,o3,o4,o5,o6,o7,o8,o9,oa] at hc5
    replace H:=H.keep [] rfl
    refine sS H fun K20 k20=>sr 1 rfl<|sE ?_;clear H a;intro a H
    refine k20 _ ?_;clear k20 K20
    refine wp_ret ?_
    refine ret1 (fn:=Try.f19) rfl H rfl ?_
    exact ⟨congrArg _ (jS (k:=k) (by omega) (Kc hM hc5 hc4)).symm,(S.sel [] G G)⟩
   try simp only [o1,o2,o3,o4,o5,o6,o7,o8,o9,oa] at hc5
   have hz:=hM.fresh hc5.1.1 hc5.2
   refine wp_skip ?_
   refine k18 _ _ ?_
   refine one_list ?_
   refine ls 3 H<|sr 1 rfl<|sf dV rfl<|sl S 0 aE G G G<|sE ?_;clear H a;intro a H
   refine bD H rfl S aX bK iT G G G G G G G G G ?_;clear H a S;intro A1 _ a hA1 S H
   refine cK H rfl S aX bK iT vJ G G (i:=2) G G G (ownM.inS S (i:=0) rfl) (Ev (w8one rfl)) (by have:=hM.1;omega) (by have:=hM.1;omega) ?_;clear H a S;intro A2 c2 _ a S H
   replace S:=S.recell (i:=2) rfl (cell':=icl (ml++[bT ps k])) (fun q j hq hj=>yM rfl q j hq hj)
   rw [show ml.length+1=(ml++[bT ps k]).length by simp] at H S
   refine ls 1 H<|sr 1 rfl<|sE ?_;clear H a;intro a H
   refine k16 _ _ ?_
   replace H:=H.keep [1,3,4,5] rfl
   refine sS H fun K22 k22=>sf hG rfl<|sl S 1 aE G G G<|sr 1 rfl<|sE ?_;clear H a;intro a H
   refine k22 _ ?_;clear k22 K22
   refine condE H rfl (fun hc6=>?_) (fun hc6=>?_)
   ·skip
    refine sS H fun K23 k23=>sf jR rfl<|sl S 1 aE G G G<|sc rfl Try.func33 G G (bU _ _ _ _)<|sr 1 rfl<|sE ?_;clear H a;intro a H
    refine k23 _ ?_;clear k23 K23
    refine cond_ H rfl (fun hc7=>?_) (fun hc7=>?_)
    ·skip
     try simp only [o1,o2,o3,o4,o5,o6,o7,o8,o9,oa] at hc7
     refine sS H fun K24 k24=>sr 1 rfl<|sE ?_;clear H a;intro a H
     refine k24 _ ?_;clear k24 K24
     refine wp_ret ?_
     refine ret1 (fn:=Try.f19) rfl H rfl ?_
     exact ⟨congrArg _ (jS (k:=k) (by omega) (by unfold pasOk;rw [Bool.and_eq_false_iff];exact .inl (eF (by omega)))).symm,(S.sel [] G G)⟩
    try simp only [o1,o2,o3,o4,o5,o6,o7,o8,o9,oa] at hc7
    refine wp_skip ?_
    refine k11 _ _ ?_
    replace H:=H.keep [1,3,4] rfl
    refine sO H<|sr 1 rfl<|sd (aL G G (by unfold i64ok;omega))<|sr 1 rfl<|sE ?_;clear H a;intro a H
    exact k8 (g1-1) (k+1,_,_,_) a _ (by omega) (by first|exact ⟨by omega,by omega,bW hA (nH (dW.2 (by omega)) hz),hM.add⟩|exact ⟨by omega,by omega,bW hA (nI (dW.2 (by omega)) (by omega)),hM.skip (by unfold bT;omega)⟩) (S.sel [2,3] G G) (H.keep [3,4,1] rfl)
   refine sS H fun K26 k26=>sf jR rfl<|sl S 1 aE G G G<|sr 1 rfl<|sE ?_;clear H a;intro a H
   refine k26 _ ?_;clear k26 K26
   refine condN H rfl (fun hc8=>?_) (fun hc8=>?_)
   ·skip
    refine sS H fun K27 k27=>sr 1 rfl<|sE ?_;clear H a;intro a H
    refine k27 _ ?_;clear k27 K27
    refine wp_ret ?_
    refine ret1 (fn:=Try.f19) rfl H rfl ?_
    exact ⟨congrArg _ (jS (k:=k) (by omega) (by unfold pasOk;rw [Bool.and_eq_false_iff];exact .inl (eF (by omega)))).symm,(S.sel [] G G)⟩
   refine wp_skip ?_
   refine k11 _ _ ?_
   replace H:=H.keep [1,3,4] rfl
   refine sO H<|sr 1 rfl<|sd (aL G G (by unfold i64ok;omega))<|sr 1 rfl<|sE ?_;clear H a;intro a H
   exact k8 (g1-1) (k+1,_,_,_) a _ (by omega) (by first|exact ⟨by omega,by omega,bW hA (nH (dW.2 (by omega)) hz),hM.add⟩|exact ⟨by omega,by omega,bW hA (nI (dW.2 (by omega)) (by omega)),hM.skip (by unfold bT;omega)⟩) (S.sel [2,3] G G) (H.keep [3,4,1] rfl)
  try simp only [o1,o2,o3,o4,o5,o6,o7,o8,o9,oa] at hc4
  refine sS H fun K29 k29=>sf dV rfl<|sl S 0 aE G G G<|sr 1 rfl<|sE ?_;clear H a;intro a H
  refine k29 _ ?_;clear k29 K29
  refine condN H rfl (fun hc9=>?_) (fun hc9=>?_)
  ·skip
   refine sS H fun K30 k30=>sr 1 rfl<|sE ?_;clear H a;intro a H
   refine k30 _ ?_;clear k30 K30
   refine wp_ret ?_
   refine ret1 (fn:=Try.f19) rfl H rfl ?_
   exact ⟨congrArg _ (jS (k:=k) (by omega) (by unfold pasOk;rw [Bool.and_eq_false_iff];exact .inl (eF (by omega)))).symm,(S.sel [] G G)⟩
  refine wp_skip ?_
  refine k16 _ _ ?_
  replace H:=H.keep [1,3,4,5] rfl
  refine sS H fun K31 k31=>sf hG rfl<|sl S 0 aE G G G<|sr 1 rfl<|sE ?_;clear H a;intro a H
  refine k31 _ ?_;clear k31 K31
  refine condE H rfl (fun hc10=>?_) (fun hc10=>?_)
  ·skip
   refine sS H fun K32 k32=>sf jR rfl<|sl S 0 aE G G G<|sc rfl Try.func33 G G (bU _ _ _ _)<|sr 1 rfl<|sE ?_;clear H a;intro a H
   refine k32 _ ?_;clear k32 K32
   refine cond_ H rfl (fun hc11=>?_) (fun hc11=>?_)
   ·skip
    try simp only [o1,o2,o3,o4,o5,o6,o7,o8,o9,oa] at hc11
    refine sS H fun K33 k33=>sr 1 rfl<|sE ?_;clear H a;intro a H
    refine k33 _ ?_;clear k33 K33
    refine wp_ret ?_
    refine ret1 (fn:=Try.f19) rfl H rfl ?_
    exact ⟨congrArg _ (jS (k:=k) (by omega) (by unfold pasOk;rw [Bool.and_eq_false_iff];exact .inl (eF (by omega)))).symm,(S.sel [] G G)⟩
   try simp only [o1,o2,o3,o4,o5,o6,o7,o8,o9,oa] at hc11
   refine wp_skip ?_
   refine k11 _ _ ?_
   replace H:=H.keep [1,3,4] rfl
   refine sO H<|sr 1 rfl<|sd (aL G G (by unfold i64ok;omega))<|sr 1 rfl<|sE ?_;clear H a;intro a H
   exact k8 (g1-1) (k+1,_,_,_) a _ (by omega) (by first|exact ⟨by omega,by omega,bW hA (nH (dW.2 (by omega)) hz),hM.add⟩|exact ⟨by omega,by omega,bW hA (nI (dW.2 (by omega)) (by omega)),hM.skip (by unfold bT;omega)⟩) (S.sel [1,2] G G) (H.keep [3,4,1] rfl)
  refine sS H fun K35 k35=>sf jR rfl<|sl S 0 aE G G G<|sr 1 rfl<|sE ?_;clear H a;intro a H
  refine k35 _ ?_;clear k35 K35
  refine condN H rfl (fun hc12=>?_) (fun hc12=>?_)
  ·skip
   refine sS H fun K36 k36=>sr 1 rfl<|sE ?_;clear H a;intro a H
   refine k36 _ ?_;clear k36 K36
   refine wp_ret ?_
   refine ret1 (fn:=Try.f19) rfl H rfl ?_
   exact ⟨congrArg _ (jS (k:=k) (by omega) (by unfold pasOk;rw [Bool.and_eq_false_iff];exact .inl (eF (by omega)))).symm,(S.sel [] G G)⟩
  refine wp_skip ?_
  refine k11 _ _ ?_
  replace H:=H.keep [1,3,4] rfl
  refine sO H<|sr 1 rfl<|sd (aL G G (by unfold i64ok;omega))<|sr 1 rfl<|sE ?_;clear H a;intro a H
  exact k8 (g1-1) (k+1,_,_,_) a _ (by omega) (by first|exact ⟨by omega,by omega,bW hA (nH (dW.2 (by omega)) hz),hM.add⟩|exact ⟨by omega,by omega,bW hA (nI (dW.2 (by omega)) (by omega)),hM.skip (by unfold bT;omega)⟩) (S.sel [1,2] G G) (H.keep [3,4,1] rfl)
 refine wp_exit ?_
 refine k6 _ _ ?_
 refine wp_seq_k fun K38 k38=>?_
 refine sS H fun K39 k39=>sr 1 rfl<|sE ?_;clear H a;intro a H
 refine k39 _ ?_;clear k39 K39
 refine wp_block ?_
 refine loop_st (X:=Nat) (R0:=_) [1] H rfl (fun k2=>[(6,.int .i64 (k2:Int))]) (fun k2=>[]) (fun g k2=>k2≤xs.length∧g+k2=xs.length∧allN (exOk pl xs) k2=true) (xs.length) 0 ?_ (S.sel [0,1] G G) (H.keep [6,1] rfl) ?_
 · exact ⟨by omega,by omega,rfl⟩
 clear H S a
 intro g2 x2 a w2 hp S H K40 k40
 obtain ⟨k2,rfl⟩:∃ y,y=x2:=⟨_,rfl⟩
 refine wp_seq_k fun K41 k41=>?_
 refine sS H fun K42 k42=>sr 1 rfl<|sf mK rfl<|sl S 1 bM G G G<|sL aX rfl<|sr 1 rfl<|sE ?_;clear H a;intro a H
 refine k42 _ ?_;clear k42 K42
 refine condL H rfl (fun hc13=>?_) (fun hc13=>?_)
 ·skip
  refine wp_skip ?_
  refine k41 _ _ ?_
  refine wp_seq_k fun K43 k43=>?_
  refine wp_block ?_
  replace H:=H.keep [1,6] rfl
  replace S:=S.drew
  refine sD H fun K44 k44=>sf mK rfl<|sl S 1 bM G G G<|sr 1 rfl<|si aX bK G G (hxs.adr (by omega)) (by omega)<|slm aE rfl (hxs.rd S (by omega) (by omega))<|sf dU rfl<|sl S 1 aE G G G<|sd (aR G G (by unfold i64ok;omega))<|sc rfl Try.func33 G G (bU _ _ _ _)<|sr 2 rfl<|sg 16 10 123 139 false G G (fun hg11=>by
      have hq11:=hg11;try simp only [o1,o2,o3,o4,o5,o6,o7,o8,o9,oa] at hq11
      exact sy hg11<|sr 1 rfl<|sy hg11<|sr 1 rfl<|sy hg11<|sr 1 rfl<|sg 12 13 126 138 true G G (fun hg14=>by
           have hq14:=hg14;try simp only [o1,o2,o3,o4,o5,o6,o7,o8,o9,oa] at hq14
           exact sy hg14<|sf mK rfl<|sy hg14<|sl S 1 bM G G G<|sy hg14<|sr 1 rfl<|sy hg14<|si aX bK G G (hxs.adr (by omega)) (by omega)<|sy hg14<|slm aE rfl (hxs.rd S (by omega) (by omega))<|sy hg14<|sf mK rfl<|sy hg14<|sl S 1 bM G G G<|sy hg14<|sr 1 rfl<|sy hg14<|sd (aR G G (by unfold i64ok;omega))<|sy hg14<|sI aX bK G G (hxs.adr (by omega)) (by omega) (by omega)<|sy hg14<|slm aE rfl (hxs.rd S (by omega) (by omega))<|sy hg14<|sr 1 rfl<|sz 12 G G G)<|sy hg11<|sa G G G<|sz 5 G G G)<|so G G G<|sE ?_;clear H a;intro a H
  refine k44 _ ?_;clear k44 K44
  refine cond_ H rfl (fun hc14=>?_) (fun hc14=>?_)
  ·skip
   try simp only [o1,o2,o3,o4,o5,o6,o7,o8,o9,oa] at hc14
   rw [show ((k2:Int)-1).toNat=k2-1 by omega] at hc14
   replace H:=H.keep [] rfl
   refine sS H fun K45 k45=>sr 1 rfl<|sE ?_;clear H a;intro a H
   refine k45 _ ?_;clear k45 K45
   refine wp_ret ?_
   refine ret1 (fn:=Try.f19) rfl H rfl ?_
   exact ⟨congrArg _ (Lq (k:=k2) (by omega) (Ke (by omega))).symm,(S.sel [] G G)⟩
  try simp only [o1,o2,o3,o4,o5,o6,o7,o8,o9,oa] at hc14
  rw [show ((k2:Int)-1).toNat=k2-1 by omega] at hc14
  refine wp_skip ?_
  refine k43 _ _ ?_
  refine sO H<|sr 1 rfl<|sd (aL G G (by unfold i64ok;omega))<|sr 1 rfl<|sE ?_;clear H a;intro a H
  exact k40 (g2-1) (k2+1) a _ (by omega) (⟨by omega,by omega,bW hp.2.2 (Kd (by omega))⟩) (S.sel [0,1] G G) (H.keep [6,1] rfl)
 refine wp_exit ?_
 refine k38 _ _ ?_
 refine sS H fun K47 k47=>sr 1 rfl<|sE ?_;clear H a;intro a H
 refine k47 _ ?_;clear k47 K47
 refine wp_ret ?_
 refine ret1 (fn:=Try.f19) rfl H rfl ?_
 have hk9:k=ps.length:=by omega
 have hk8:k2=xs.length:=by omega
 exact ⟨congrArg _ (Lr (by omega) (hk9 ▸ hA) (hk8 ▸ hp.2.2)).symm,(S.sel [] G G)⟩
end
section
theorem nJ (pl:Int) (ps:List Psg) (PA:Option Addr) (pc:Nat) (xs:List Int) (XA:Option Addr) (xc:Nat) (pe:List Int) (BA:Option Addr) (bc:Nat) (w:World) (hpe:InS w noF 1 BA pe.length (icl pe)) (hpen:pe.length≤9223372036854775807) :
    Calls Try.prog 32 [.agg [.int .i64 pl,.slice PA ps.length pc,.slice XA xs.length xc].toArray,.slice BA pe.length bc].toArray w (Ret (fun v w'=>v = .bool (eB pl pe)∧St w noF [] w')):=by
 refine enter Try.func32 rfl Try.ntmps32 rfl (fun a H=>?_)
 have S:=St.start w
 refine seq_list fun K1 k1=>?_
 refine aQ H rfl S G G ?_;clear H a S;intro b2 _ a hb2 hbw2 S H
 refine ls 1 H<|sr 1 rfl<|sE ?_;clear H a;intro a H
 refine k1 _ _ ?_;clear k1 K1
 refine wp_seq_k fun K2 k2=>?_
 refine sS H fun K3 k3=>sr 1 rfl<|sE ?_;clear H a;intro a H
 refine k3 _ ?_;clear k3 K3
 refine wp_block ?_
 refine loop_st (X:=Nat) (R0:=_) [1,2] H rfl (fun k=>[(5,.int .i64 (k:Int))]) (fun k=>[]) (fun g k=>k≤pe.length∧g+k=pe.length∧allN (fun k=>decide (0≤pe.getD k 0∧pe.getD k 0≤1000)) k=true) (pe.length) 0 ?_ (S.sel [0] G G) (H.keep [5,1,2] rfl) ?_
 · exact ⟨by omega,by omega,rfl⟩
 clear H S a
 intro g1 x1 a w1 hp S H K4 k4
 obtain ⟨k,rfl⟩:∃ y,y=x1:=⟨_,rfl⟩
 refine wp_seq_k fun K5 k5=>?_
 refine sS H fun K6 k6=>sr 2 rfl<|sL aX rfl<|sr 1 rfl<|sE ?_;clear H a;intro a H
 refine k6 _ ?_;clear k6 K6
 refine condL H rfl (fun hc1=>?_) (fun hc1=>?_)
 ·skip
  refine wp_skip ?_
  refine k5 _ _ ?_
  refine wp_seq_k fun K7 k7=>?_
  refine wp_block ?_
  replace H:=H.keep [1,2,5] rfl
  refine sS H fun K8 k8=>sr 2 rfl<|si aX bK G G (hpe.adr (by omega)) (by omega)<|slm aE rfl (hpe.rd S (by omega) (by omega))<|sc rfl Try.func33 G G (bU _ _ _ _)<|sr 1 rfl<|sE ?_;clear H a;intro a H
  refine k8 _ ?_;clear k8 K8
  refine cond_ H rfl (fun hc2=>?_) (fun hc2=>?_)
  ·skip
   try simp only [o1,o2,o3,o4,o5,o6,o7,o8,o9,oa] at hc2
   refine sS H fun K9 k9=>sr 1 rfl<|sE ?_;clear H a;intro a H
   refine k9 _ ?_;clear k9 K9
   refine wp_ret ?_
   refine ret1 (fn:=Try.f32) rfl H rfl ?_
   refine ⟨congrArg Value.bool ?_,(S.sel [] G G)⟩;unfold eB;rw [fA (k:=k) (by omega) (by rw [decide_eq_false_iff_not];omega)];rfl
  try simp only [o1,o2,o3,o4,o5,o6,o7,o8,o9,oa] at hc2
  refine wp_skip ?_
  refine k7 _ _ ?_
  replace H:=H.keep [1,2,5] rfl
  refine sO H<|sr 1 rfl<|sd (aL G G (by unfold i64ok;omega))<|sr 1 rfl<|sE ?_;clear H a;intro a H
  exact k4 (g1-1) (k+1) a _ (by omega) (⟨by omega,by omega,bW hp.2.2 (by rw [decide_eq_true_eq];omega)⟩) (S.sel [0] G G) (H.keep [5,1,2] rfl)
 refine wp_exit ?_
 refine k2 _ _ ?_
 refine sS H fun K11 k11=>sr 1 rfl<|sL aX rfl<|sf dU rfl<|sl S 0 aE G G G<|sr 2 rfl<|sE ?_;clear H a;intro a H
 refine k11 _ ?_;clear k11 K11
 refine wp_ret ?_
 refine ret1 (fn:=Try.f32) rfl H rfl ?_
 refine ⟨congrArg Value.bool ?_,(S.sel [] G G)⟩;unfold eB;rw [show pe.length=k by omega,hp.2.2,Bool.true_and]
theorem uE (pl:Int) (ps:List Psg) (PA:Option Addr) (pc:Nat) (xs:List Int) (XA:Option Addr) (xc:Nat) (day:List Hq) (HA:Option Addr) (hcp:Nat) (DA:Nat→Option Addr) (dc:Nat→Nat) (w:World) (hps:InS w noF 7 PA ps.length (pcell ps)) (hpn:ps.length≤9223372036854775807) (hxs:InS w noF 1 XA xs.length (icl xs)) (hxn:xs.length≤9223372036854775807) (hday:InS w noF 3 HA day.length (hcl day DA dc)) (hdn:day.length≤9223372036854775807) (hdp:∀ k,k<day.length→InS w noF 1 (DA k) (day.getD k Hq.zero).pe.length (icl (day.getD k Hq.zero).pe)) (hdl:∀ k,k<day.length→(day.getD k Hq.zero).pe.length≤9223372036854775807) :
    Calls Try.prog 44 [.agg [.int .i64 pl,.slice PA ps.length pc,.slice XA xs.length xc].toArray,.slice HA day.length hcp].toArray w (Ret (fun v w'=>v = .int .i64 (dayE pl ps xs day)∧St w noF [] w')):=by
 refine enter Try.func44 rfl Try.ntmps44 rfl (fun a H=>?_)
 have S:=St.start w
 refine seq_list fun K1 k1=>?_
 refine aQ H rfl S G G ?_;clear H a S;intro b2 _ a hb2 hbw2 S H
 refine ls 1 H<|sr 1 rfl<|sE ?_;clear H a;intro a H
 refine k1 _ _ ?_;clear k1 K1
 refine seq_list fun K2 k2=>?_
 refine ls 1 H<|sd ((aB dY fZ rfl S (i:=0) G G))<|sE ?_;clear H a;intro a H
 refine aA H G G Try.func19 G G (kL pl ps PA pc xs XA xc _ (hps.now S) hpn (hxs.now S) hxn) ?_;clear H a
 rintro _ _ a ⟨rfl,S2⟩ H
 replace S:=S.call S2;clear S2
 refine ls 1 H<|sr 1 rfl<|sE ?_;clear H a;intro a H
 refine k2 _ _ ?_;clear k2 K2
 refine wp_seq_k fun K3 k3=>?_
 refine sS H fun K4 k4=>sr 2 rfl<|sE ?_;clear H a;intro a H
 refine k4 _ ?_;clear k4 K4
 refine condN H rfl (fun hc1=>?_) (fun hc1=>?_)
 ·skip
  refine sS H fun K5 k5=>sr 2 rfl<|sE ?_;clear H a;intro a H
  refine k5 _ ?_;clear k5 K5
  refine wp_ret ?_
  refine ret1 (fn:=Try.f44) rfl H rfl ?_
  refine ⟨congrArg (Value.int .i64) ?_,(S.sel [] G G)⟩;unfold dayE;rw [if_pos hc1]
 have hst:stE pl ps xs=0:=by omega
 refine wp_skip ?_
 refine k3 _ _ ?_
 refine wp_seq_k fun K6 k6=>?_
 replace H:=H.keep [1,2] rfl
 refine sS H fun K7 k7=>sr 1 rfl<|sL iS rfl<|sr 1 rfl<|sE ?_;clear H a;intro a H
 refine k7 _ ?_;clear k7 K7
 refine condL H rfl (fun hc2=>?_) (fun hc2=>?_)
 ·skip
  refine sS H fun K8 k8=>sr 1 rfl<|sE ?_;clear H a;intro a H
  refine k8 _ ?_;clear k8 K8
  refine wp_ret ?_
  refine ret1 (fn:=Try.f44) rfl H rfl ?_
  refine ⟨congrArg (Value.int .i64) ?_,(S.sel [] G G)⟩;unfold dayE;rw [if_neg (by omega),if_neg];unfold dayOk;rw [decide_eq_false (p:=day.length≤48) (by omega),Bool.and_false];simp
 refine wp_skip ?_
 refine k6 _ _ ?_
 refine wp_seq_k fun K9 k9=>?_
 refine sS H fun K10 k10=>sr 1 rfl<|sE ?_;clear H a;intro a H
 refine k10 _ ?_;clear k10 K10
 refine wp_block ?_
 refine loop_st (X:=Nat) (R0:=_) [1,2] H rfl (fun k=>[(6,.int .i64 (k:Int))]) (fun k=>[]) (fun g k=>k≤day.length∧g+k=day.length∧allN (fun k=>hqOk pl (day.getD k Hq.zero)) k=true) (day.length) 0 ?_ (S.sel [0] G G) (H.keep [6,1,2] rfl) ?_
 · exact ⟨by omega,by omega,rfl⟩
 clear H S a
 intro g1 x1 a w1 hp S H K11 k11
 obtain ⟨k,rfl⟩:∃ y,y=x1:=⟨_,rfl⟩
 refine wp_seq_k fun K12 k12=>?_
 refine sS H fun K13 k13=>sr 2 rfl<|sL iS rfl<|sr 1 rfl<|sE ?_;clear H a;intro a H
 refine k13 _ ?_;clear k13 K13
 refine condL H rfl (fun hc3=>?_) (fun hc3=>?_)
 ·skip
  refine wp_skip ?_
  refine k12 _ _ ?_
  refine wp_seq_k fun K14 k14=>?_
  refine wp_block ?_
  by_cases hB:0≤(day.getD k Hq.zero).out∧(day.getD k Hq.zero).out≤4095
  ·skip
   replace H:=H.keep [1,2,6] rfl
   replace S:=S.drew
   refine seq_wq [(0,true),(1,true),(2,true),(3,true),(4,true),(5,false),(6,true),(7,true),(8,true),(9,true),(10,true),(11,true),(12,true),(13,true),(14,false),(15,true),(16,true)] (by kernel_rfl) (by kernel_rfl) (S.sel [0] G G) fun K15 k15=>?_
   refine qF H<|qr 2 rfl<|qd rfl (fun _ S=>fF iS jM G G (hday.adr (by omega)) (by omega))<|qd rfl (fun _ S=>(gI mV rfl))<|qd rfl (fun _ S=>aH aE rfl (hday.rd S (by omega) (by omega)))<|qK ?_;clear H a;intro a H
   refine aT rfl ?_
   refine aA H G G Try.func31 G G (uD _ _) ?_;clear H a
   rintro _ _ a ⟨rfl,rfl⟩ H
   rw [decide_eq_true hB.1,decide_eq_true hB.2,Bool.and_self] at H
   refine wpList_nil (And.intro (S.sel [0] G G) ?_)
   refine qF H<|qr 2 rfl<|qK ?_;clear H a;intro a H
   refine aG H G G G G (fun _ S=>(aB dY fZ rfl S (i:=0) G G)) ?_;clear H a;intro a H
   refine aG H G G G G (fun _ S=>aM rfl) ?_;clear H a;intro a H
   refine aG H G G G G (fun _ S=>aM rfl) ?_;clear H a;intro a H
   refine aG H G G G G (fun _ S=>fF iS jM G G (hday.adr (by omega)) (by omega)) ?_;clear H a;intro a H
   refine aG H G G G G (fun _ S=>(gI vG rfl)) ?_;clear H a;intro a H
   refine aG H G G G G (fun _ S=>aH bM rfl (hday.rd S (by omega) (by omega))) ?_;clear H a;intro a H
   refine aT rfl ?_
   refine aW H G G ?_
   refine aA H G G Try.func32 G G (nJ pl ps PA pc xs XA xc (day.getD k Hq.zero).pe (DA k) (dc k) _ ((hdp k (by omega)).now S) (hdl k (by omega))) ?_;clear H a
   rintro _ _ a ⟨rfl,S2⟩ H
   replace S:=S.call S2;clear S2
   refine wpList_nil (And.intro (S.sel [0] G G) ?_)
   refine aG H G G G G (fun _ S=>cF rfl) ?_;clear H a;intro a H
   refine qF H<|qd rfl (fun _ S=>(aV G G G))<|qK ?_;clear H a;intro a H
   refine bJ ?_
   refine k15 _ _ ?_
   clear k15 K15
   refine cond_ H rfl (fun hc4=>?_) (fun hc4=>?_)
   ·skip
    try simp only [o1,o2,o3,o4,o5,o6,o7,o8,o9,oa] at hc4
    replace H:=H.keep [] rfl
    refine sS H fun K16 k16=>sr 1 rfl<|sE ?_;clear H a;intro a H
    refine k16 _ ?_;clear k16 K16
    refine wp_ret ?_
    refine ret1 (fn:=Try.f44) rfl H rfl ?_
    refine ⟨congrArg (Value.int .i64) ?_,(S.sel [] G G)⟩;unfold dayE;rw [if_neg (by omega),qB (k:=k) (by omega) (by unfold hqOk;rw [hc4.resolve_left (by simp),Bool.and_false])];rfl
   try simp only [o1,o2,o3,o4,o5,o6,o7,o8,o9,oa] at hc4
   refine wp_skip ?_
   refine k14 _ _ ?_
   refine sO H<|sr 1 rfl<|sd (aL G G (by unfold i64ok;omega))<|sr 1 rfl<|sE ?_;clear H a;intro a H
   exact k11 (g1-1) (k+1) a _ (by omega) (⟨by omega,by omega,bW hp.2.2 (by unfold hqOk;rw [decide_eq_true hB,hc4.2];rfl)⟩) (S.sel [0] G G) (H.keep [6,1,2] rfl)
  replace H:=H.keep [1,2,6] rfl
  replace S:=S.drew
  refine seq_wq [(0,true),(1,true),(2,true),(3,true),(4,true),(5,false),(6,true),(7,true),(8,true),(9,true),(10,true),(11,true),(12,true),(13,true),(14,true),(15,true),(16,true)] (by kernel_rfl) (by kernel_rfl) (S.sel [0] G G) fun K18 k18=>?_
  refine qF H<|qr 2 rfl<|qd rfl (fun _ S=>fF iS jM G G (hday.adr (by omega)) (by omega))<|qd rfl (fun _ S=>(gI mV rfl))<|qd rfl (fun _ S=>aH aE rfl (hday.rd S (by omega) (by omega)))<|qK ?_;clear H a;intro a H
  refine aT rfl ?_
  refine aA H G G Try.func31 G G (uD _ _) ?_;clear H a
  rintro _ _ a ⟨rfl,rfl⟩ H
  rw [Bool.and_eq_false_iff.2 (by simp only [decide_eq_false_iff_not];omega)] at H
  refine wpList_nil (And.intro (S.sel [0] G G) ?_)
  refine qF H<|qr 2 rfl<|qK ?_;clear H a;intro a H
  refine aJ H G G G G G ?_;clear H a;intro a H
  refine aJ H G G G G G ?_;clear H a;intro a H
  refine aJ H G G G G G ?_;clear H a;intro a H
  refine aJ H G G G G G ?_;clear H a;intro a H
  refine aJ H G G G G G ?_;clear H a;intro a H
  refine aJ H G G G G G ?_;clear H a;intro a H
  refine aJ H G G G G G ?_;clear H a;intro a H
  refine aJ H G G G G G ?_;clear H a;intro a H
  refine qF H<|qd rfl (fun _ S=>(aS G G G))<|qK ?_;clear H a;intro a H
  refine bJ ?_
  refine k18 _ _ ?_
  clear k18 K18
  refine cond_ H rfl (fun hc5=>?_) (fun hc5=>?_)
  ·skip
   skip
   replace H:=H.keep [] rfl
   refine sS H fun K19 k19=>sr 1 rfl<|sE ?_;clear H a;intro a H
   refine k19 _ ?_;clear k19 K19
   refine wp_ret ?_
   refine ret1 (fn:=Try.f44) rfl H rfl ?_
   refine ⟨congrArg (Value.int .i64) ?_,(S.sel [] G G)⟩;unfold dayE;rw [if_neg (by omega),qB (k:=k) (by omega) (by unfold hqOk;rw [decide_eq_false hB];rfl)];rfl
  skip
  cases hc5
 refine wp_exit ?_
 refine k9 _ _ ?_
 refine sS H fun K20 k20=>sr 1 rfl<|sE ?_;clear H a;intro a H
 refine k20 _ ?_;clear k20 K20
 refine wp_ret ?_
 refine ret1 (fn:=Try.f44) rfl H rfl ?_
 obtain rfl:k=day.length:=by omega
 exact ⟨congrArg (Value.int .i64) (rU hst (by rw [vP hp.2.2];exact decide_eq_true (by omega))).symm,(S.sel [] G G)⟩
theorem nK (pl:Int) (ps:List Psg) (PA:Option Addr) (pc:Nat) (xs:List Int) (XA:Option Addr) (xc:Nat) (day:List Hq) (HA:Option Addr) (hcp:Nat) (DA:Nat→Option Addr) (dc:Nat→Nat) (l:List Prm) (LA:Option Addr) (lc:Nat) (w:World) (hps:InS w noF 7 PA ps.length (pcell ps)) (hpn:ps.length≤9223372036854775807) (hxs:InS w noF 1 XA xs.length (icl xs)) (hxn:xs.length≤9223372036854775807) (hday:InS w noF 3 HA day.length (hcl day DA dc)) (hdn:day.length≤9223372036854775807) (hdp:∀ k,k<day.length→InS w noF 1 (DA k) (day.getD k Hq.zero).pe.length (icl (day.getD k Hq.zero).pe)) (hdl:∀ k,k<day.length→(day.getD k Hq.zero).pe.length≤9223372036854775807) (hl:InS w noF 5 LA l.length (lQ l)) (hln:l.length≤9223372036854775807) :
    Calls Try.prog 20 [.agg [.int .i64 pl,.slice PA ps.length pc,.slice XA xs.length xc].toArray,.slice HA day.length hcp,.slice LA l.length lc].toArray w (Ret (fun v w'=>v = .int .i64 (keptE pl ps xs day l)∧St w noF [] w')):=by
 refine enter Try.func20 rfl Try.ntmps20 rfl (fun a H=>?_)
 have S:=St.start w
 refine seq_list fun K1 k1=>?_
 refine aQ H rfl S G G ?_;clear H a S;intro b3 _ a hb3 hbw3 S H
 refine ls 1 H<|sr 1 rfl<|sE ?_;clear H a;intro a H
 refine k1 _ _ ?_;clear k1 K1
 refine seq_list fun K2 k2=>?_
 refine ls 2 H<|sd ((aB dY fZ rfl S (i:=0) G G))<|sr 1 rfl<|sE ?_;clear H a;intro a H
 refine aA H G G Try.func44 G G (uE pl ps PA pc xs XA xc day HA hcp DA dc _ (hps.now S) hpn (hxs.now S) hxn (hday.now S) hdn (fun k hk=>(hdp k hk).now S) hdl) ?_;clear H a
 rintro _ _ a ⟨rfl,S2⟩ H
 replace S:=S.call S2;clear S2
 refine ls 1 H<|sr 1 rfl<|sE ?_;clear H a;intro a H
 refine k2 _ _ ?_;clear k2 K2
 refine wp_seq_k fun K3 k3=>?_
 refine sS H fun K4 k4=>sr 2 rfl<|sE ?_;clear H a;intro a H
 refine k4 _ ?_;clear k4 K4
 refine condN H rfl (fun hc1=>?_) (fun hc1=>?_)
 ·skip
  replace H:=H.keep [7] rfl
  refine sS H fun K5 k5=>sr 2 rfl<|sE ?_;clear H a;intro a H
  refine k5 _ ?_;clear k5 K5
  refine wp_ret ?_
  refine ret1 (fn:=Try.f20) rfl H rfl ?_
  refine ⟨congrArg (Value.int .i64) ?_,(S.sel [] G G)⟩;unfold keptE;rw [if_pos hc1]
 have hdE:dayE pl ps xs day=0:=by omega
 have hV:=mW (tS hdE).1
 have hP10:=hV.size
 refine wp_skip ?_
 refine k3 _ _ ?_
 refine wp_seq_k fun K6 k6=>?_
 refine sS H fun K7 k7=>sr 1 rfl<|sL mH rfl<|sr 1 rfl<|sE ?_;clear H a;intro a H
 refine k7 _ ?_;clear k7 K7
 refine condL H rfl (fun hc2=>?_) (fun hc2=>?_)
 ·skip
  refine sS H fun K8 k8=>sr 1 rfl<|sE ?_;clear H a;intro a H
  refine k8 _ ?_;clear k8 K8
  refine wp_ret ?_
  refine ret1 (fn:=Try.f20) rfl H rfl ?_
  exact ⟨congrArg (Value.int .i64) (kZ hdE (vR (by omega))).symm,(S.sel [] G G)⟩
 refine wp_skip ?_
 refine k6 _ _ ?_
 refine wp_seq_k fun K9 k9=>?_
 refine sS H fun K10 k10=>sr 1 rfl<|sE ?_;clear H a;intro a H
 refine k10 _ ?_;clear k10 K10
 refine wp_block ?_
 refine loop_st (X:=Nat) (R0:=_) [2,3] H rfl (fun k=>[(8,.int .i64 (k:Int))]) (fun k=>[]) (fun g k=>k≤l.length∧g+k=l.length∧allN (fun k=>prmOk pl (l.getD k Prm.zero)) k=true) (l.length) 0 ?_ (S.sel [0] G G) (H.keep [8,2,3] rfl) ?_
 · exact ⟨by omega,by omega,rfl⟩
 clear H S a
 intro g1 x1 a w1 hp S H K11 k11
 obtain ⟨k,rfl⟩:∃ y,y=x1:=⟨_,rfl⟩
 refine wp_seq_k fun K12 k12=>?_
 refine sS H fun K13 k13=>sr 2 rfl<|sL mH rfl<|sr 1 rfl<|sE ?_;clear H a;intro a H
 refine k13 _ ?_;clear k13 K13
 refine condL H rfl (fun hc3=>?_) (fun hc3=>?_)
 ·skip
  refine wp_skip ?_
  refine k12 _ _ ?_
  refine wp_seq_k fun K14 k14=>?_
  refine wp_block ?_
  replace H:=H.keep [2,3,8] rfl
  refine seq_list fun K15 k15=>?_
  refine ls 4 H<|sr 2 rfl<|si mH jL G G (hl.adr (by omega)) (by omega)<|sd ((aU tE jL rfl S hl (by omega) (by omega)))<|sE ?_;clear H a;intro a H
  refine aI H rfl S xP ?_;clear H a S;intro b9 _ a hb9 hbw9 S H
  refine aD H S (i:=0) G G G G jL G G ?_
  clear H a S;intro _ a S H
  refine k15 _ _ ?_;clear k15 K15
  replace H:=H.keep [2,3,8,9] rfl
  refine sS H fun K16 k16=>sf pR rfl<|sl S 0 aE G G G<|sf dU rfl<|sl S 1 aE G G G<|sd (aR G G (by unfold i64ok;omega))<|sc rfl Try.func33 G G (bU _ _ _ _)<|sr 2 rfl<|sg 7 7 36 43 false G G (fun hg8=>by
      have hq8:=hg8;try simp only [o1,o2,o3,o4,o5,o6,o7,o8,o9,oa] at hq8
      exact sy hg8<|sf pS rfl<|sy hg8<|sl S 0 aE G G G<|sy hg8<|sf dU rfl<|sy hg8<|sl S 1 aE G G G<|sy hg8<|sd (aR G G (by unfold i64ok;omega))<|sy hg8<|sc rfl Try.func33 G G (bU _ _ _ _)<|sy hg8<|sr 1 rfl<|sz 7 G G G)<|so G G G<|sr 1 rfl<|sg 6 16 45 51 false G G (fun hg17=>by
      have hq17:=hg17;try simp only [o1,o2,o3,o4,o5,o6,o7,o8,o9,oa] at hq17
      exact sy hg17<|sf mU rfl<|sy hg17<|sl S 0 aE G G G<|sy hg17<|sf kH rfl<|sy hg17<|sl S 0 aE G G G<|sy hg17<|sc rfl Try.func33 G G (bU _ _ _ _)<|sy hg17<|sr 1 rfl<|sz 6 G G G)<|so G G G<|sr 1 rfl<|sg 3 24 53 56 false G G (fun hg25=>by
      have hq25:=hg25;try simp only [o1,o2,o3,o4,o5,o6,o7,o8,o9,oa] at hq25
      exact sy hg25<|sf kH rfl<|sy hg25<|sl S 0 aE G G G<|sy hg25<|sr 1 rfl<|sz 3 G G G)<|so G G G<|sE ?_;clear H a;intro a H
  refine k16 _ ?_;clear k16 K16
  refine cond_ H rfl (fun hc4=>?_) (fun hc4=>?_)
  ·skip
   try simp only [o1,o2,o3,o4,o5,o6,o7,o8,o9,oa] at hc4
   replace H:=H.keep [] rfl
   refine sS H fun K17 k17=>sr 1 rfl<|sE ?_;clear H a;intro a H
   refine k17 _ ?_;clear k17 K17
   refine wp_ret ?_
   refine ret1 (fn:=Try.f20) rfl H rfl ?_
   exact ⟨congrArg (Value.int .i64) (kZ hdE (zW (k:=k) (by omega) (Ff (by omega)))).symm,(S.sel [] G G)⟩
  try simp only [o1,o2,o3,o4,o5,o6,o7,o8,o9,oa] at hc4
  refine wp_skip ?_
  refine k14 _ _ ?_
  refine sO H<|sr 1 rfl<|sd (aL G G (by unfold i64ok;omega))<|sr 1 rfl<|sE ?_;clear H a;intro a H
  exact k11 (g1-1) (k+1) a _ (by omega) (⟨by omega,by omega,bW hp.2.2 (nY.2 (by omega))⟩) (S.sel [1] G G) (H.keep [8,2,3] rfl)
 refine wp_exit ?_
 refine k9 _ _ ?_
 refine sS H fun K19 k19=>sr 1 rfl<|sE ?_;clear H a;intro a H
 refine k19 _ ?_;clear k19 K19
 refine wp_ret ?_
 refine ret1 (fn:=Try.f20) rfl H rfl ?_
 obtain rfl:k=l.length:=by omega
 exact ⟨congrArg (Value.int .i64) (qD hdE (zX hp.2.2 (by omega))).symm,(S.sel [] G G)⟩
end
section
theorem kM (pl:Int) (ps:List Psg) (PA:Option Addr) (pc:Nat) (xs:List Int) (XA:Option Addr) (xc:Nat) (out:Int) (pe:List Int) (BA:Option Addr) (bc:Nat) (T:Int) (w:World) (hps:InS w noF 7 PA ps.length (pcell ps)) (hpn:ps.length≤9223372036854775807) (hxs:InS w noF 1 XA xs.length (icl xs)) (hxn:xs.length≤9223372036854775807) (hpe:InS w noF 1 BA pe.length (icl pe)) (hpen:pe.length≤9223372036854775807) :
    Calls Try.prog 14 [.agg [.int .i64 pl,.slice PA ps.length pc,.slice XA xs.length xc].toArray,.int .i64 out,.slice BA pe.length bc,.int .i64 T].toArray w (Ret (fun v w'=>v = .int .i64 (gV pl ps xs out pe T)∧St w noF [] w')):=by
 refine enter Try.func14 rfl Try.ntmps14 rfl (fun a H=>?_)
 have S:=St.start w
 refine seq_list fun K1 k1=>?_
 refine aQ H rfl S G G ?_;clear H a S;intro b4 _ a hb4 hbw4 S H
 refine ls 1 H<|sr 1 rfl<|sE ?_;clear H a;intro a H
 refine k1 _ _ ?_;clear k1 K1
 refine seq_list fun K2 k2=>?_
 refine ls 1 H<|sd ((aB dY fZ rfl S (i:=0) G G))<|sE ?_;clear H a;intro a H
 refine aA H G G Try.func19 G G (kL pl ps PA pc xs XA xc _ (hps.now S) hpn (hxs.now S) hxn) ?_;clear H a
 rintro _ _ a ⟨rfl,S2⟩ H
 replace S:=S.call S2;clear S2
 refine ls 1 H<|sr 1 rfl<|sE ?_;clear H a;intro a H
 refine k2 _ _ ?_;clear k2 K2
 refine wp_seq_k fun K3 k3=>?_
 refine sS H fun K4 k4=>sr 2 rfl<|sE ?_;clear H a;intro a H
 refine k4 _ ?_;clear k4 K4
 refine condN H rfl (fun hc1=>?_) (fun hc1=>?_)
 ·skip
  refine sS H fun K5 k5=>sr 2 rfl<|sE ?_;clear H a;intro a H
  refine k5 _ ?_;clear k5 K5
  refine wp_ret ?_
  refine ret1 (fn:=Try.f14) rfl H rfl ?_
  refine ⟨?_,(S.sel [] G G)⟩;unfold gV;rw [if_pos hc1]
 refine wp_skip ?_
 refine k3 _ _ ?_
 refine wp_seq_k fun K6 k6=>?_
 replace H:=H.keep [1,2,3,4] rfl
 refine seq_list fun K7 k7=>?_
 refine ls 1 H<|sr 1 rfl<|sE ?_;clear H a;intro a H
 refine aA H G G Try.func31 G G (uD _ _) ?_;clear H a
 rintro _ _ a ⟨rfl,rfl⟩ H
 refine ls 2 H<|sr 2 rfl<|sE ?_;clear H a;intro a H
 apply cA (i:=3) (g:=18) (t:=22) (b:=false) 4 H S G G (by kernel_rfl) (by kernel_rfl) G G
 case h1=>
  intro hg4
  have hq4:=hg4;try simp only [o1,o2,o3,o4,o5,o6,o7,o8,o9,oa] at hq4
  refine ls 2 H<|sy hg4<|sd ((aB dY fZ rfl S (i:=0) G G))<|sy hg4<|sr 1 rfl<|sE ?_;intro a H
  refine cQ H G G (by assumption) ?_
  refine aA H G G Try.func32 G G (nJ pl ps PA pc xs XA xc pe BA bc _ (hpe.now S) hpen) ?_
  rintro _ _ a ⟨rfl,S2⟩ H
  replace S:=S.call S2;clear S2
  refine ls 1 H<|sy hg4<|sr 1 rfl<|sE ?_;intro a H
  exact wpList_nil ⟨H.strip 4 G G,(S.sel [0] G G)⟩
 clear H a S;intro a _ H S
 refine ls 6 H<|so G G G<|sr 1 rfl<|sg 3 9 24 27 false G G (fun hg10=>by
     have hq10:=hg10;try simp only [o1,o2,o3,o4,o5,o6,o7,o8,o9,oa] at hq10
     exact sy hg10<|sr 1 rfl<|sy hg10<|sc rfl Try.func33 G G (bU _ _ _ _)<|sy hg10<|sr 1 rfl<|sz 3 G G G)<|so G G G<|sE ?_;clear H a;intro a H
 refine k7 _ _ ?_;clear k7 K7
 refine cond_ H rfl (fun hc2=>?_) (fun hc2=>?_)
 ·skip
  try simp only [o1,o2,o3,o4,o5,o6,o7,o8,o9,oa] at hc2
  replace H:=H.keep [] rfl
  refine sS H fun K8 k8=>sr 1 rfl<|sE ?_;clear H a;intro a H
  refine k8 _ ?_;clear k8 K8
  refine wp_ret ?_
  refine ret1 (fn:=Try.f14) rfl H rfl ?_
  refine ⟨?_,(S.sel [] rfl rfl)⟩;unfold gV;rw [if_neg (by omega),if_neg (by simp only [Bool.and_eq_true,decide_eq_true_eq];rcases hc2 with (h|h)|h <;> first|(intro h9;omega)|(rw [h];simp))]
 try simp only [o1,o2,o3,o4,o5,o6,o7,o8,o9,oa] at hc2
 refine wp_skip ?_
 refine k6 _ _ ?_
 refine sS H fun K9 k9=>sr 1 rfl<|sE ?_;clear H a;intro a H
 refine k9 _ ?_;clear k9 K9
 refine wp_ret ?_
 refine ret1 (fn:=Try.f14) rfl H rfl ?_
 refine ⟨?_,(S.sel [] G G)⟩;unfold gV;rw [if_neg (by omega),if_pos (by simp only [Bool.and_eq_true,decide_eq_true_eq];exact ⟨⟨by omega,hc2.1.2⟩,by omega⟩)]
end
section
theorem Nj {pe:List Int} (hpp:∀ k,k<pe.length→0≤pe.getD k 0∧pe.getD k 0≤1000) (hl:pe.length≤12) {k:Nat} (hk:k≤pe.length):0≤sumI pe k∧sumI pe k≤12000:=by
  have:=Jz hpp k hk
  omega
end
section
inductive Xt where
  | nil
  | q (i:Nat) (t:Xt)
  | p (i:Nat) (t:Xt)
  | e (i:Nat) (t:Xt)
  | b2 (i:Nat) (t:Xt) (j:Nat) (u:Xt)
  | b3 (i:Nat) (t:Xt) (j:Nat) (u:Xt) (k:Nat) (v:Xt)
  | b4 (i:Nat) (t:Xt) (j:Nat) (u:Xt) (k:Nat) (v:Xt) (m:Nat) (x:Xt)
section
variable {P:Program} {ops:Array Oper} {C:World→Prop} {Qn:Act→World→Prop}
def xt (P:Program) (ops:Array Oper) (C:World→Prop) (z:Nat) (Qn:Act→World→Prop):Xt→Act→World→Prop
  | .nil,a,w=>Qn a w
  | .q i t,a,w=>∃ o v,ops[i]?=some o∧Yd P ops C o v a∧xt P ops C z Qn t (a.put o.dst v) w
  | .p i t,a,w=>∃ o v,ops[i]?=some o∧Yd P ops (fun _=>True) o v a∧xt P ops C z Qn t (a.put o.dst v) w
  | .e i t,a,w=>wpOp P ops NoQ i (fun a' w'=>(i=z∨C w')∧xt P ops C z Qn t a' w') a w
  | .b2 i t j u,a,w=>wpOp P ops NoQ i (fun a' w'=>(i=z∨C w')∧xt P ops C z Qn t a' w') a w∧wpOp P ops NoQ j (fun a' w'=>(j=z∨C w')∧xt P ops C z Qn u a' w') a w
  | .b3 i t j u k v,a,w=>wpOp P ops NoQ i (fun a' w'=>(i=z∨C w')∧xt P ops C z Qn t a' w') a w∧wpOp P ops NoQ j (fun a' w'=>(j=z∨C w')∧xt P ops C z Qn u a' w') a w∧wpOp P ops NoQ k (fun a' w'=>(k=z∨C w')∧xt P ops C z Qn v a' w') a w
  | .b4 i t j u k v m x,a,w=>wpOp P ops NoQ i (fun a' w'=>(i=z∨C w')∧xt P ops C z Qn t a' w') a w∧wpOp P ops NoQ j (fun a' w'=>(j=z∨C w')∧xt P ops C z Qn u a' w') a w∧wpOp P ops NoQ k (fun a' w'=>(k=z∨C w')∧xt P ops C z Qn v a' w') a w∧wpOp P ops NoQ m (fun a' w'=>(m=z∨C w')∧xt P ops C z Qn x a' w') a w
end
section
variable {P:Program} {w w0:World} {F0:Nat→Prop} {R RE:List Mem} {Q:Exit→Act→World→Prop} {Qn:Act→World→Prop} {l:List Oper} {N:FN} {L:List (Nat×Value)} {a:Act} {ty:TypeId} {pos:String} {af:Array Edge} {op:Op} {y:Code} {id z:Nat} {ops:Array Oper} {π t u v3:Xt}
end
end
section
open Classical in
noncomputable def yrB (y:Yr):Bool:=if yrI y then true else false
theorem Gu {y:Yr} (h:yrI y):yrB y=true:=by unfold yrB;rw [if_pos h]
theorem Gv {y:Yr} (h:¬ yrI y):yrB y=false:=by unfold yrB;rw [if_neg h]
theorem Kg {y:Yr}:yrB y=true↔yrI y:=⟨fun h=>Classical.byContradiction (fun h2=>by rw [Gv h2] at h;cases h),Gu⟩
theorem Kh {pl:Int} {ps:List Psg} {xs pe:List Int} {T:Int} (h:stE pl ps xs=0):gV pl ps xs 0 pe T=0↔((pe.length:Int)=pl∧∀ k,k<pe.length→0≤pe.getD k 0∧pe.getD k 0≤1000)∧(0≤T∧T≤60):=by
  constructor
  · intro h1
    obtain ⟨_,_,h2,h3⟩:=rS h1
    have h4:=vM h2
    exact ⟨⟨h4.2,h4.1⟩,h3⟩
  · rintro ⟨⟨h1,h2⟩,h3⟩
    unfold gV
    rw [if_neg (by omega),if_pos]
    have h4:eB pl pe=true:=by unfold eB;rw [decide_eq_true h1,Bool.and_true,cI];exact fun k hk=>decide_eq_true (h2 k hk)
    rw [h4,decide_eq_true h3]
    rfl
theorem Gw {ps:List Psg} {us:List Unt} {n i:Nat} {m:Int}:freeN ps us n (i+1) m=(freeN ps us n i m&&!decide ((us.getD i Unt.zero).mach=m)):=by
  unfold freeN
  simp only [allN,Bool.and_assoc]
theorem Cu {p:Part} {l:List Use} (h:bI p l=0):wearE p l=0↔(refO p l).2.1=false:=by
  unfold refO
  rw [if_neg (by omega)]
  constructor
  · intro h1
    rw [if_neg (by rw [tX (gE h1).2];omega)]
  · intro h1
    split at h1
    · cases h1
    · exact jD h (Iy.2 (by have:=(tW p l).le;omega))
theorem Cv {l:List Use} {o:Int} (h0:0≤o) (h:¬ (0<l.length∧o<(l.getD ((l.length:Int)-1).toNat Use.zero).day)):prevD l l.length≤o:=by
  rcases Nat.eq_zero_or_pos l.length with e|e
  · rw [e];exact h0
  · have h1:=lU (l:=l) (k:=((l.length:Int)-1).toNat) (by omega)
    omega
theorem Cw {l:List Use} {o:Int} (e:0<l.length) (h:o<(l.getD ((l.length:Int)-1).toNat Use.zero).day):o<prevD l l.length:=by
  have h1:=lU (l:=l) (k:=((l.length:Int)-1).toNat) (by omega)
  omega
theorem fT (n lo hi:Int) (w:World) :
    Calls Try.prog 45 [.int .i64 n,.int .i64 lo,.int .i64 hi].toArray w (Ret (fun v w'=>v = .bool (decide (lo≤n)&&decide (n≤hi))∧w'=w)):=by
 refine enter Try.func45 rfl Try.ntmps45 rfl (fun a H=>?_)
 have S:=St.start w
 refine sS H fun K1 k1=>sr 1 rfl<|sE ?_;clear H a;intro a H
 refine k1 _ ?_;clear k1 K1
 replace H:=H.keep [0,1,2] rfl
 refine sS H fun K2 k2=>sr 4 rfl<|sg 3 3 10 13 true G G (fun hg4=>sy hg4<|sr 1 rfl<|sy hg4<|sr 1 rfl<|sy hg4<|sr 1 rfl<|sz 3 G G G)<|sa G G G<|sr 1 rfl<|sE ?_;clear H a;intro a H
 refine k2 _ ?_;clear k2 K2
 refine wp_ret ?_
 refine ret1 (fn:=Try.f45) rfl H rfl ?_
 exact ⟨rfl,rfl⟩
theorem Cx (y:Yr) (w:World) (hy:YIn w noF y) (hyb:YBd y) (hst:stE y.pl y.ps y.xs=0) :
    Calls Try.prog 21 [.agg [.int .i64 y.days,.int .i64 y.pl,.slice y.PA y.ps.length y.pc,.slice y.XA y.xs.length y.xc,.slice y.BA y.pe.length y.bc,.int .i64 y.limit,.bool y.help,.slice y.QA y.prs.length y.qc,.slice y.VA y.us.length y.vc,.int .i64 y.crew,.slice y.SA y.sps.length y.sc].toArray].toArray w (Ret (fun v w'=>v = .bool (yrB y)∧St w noF [] w')):=by
 have hlv:=Kh (pe:=y.pe) (T:=y.limit) hst;have hn4:=hyb.spn
 refine enter Try.func21 rfl Try.ntmps21 rfl (fun a H=>?_)
 have S:=St.start w
 refine seq_list fun K1 k1=>?_
 refine aQ H rfl S G G ?_;clear H a S;intro b1 _ a hb1 hbw1 S H
 refine ls 1 H<|sr 1 rfl<|sE ?_;clear H a;intro a H
 refine k1 _ _ ?_;clear k1 K1
 refine wp_seq_k fun K2 k2=>?_
 replace H:=H.keep [1] rfl
 refine seq_list fun K3 k3=>?_
 refine ls 2 H<|sf dA rfl<|sl S 0 aE G G G<|sE ?_;clear H a;intro a H
 refine aA H G G Try.func45 G G (fT _ _ _ _) ?_;clear H a
 rintro _ _ a ⟨rfl,rfl⟩ H
 refine ls 2 H<|sr 2 rfl<|sE ?_;clear H a;intro a H
 apply cA (i:=4) (g:=9) (t:=17) (b:=false) 8 H S G G (by kernel_rfl) (by kernel_rfl) G G
 case h1=>
  intro hg5
  refine ls 6 H<|sy hg5<|sf eT rfl<|sy hg5<|sd ((aB dY fZ rfl S (i:=0) G G))<|sy hg5<|sf kR rfl<|sy hg5<|sl S 0 bM G G G<|sy hg5<|sf mL rfl<|sy hg5<|sl S 0 aE G G G<|sE ?_;intro a H
  refine cQ H G G (by assumption) ?_
  refine aA H G G Try.func14 G G (kM y.pl y.ps y.PA y.pc y.xs y.XA y.xc 0 y.pe y.BA y.bc y.limit _ (hy.ps.now S) hyb.psn (hy.xs.now S) hyb.xsn (hy.pe.now S) hyb.pen) ?_
  rintro _ _ a ⟨rfl,S2⟩ H
  replace S:=S.call S2;clear S2
  refine ls 1 H<|sy hg5<|sr 1 rfl<|sE ?_;intro a H
  exact wpList_nil ⟨H.strip 8 G G,(S.sel [0] G G)⟩
 clear H a S;intro a _ H S
 refine ls 13 H<|so G G G<|sr 1 rfl<|sg 4 14 19 23 false G G (fun hg15=>sy hg15<|sf zG rfl<|sy hg15<|sl S 0 aE G G G<|sy hg15<|sc rfl Try.func45 G G (fT _ _ _ _)<|sy hg15<|sr 1 rfl<|sz 4 G G G)<|so G G G<|sr 1 rfl<|sg 4 20 25 29 false G G (fun hg21=>sy hg21<|sf kS rfl<|sy hg21<|sl S 0 nR G G G<|sy hg21<|sL pQ rfl<|sy hg21<|sr 1 rfl<|sz 4 G G G)<|so G G G<|sE ?_;clear H a;intro a H
 refine k3 _ _ ?_;clear k3 K3
 refine cond_ H rfl (fun hc1=>?_) (fun hc1=>?_)
 ·skip
  try simp only [o1,o2,o3,o4,o5,o6,o7,o8,o9,oa] at hc1
  replace H:=H.keep [] rfl
  refine sS H fun K4 k4=>sr 1 rfl<|sE ?_;clear H a;intro a H
  refine k4 _ ?_;clear k4 K4
  refine wp_ret ?_
  refine ret1 (fn:=Try.f21) rfl H rfl ?_
  rw [Gv (fun h=>by unfold yrI at h;have h9:=hlv.2 ⟨h.2.1,h.2.2.1⟩;omega)];exact ⟨rfl,(S.sel [] G G)⟩
 try simp only [o1,o2,o3,o4,o5,o6,o7,o8,o9,oa] at hc1
 refine wp_skip ?_
 refine k2 _ _ ?_
 refine wp_seq_k fun K5 k5=>?_
 refine sS H fun K6 k6=>sr 1 rfl<|sE ?_;clear H a;intro a H
 refine k6 _ ?_;clear k6 K6
 refine wp_block ?_
 refine loop_st (X:=Nat) (R0:=_) [1] H rfl (fun k=>[(3,.int .i64 (k:Int))]) (fun k=>[]) (fun g k=>k≤y.sps.length∧g+k=y.sps.length∧∀ q,q<k→sprB y.days (y.sps.getD q Spr.zero)=true) (y.sps.length) 0 ?_ (S.sel [0] G G) (H.keep [3,1] rfl) ?_
 · exact ⟨by omega,by omega,fun q hq=>absurd hq (Nat.not_lt_zero q)⟩
 clear H S a
 intro g1 x1 a w1 hp S H K7 k7
 obtain ⟨k,rfl⟩:∃ y,y=x1:=⟨_,rfl⟩
 refine wp_seq_k fun K8 k8=>?_
 refine sS H fun K9 k9=>sr 1 rfl<|sf kS rfl<|sl S 0 nR G G G<|sL pQ rfl<|sr 1 rfl<|sE ?_;clear H a;intro a H
 refine k9 _ ?_;clear k9 K9
 refine condL H rfl (fun hc2=>?_) (fun hc2=>?_)
 ·skip
  refine wp_skip ?_
  refine k8 _ _ ?_
  refine wp_seq_k fun K10 k10=>?_
  refine wp_block ?_
  replace H:=H.keep [1,3] rfl
  refine seq_list fun K11 k11=>?_
  refine ls 5 H<|sf kS rfl<|sl S 0 nR G G G<|sr 1 rfl<|si pQ nU G G (hy.sps.adr (by omega)) (by omega)<|sd ((aU zC nU rfl S hy.sps (by omega) (by omega)))<|sE ?_;clear H a;intro a H
  refine aI H rfl S Eo ?_;clear H a S;intro b4 _ a hb4 hbw4 S H
  refine aD H S (i:=0) G G G G nU G G ?_
  clear H a S;intro _ a S H
  refine k11 _ _ ?_;clear k11 K11
  replace H:=H.keep [1,3,4] rfl
  refine sS H fun K12 k12=>sf vC rfl<|sl S 0 aE G G G<|sf dA rfl<|sl S 1 aE G G G<|sd (aR G G (by unfold i64ok;omega))<|sc rfl Try.func45 G G (fT _ _ _ _)<|sr 2 rfl<|sg 4 7 50 54 false G G (fun hg8=>sy hg8<|sf vD rfl<|sy hg8<|sl S 0 aE G G G<|sy hg8<|sc rfl Try.func45 G G (fT _ _ _ _)<|sy hg8<|sr 1 rfl<|sz 4 G G G)<|so G G G<|sr 1 rfl<|sg 4 13 56 60 false G G (fun hg14=>sy hg14<|sf vE rfl<|sy hg14<|sl S 0 aE G G G<|sy hg14<|sc rfl Try.func45 G G (fT _ _ _ _)<|sy hg14<|sr 1 rfl<|sz 4 G G G)<|so G G G<|sE ?_;clear H a;intro a H
  refine k12 _ ?_;clear k12 K12
  refine cond_ H rfl (fun hc3=>?_) (fun hc3=>?_)
  ·skip
   try simp only [o1,o2,o3,o4,o5,o6,o7,o8,o9,oa] at hc3
   replace H:=H.keep [] rfl
   refine sS H fun K13 k13=>sr 1 rfl<|sE ?_;clear H a;intro a H
   refine k13 _ ?_;clear k13 K13
   refine wp_ret ?_
   refine ret1 (fn:=Try.f21) rfl H rfl ?_
   rw [Gv (fun h=>by have h9:=nG.1 (h.2.2.2.2.2 k (by omega));omega)];exact ⟨rfl,(S.sel [] G G)⟩
  try simp only [o1,o2,o3,o4,o5,o6,o7,o8,o9,oa] at hc3
  refine wp_skip ?_
  refine k10 _ _ ?_
  refine sO H<|sr 1 rfl<|sd (aL G G (by unfold i64ok;omega))<|sr 1 rfl<|sE ?_;clear H a;intro a H
  exact k7 (g1-1) (k+1) a _ (by omega) (⟨by omega,by omega,fQ (f:=fun q=>sprB y.days (y.sps.getD q Spr.zero)) hp.2.2 (nG.2 (by omega))⟩) (S.sel [1] G G) (H.keep [3,1] rfl)
 refine wp_exit ?_
 refine k5 _ _ ?_
 refine sS H fun K15 k15=>sr 1 rfl<|sE ?_;clear H a;intro a H
 refine k15 _ ?_;clear k15 K15
 refine wp_ret ?_
 refine ret1 (fn:=Try.f21) rfl H rfl ?_
 have h9:=hlv.1 (by omega)
 have h8:=hp.2.2
 rw [Gu (by unfold yrI;exact ⟨by omega,h9.1,h9.2,by omega,by omega,fun q hq=>h8 q (by omega)⟩)];exact ⟨rfl,(S.sel [] G G)⟩
theorem Cy (y:Yr) (i:Nat) (w:World) (hy:YIn w noF y) (hyb:YBd y) (hi:i<y.us.length) :
    Calls Try.prog 22 [.agg [.int .i64 y.days,.int .i64 y.pl,.slice y.PA y.ps.length y.pc,.slice y.XA y.xs.length y.xc,.slice y.BA y.pe.length y.bc,.int .i64 y.limit,.bool y.help,.slice y.QA y.prs.length y.qc,.slice y.VA y.us.length y.vc,.int .i64 y.crew,.slice y.SA y.sps.length y.sc].toArray,.int .i64 (i:Int)].toArray w (Ret (fun v w'=>v = .bool (untB y.ps y.us i)∧St w noF [] w')):=by
 have hn1:=hyb.psn;have hn3:=hyb.usn;have hn5:(y.us.getD i Unt.zero).uses.length≤9223372036854775807:=hyb.uln hi;have hn6:(y.us.getD i Unt.zero).rates.length≤9223372036854775807:=hyb.rtn hi
 refine enter Try.func22 rfl Try.ntmps22 rfl (fun a H=>?_)
 have S:=St.start w
 refine seq_list fun K1 k1=>?_
 refine aQ H rfl S G G ?_;clear H a S;intro b2 _ a hb2 hbw2 S H
 refine ls 1 H<|sr 1 rfl<|sE ?_;clear H a;intro a H
 refine k1 _ _ ?_;clear k1 K1
 refine seq_list fun K2 k2=>?_
 refine ls 5 H<|sf dM rfl<|sl S 0 eK G G G<|sr 1 rfl<|si gO iM G G (hy.us.adr (by omega)) (by omega)<|sd ((aU nS iM rfl S hy.us (by omega) (by omega)))<|sE ?_;clear H a;intro a H
 refine aI H rfl S Em ?_;clear H a S;intro b5 _ a hb5 hbw5 S H
 refine aD H S (i:=0) G G G G iM G G ?_
 clear H a S;intro _ a S H
 refine k2 _ _ ?_;clear k2 K2
 replace H:=H.keep [1,2,5] rfl
 refine sS H fun K3 k3=>sr 1 rfl<|sE ?_;clear H a;intro a H
 refine k3 _ ?_;clear k3 K3
 refine wp_seq_k fun K4 k4=>?_
 refine sS H fun K5 k5=>sr 1 rfl<|sE ?_;clear H a;intro a H
 refine k5 _ ?_;clear k5 K5
 refine wp_block ?_
 refine loop_st (X:=Nat) (R0:=_) [1,2,5] H rfl (fun k=>[(6,.bool (freeN y.ps y.us k 0 (y.us.getD i Unt.zero).mach)),(7,.int .i64 (k:Int))]) (fun k=>[]) (fun g k=>k≤y.ps.length∧g+k=y.ps.length) (y.ps.length) 0 ?_ (S.sel [0,1] G G) (H.keep [6,7,1,2,5] rfl) ?_
 · exact ⟨by omega,by omega⟩
 clear H S a
 intro g1 x1 a w1 hp S H K6 k6
 obtain ⟨k,rfl⟩:∃ y,y=x1:=⟨_,rfl⟩
 refine wp_seq_k fun K7 k7=>?_
 refine sS H fun K8 k8=>sr 1 rfl<|sf eT rfl<|sf eS rfl<|sl S 1 gS G G G<|sL iE rfl<|sr 1 rfl<|sE ?_;clear H a;intro a H
 refine k8 _ ?_;clear k8 K8
 refine condL H rfl (fun hc1=>?_) (fun hc1=>?_)
 ·skip
  refine wp_skip ?_
  refine k7 _ _ ?_
  refine wp_seq_k fun K9 k9=>?_
  refine wp_block ?_
  replace H:=H.keep [1,2,5,6,7] rfl
  refine seq_list fun K10 k10=>?_
  refine ls 6 H<|sf eT rfl<|sf eS rfl<|sl S 1 gS G G G<|sr 1 rfl<|si iE gN G G (hy.ps.adr (by omega)) (by omega)<|sd ((aU lO gN rfl S hy.ps (by omega) (by omega)))<|sE ?_;clear H a;intro a H
  refine aI H rfl S vK ?_;clear H a S;intro b8 _ a hb8 hbw8 S H
  refine aD H S (i:=0) G G G G gN G G ?_
  clear H a S;intro _ a S H
  refine k10 _ _ ?_;clear k10 K10
  replace H:=H.keep [1,2,5,6,7,8] rfl
  refine sO H<|sr 2 rfl<|sg 10 1 33 43 false G G (fun hg2=>by
      have hq2:=hg2;try simp only [o1,o2,o3,o4,o5,o6,o7,o8,o9,oa] at hq2
      exact sy hg2<|sf dV rfl<|sy hg2<|sl S 0 aE G G G<|sy hg2<|sr 1 rfl<|sy hg2<|sr 1 rfl<|sg 5 5 37 42 true G G (fun hg6=>by
           have hq6:=hg6;try simp only [o1,o2,o3,o4,o5,o6,o7,o8,o9,oa] at hq6
           exact sy hg6<|sf dV rfl<|sy hg6<|sl S 0 aE G G G<|sy hg6<|sf mO rfl<|sy hg6<|sl S 1 aE G G G<|sy hg6<|sr 1 rfl<|sz 5 G G G)<|sy hg2<|sa G G G<|sz 6 G G G)<|so G G G<|sr 1 rfl<|sE ?_;clear H a;intro a H
  refine k9 _ _ ?_
  replace H:=H.keep [1,2,5,6,7] rfl
  refine sO H<|sr 1 rfl<|sd (aL G G (by unfold i64ok;omega))<|sr 1 rfl<|sE ?_;clear H a;intro a H
  rw [←wF (ps:=y.ps) (us:=y.us)] at H
  exact k6 (g1-1) (k+1) a _ (by omega) (⟨by omega,by omega⟩) (S.sel [1,2] G G) (H.keep [6,7,1,2,5] rfl)
 refine wp_exit ?_
 refine k4 _ _ ?_
 refine wp_seq_k fun K13 k13=>?_
 refine sS H fun K14 k14=>sr 1 rfl<|sE ?_;clear H a;intro a H
 refine k14 _ ?_;clear k14 K14
 refine wp_block ?_
 obtain rfl:k=y.ps.length:=by omega
 refine loop_st (X:=Nat) (R0:=_) [1,2,5] H rfl (fun k=>[(6,.bool (freeN y.ps y.us y.ps.length k (y.us.getD i Unt.zero).mach)),(9,.int .i64 (k:Int))]) (fun k=>[]) (fun g k=>k≤i∧g+k=i) (i) 0 ?_ (S.sel [0,1] G G) (H.keep [6,9,1,2,5] rfl) ?_
 · exact ⟨by omega,by omega⟩
 clear H S a
 intro g2 x2 a w2 hp S H K15 k15
 obtain ⟨k,rfl⟩:∃ y,y=x2:=⟨_,rfl⟩
 refine wp_seq_k fun K16 k16=>?_
 refine sS H fun K17 k17=>sr 3 rfl<|sE ?_;clear H a;intro a H
 refine k17 _ ?_;clear k17 K17
 refine condL H rfl (fun hc2=>?_) (fun hc2=>?_)
 ·skip
  refine wp_skip ?_
  refine k16 _ _ ?_
  refine wp_seq_k fun K18 k18=>?_
  refine wp_block ?_
  replace H:=H.keep [1,2,5,6,9] rfl
  replace S:=S.drew
  refine sP H<|sr 2 rfl<|sg 9 1 51 60 true G G (fun hg2=>by
      have hq2:=hg2;try simp only [o1,o2,o3,o4,o5,o6,o7,o8,o9,oa] at hq2
      exact sy hg2<|sf dM rfl<|sy hg2<|sl S 1 eK G G G<|sy hg2<|sr 1 rfl<|sy hg2<|si gO iM G G (hy.us.adr (by omega)) (by omega)<|sy hg2<|sp mO rfl<|sy hg2<|slm aE rfl (hy.us.rd S (by omega) (by omega))<|sy hg2<|sf mO rfl<|sy hg2<|sl S 0 aE G G G<|sy hg2<|sr 1 rfl<|sz 9 G G G)<|sa G G G<|sr 1 rfl<|sE ?_;clear H a;intro a H
  refine k18 _ _ ?_
  replace H:=H.keep [1,2,5,6,9] rfl
  refine sO H<|sr 1 rfl<|sd (aL G G (by unfold i64ok;omega))<|sr 1 rfl<|sE ?_;clear H a;intro a H
  rw [←Gw (ps:=y.ps) (us:=y.us)] at H
  exact k15 (g2-1) (k+1) a _ (by omega) (⟨by omega,by omega⟩) (S.sel [0,1] G G) (H.keep [6,9,1,2,5] rfl)
 refine wp_exit ?_
 refine k13 _ _ ?_
 refine wp_seq_k fun K21 k21=>?_
 obtain rfl:i=k:=by omega
 replace H:=H.keep [5,6] rfl
 refine seq_list fun K22 k22=>?_
 refine ls 21 H<|sr 3 rfl<|sg 4 2 64 68 false G G (fun hg3=>by
     have hq3:=hg3;try simp only [o1,o2,o3,o4,o5,o6,o7,o8,o9,oa] at hq3
     exact sy hg3<|sf mP rfl<|sy hg3<|sl S 0 aE G G G<|sy hg3<|sc rfl Try.func45 G G (fT _ _ _ _)<|sy hg3<|sr 1 rfl<|sz 4 G G G)<|so G G G<|sr 1 rfl<|sg 4 8 70 74 false G G (fun hg9=>by
     have hq9:=hg9;try simp only [o1,o2,o3,o4,o5,o6,o7,o8,o9,oa] at hq9
     exact sy hg9<|sf oS rfl<|sy hg9<|sl S 0 aE G G G<|sy hg9<|sc rfl Try.func45 G G (fT _ _ _ _)<|sy hg9<|sr 1 rfl<|sz 4 G G G)<|so G G G<|sr 1 rfl<|sg 4 14 76 80 false G G (fun hg15=>by
     have hq15:=hg15;try simp only [o1,o2,o3,o4,o5,o6,o7,o8,o9,oa] at hq15
     exact sy hg15<|sf zH rfl<|sy hg15<|sl S 0 aE G G G<|sy hg15<|sc rfl Try.func45 G G (fT _ _ _ _)<|sy hg15<|sr 1 rfl<|sz 4 G G G)<|so G G G<|sr 1 rfl<|sE ?_;clear H a;intro a H
 apply cA (i:=20) (g:=82) (t:=88) (b:=false) 6 H S G G (by kernel_rfl) (by kernel_rfl) G G
 case h1=>
  intro hg21
  have hq21:=hg21;try simp only [o1,o2,o3,o4,o5,o6,o7,o8,o9,oa] at hq21
  refine ls 4 H<|sy hg21<|sf jP rfl<|sy hg21<|sd ((aB cU dR rfl S (i:=0) G G))<|sy hg21<|sf eU rfl<|sy hg21<|sl S 0 gT G G G<|sE ?_;intro a H
  refine cQ H G G (by assumption) ?_
  refine aA H G G Try.func46 G G (lI (y.us.getD i Unt.zero).rates (y.us.getD i Unt.zero).worn (y.us.getD i Unt.zero).turns (y.us.getD i Unt.zero).age (y.us.getD i Unt.zero).RA (y.us.getD i Unt.zero).rc (y.us.getD i Unt.zero).uses (y.us.getD i Unt.zero).UA (y.us.getD i Unt.zero).uc _ ((hy.rt i hi).now S) (hyb.rtn hi) ((hy.ul i hi).now S) (hyb.uln hi)) ?_
  rintro _ _ a ⟨rfl,S2⟩ H
  replace S:=S.call S2;clear S2
  refine ls 1 H<|sy hg21<|sr 1 rfl<|sE ?_;intro a H
  exact wpList_nil ⟨H.strip 6 G G,(S.sel [0,1] G G)⟩
 clear H a S;intro a _ H S
 refine ls 7 H<|so G G G<|sr 1 rfl<|sg 4 28 90 94 false G G (fun hg29=>by
     have hq29:=hg29;try simp only [o1,o2,o3,o4,o5,o6,o7,o8,o9,oa] at hq29
     exact sy hg29<|sf eU rfl<|sy hg29<|sl S 0 gT G G G<|sy hg29<|sL cG rfl<|sy hg29<|sr 1 rfl<|sz 4 G G G)<|so G G G<|sE ?_;clear H a;intro a H
 refine k22 _ _ ?_;clear k22 K22
 refine cond_ H rfl (fun hc3=>?_) (fun hc3=>?_)
 ·skip
  try simp only [o1,o2,o3,o4,o5,o6,o7,o8,o9,oa] at hc3
  replace H:=H.keep [] rfl
  refine sS H fun K23 k23=>sr 1 rfl<|sE ?_;clear H a;intro a H
  refine k23 _ ?_;clear k23 K23
  refine wp_ret ?_
  refine ret1 (fn:=Try.f22) rfl H rfl ?_
  rw [wG (fun h=>by have h1:freeN y.ps y.us y.ps.length i (y.us.getD i Unt.zero).mach=true:=h.free;have h2:=h.i;have h3:bI ⟨(y.us.getD i Unt.zero).rates,(y.us.getD i Unt.zero).worn,(y.us.getD i Unt.zero).turns,(y.us.getD i Unt.zero).age⟩ (y.us.getD i Unt.zero).uses=0:=(gE h.wear).1;unfold untI at h2;rw [h1] at hc3;simp only [Bool.true_eq_false,Bool.not_true,Bool.false_eq_true,not_true_eq_false,false_or] at hc3;omega)];exact ⟨rfl,(S.sel [] G G)⟩
 try simp only [o1,o2,o3,o4,o5,o6,o7,o8,o9,oa] at hc3
 have hcp:bI (y.us.getD i Unt.zero).part (y.us.getD i Unt.zero).uses=0:=by show bI ⟨_,_,_,_⟩ _=0;omega
 have hrw:=Cu hcp
 refine wp_skip ?_
 refine k21 _ _ ?_
 replace H:=H.keep [5] rfl
 refine seq_list fun K24 k24=>?_
 refine ls 4 H<|sf jP rfl<|sd ((aB cU dR rfl S (i:=0) G G))<|sf eU rfl<|sl S 0 gT G G G<|sE ?_;clear H a;intro a H
 refine aA H G G Try.func47 G G (vX (y.us.getD i Unt.zero).rates (y.us.getD i Unt.zero).worn (y.us.getD i Unt.zero).turns (y.us.getD i Unt.zero).age (y.us.getD i Unt.zero).RA (y.us.getD i Unt.zero).rc (y.us.getD i Unt.zero).uses (y.us.getD i Unt.zero).UA (y.us.getD i Unt.zero).uc _ ((hy.rt i hi).now S) (hyb.rtn hi) ((hy.ul i hi).now S) (hyb.uln hi)) ?_;clear H a
 rintro _ _ a ⟨rfl,S2⟩ H
 replace S:=S.call S2;clear S2
 refine ls 7 H<|sr 7 rfl<|sE ?_;clear H a;intro a H
 refine k24 _ _ ?_;clear k24 K24
 refine wp_seq_k fun K25 k25=>?_
 replace H:=H.keep [5,11] rfl
 replace S:=S.drew
 refine sD H fun K26 k26=>sr 2 rfl<|sg 4 1 106 110 false G G (fun hg2=>by
     have hq2:=hg2;try simp only [o1,o2,o3,o4,o5,o6,o7,o8,o9,oa] at hq2
     exact sy hg2<|sf mQ rfl<|sy hg2<|sl S 0 aE G G G<|sy hg2<|sc rfl Try.func45 G G (fT _ _ _ _)<|sy hg2<|sr 1 rfl<|sz 4 G G G)<|so G G G<|sr 1 rfl<|sg 18 7 112 130 false G G (fun hg8=>by
     have hq8:=hg8;try simp only [o1,o2,o3,o4,o5,o6,o7,o8,o9,oa] at hq8
     exact sy hg8<|sf eU rfl<|sy hg8<|sl S 0 gT G G G<|sy hg8<|sL cG rfl<|sy hg8<|sr 1 rfl<|sy hg8<|sr 1 rfl<|sg 12 12 117 129 true G G (fun hg13=>by
          have hq13:=hg13;try simp only [o1,o2,o3,o4,o5,o6,o7,o8,o9,oa] at hq13
          exact sy hg13<|sf mQ rfl<|sy hg13<|sl S 0 aE G G G<|sy hg13<|sf eU rfl<|sy hg13<|sl S 0 gT G G G<|sy hg13<|sf eU rfl<|sy hg13<|sl S 0 gT G G G<|sy hg13<|sL cG rfl<|sy hg13<|sd (aR G G (by unfold i64ok;omega))<|sy hg13<|sI cG cW G G ((hy.ul i hi).adr (by omega)) (by omega) (by omega)<|sy hg13<|sp gJ rfl<|sy hg13<|slm aE rfl ((hy.ul i hi).rd S (by omega) (by omega))<|sy hg13<|sr 1 rfl<|sz 12 G G G)<|sy hg8<|sa G G G<|sz 7 G G G)<|so G G G<|sE ?_;clear H a;intro a H
 refine k26 _ ?_;clear k26 K26
 refine cond_ H rfl (fun hc4=>?_) (fun hc4=>?_)
 ·skip
  try simp only [o1,o2,o3,o4,o5,o6,o7,o8,o9,oa] at hc4
  replace H:=H.keep [] rfl
  refine sS H fun K27 k27=>sr 1 rfl<|sE ?_;clear H a;intro a H
  refine k27 _ ?_;clear k27 K27
  refine wp_ret ?_
  refine ret1 (fn:=Try.f22) rfl H rfl ?_
  rw [wG (fun h=>by
    have h2:=h.i;have h3:=qU h.wear;unfold untI at h2
    have h5:=hrw.1 h.wear
    rcases hc4 with (h9|h9)|h9
    · have h6:(refO (y.us.getD i Unt.zero).part (y.us.getD i Unt.zero).uses).2.1=true:=h9
      rw [h5] at h6;cases h6
    · omega
    · have h7:=Cw (l:=(y.us.getD i Unt.zero).uses) (by omega) h9.2;omega)];exact ⟨rfl,(S.sel [] G G)⟩
 try simp only [o1,o2,o3,o4,o5,o6,o7,o8,o9,oa] at hc4
 refine wp_skip ?_
 refine k25 _ _ ?_
 replace H:=H.keep [5] rfl
 refine sS H fun K28 k28=>sf kT rfl<|sl S 0 aE G G G<|sc rfl Try.func45 G G (fT _ _ _ _)<|sr 1 rfl<|sg 8 3 135 143 true G G (fun hg4=>by
     have hq4:=hg4;try simp only [o1,o2,o3,o4,o5,o6,o7,o8,o9,oa] at hq4
     exact sy hg4<|sf mR rfl<|sy hg4<|sl S 0 aE G G G<|sy hg4<|sf jP rfl<|sy hg4<|sf dG rfl<|sy hg4<|sl S 0 eL G G G<|sy hg4<|sL cB rfl<|sy hg4<|sd (aR G G (by unfold i64ok;omega))<|sy hg4<|sc rfl Try.func45 G G (fT _ _ _ _)<|sz 8 G G G)<|sa G G G<|sr 1 rfl<|sE ?_;clear H a;intro a H
 refine k28 _ ?_;clear k28 K28
 refine wp_ret ?_
 refine ret1 (fn:=Try.f22) rfl H rfl ?_
 refine ⟨congrArg Value.bool ?_,(S.sel [] G G)⟩
 rw [Bool.eq_iff_iff,qR]
 simp only [Bool.and_eq_true,decide_eq_true_eq]
 constructor
 · intro h9
   refine ⟨?_,?_,hrw.2 ?_⟩
   · show freeN _ _ _ _ _=true;rcases hc3 with ⟨⟨⟨⟨⟨h1,_⟩,_⟩,_⟩,_⟩,_⟩;exact h1
   · have h8:=Cv (l:=(y.us.getD i Unt.zero).uses) (o:=(y.us.getD i Unt.zero).old) (by omega) (by omega)
     unfold untI;omega
   · rcases hc4 with ⟨⟨h1,_⟩,_⟩;exact h1
 · intro h9
   have h2:=h9.i
   unfold untI at h2
   omega
theorem fU (y:Yr) (w:World) (hy:YIn w noF y) (hyb:YBd y) :
    Calls Try.prog 6 [.agg [.int .i64 y.days,.int .i64 y.pl,.slice y.PA y.ps.length y.pc,.slice y.XA y.xs.length y.xc,.slice y.BA y.pe.length y.bc,.int .i64 y.limit,.bool y.help,.slice y.QA y.prs.length y.qc,.slice y.VA y.us.length y.vc,.int .i64 y.crew,.slice y.SA y.sps.length y.sc].toArray].toArray w (Ret (fun v w'=>v = .int .i64 (yearE y)∧St w noF [] w')):=by
 have hn3:=hyb.usn
 refine enter Try.func6 rfl Try.ntmps6 rfl (fun a H=>?_)
 have S:=St.start w
 refine seq_list fun K1 k1=>?_
 refine aQ H rfl S G G ?_;clear H a S;intro b1 _ a hb1 hbw1 S H
 refine ls 1 H<|sr 1 rfl<|sE ?_;clear H a;intro a H
 refine k1 _ _ ?_;clear k1 K1
 refine seq_list fun K2 k2=>?_
 refine ls 2 H<|sf eT rfl<|sd ((aB dY fZ rfl S (i:=0) G G))<|sE ?_;clear H a;intro a H
 refine aA H G G Try.func19 G G (kL y.pl y.ps y.PA y.pc y.xs y.XA y.xc _ (hy.ps.now S) hyb.psn (hy.xs.now S) hyb.xsn) ?_;clear H a
 rintro _ _ a ⟨rfl,S2⟩ H
 replace S:=S.call S2;clear S2
 refine ls 1 H<|sr 1 rfl<|sE ?_;clear H a;intro a H
 refine k2 _ _ ?_;clear k2 K2
 refine wp_seq_k fun K3 k3=>?_
 refine sS H fun K4 k4=>sr 2 rfl<|sE ?_;clear H a;intro a H
 refine k4 _ ?_;clear k4 K4
 refine condN H rfl (fun hc1=>?_) (fun hc1=>?_)
 ·skip
  replace H:=H.keep [3] rfl
  refine sS H fun K5 k5=>sr 2 rfl<|sE ?_;clear H a;intro a H
  refine k5 _ ?_;clear k5 K5
  refine wp_ret ?_
  refine ret1 (fn:=Try.f6) rfl H rfl ?_
  have e9:=qC (day:=[]) (l:=y.prs) hc1
  rw [lT (by rw [e9];exact hc1),e9];exact ⟨rfl,(S.sel [] G G)⟩
 refine wp_skip ?_
 refine k3 _ _ ?_
 refine seq_list fun K6 k6=>?_
 refine ls 4 H<|sf eT rfl<|sd ((aB dY fZ rfl S (i:=0) G G))<|sf tI rfl<|sl S 0 xM G G G<|sE ?_;clear H a;intro a H
 refine aA H G G Try.func20 G G (nK y.pl y.ps y.PA y.pc y.xs y.XA y.xc ([]:List Hq) none 0 (fun _=>none) (fun _=>0) y.prs y.QA y.qc _ (hy.ps.now S) hyb.psn (hy.xs.now S) hyb.xsn InS.nil (by decide) (fun k hk=>absurd hk (Nat.not_lt_zero k)) (fun k hk=>absurd hk (Nat.not_lt_zero k)) (hy.prs.now S) hyb.prn) ?_;clear H a
 rintro _ _ a ⟨rfl,S2⟩ H
 replace S:=S.call S2;clear S2
 refine ls 1 H<|sr 1 rfl<|sE ?_;clear H a;intro a H
 refine k6 _ _ ?_;clear k6 K6
 refine wp_seq_k fun K7 k7=>?_
 replace H:=H.keep [1,3] rfl
 refine sS H fun K8 k8=>sr 2 rfl<|sE ?_;clear H a;intro a H
 refine k8 _ ?_;clear k8 K8
 refine condN H rfl (fun hc2=>?_) (fun hc2=>?_)
 ·skip
  refine sS H fun K9 k9=>sr 2 rfl<|sE ?_;clear H a;intro a H
  refine k9 _ ?_;clear k9 K9
  refine wp_ret ?_
  refine ret1 (fn:=Try.f6) rfl H rfl ?_
  exact ⟨congrArg _ (lT hc2).symm,(S.sel [] G G)⟩
 refine wp_skip ?_
 refine k7 _ _ ?_
 refine wp_seq_k fun K10 k10=>?_
 refine seq_list fun K11 k11=>?_
 refine ls 1 H<|sd ((aB fJ iL rfl S (i:=0) G G))<|sE ?_;clear H a;intro a H
 refine aA H G G Try.func21 G G (Cx y _ (hy.now S) hyb (by omega)) ?_;clear H a
 rintro _ _ a ⟨rfl,S2⟩ H
 replace S:=S.call S2;clear S2
 refine ls 1 H<|sr 1 rfl<|sE ?_;clear H a;intro a H
 refine k11 _ _ ?_;clear k11 K11
 refine cond_ H rfl (fun hc3=>?_) (fun hc3=>?_)
 ·skip
  try simp only [o1,o2,o3,o4,o5,o6,o7,o8,o9,oa] at hc3
  refine sS H fun K12 k12=>sr 1 rfl<|sE ?_;clear H a;intro a H
  refine k12 _ ?_;clear k12 K12
  refine wp_ret ?_
  refine ret1 (fn:=Try.f6) rfl H rfl ?_
  rw [nD (by omega) (fun h=>by rw [Gu h] at hc3;simp at hc3)];exact ⟨rfl,(S.sel [] G G)⟩
 try simp only [o1,o2,o3,o4,o5,o6,o7,o8,o9,oa] at hc3
 have hyi:=Kg.1 (by simpa using hc3)
 refine wp_skip ?_
 refine k10 _ _ ?_
 refine wp_seq_k fun K13 k13=>?_
 replace H:=H.keep [1] rfl
 refine sS H fun K14 k14=>sf dM rfl<|sl S 0 eK G G G<|sL gO rfl<|sr 1 rfl<|sE ?_;clear H a;intro a H
 refine k14 _ ?_;clear k14 K14
 refine condL H rfl (fun hc4=>?_) (fun hc4=>?_)
 ·skip
  refine sS H fun K15 k15=>sr 1 rfl<|sE ?_;clear H a;intro a H
  refine k15 _ ?_;clear k15 K15
  refine wp_ret ?_
  refine ret1 (fn:=Try.f6) rfl H rfl ?_
  rw [qO (by omega) hyi (by omega)];exact ⟨rfl,(S.sel [] G G)⟩
 refine wp_skip ?_
 refine k13 _ _ ?_
 refine wp_seq_k fun K16 k16=>?_
 refine sS H fun K17 k17=>sr 1 rfl<|sE ?_;clear H a;intro a H
 refine k17 _ ?_;clear k17 K17
 refine wp_block ?_
 refine loop_st (X:=Nat) (R0:=_) [1] H rfl (fun k=>[(4,.int .i64 (k:Int))]) (fun k=>[]) (fun g k=>k≤y.us.length∧g+k=y.us.length∧∀ q,q<k→untB y.ps y.us q=true) (y.us.length) 0 ?_ (S.sel [0] G G) (H.keep [4,1] rfl) ?_
 · exact ⟨by omega,by omega,fun q hq=>absurd hq (Nat.not_lt_zero q)⟩
 clear H S a
 intro g1 x1 a w1 hp S H K18 k18
 obtain ⟨k,rfl⟩:∃ y,y=x1:=⟨_,rfl⟩
 refine wp_seq_k fun K19 k19=>?_
 refine sS H fun K20 k20=>sr 1 rfl<|sf dM rfl<|sl S 0 eK G G G<|sL gO rfl<|sr 1 rfl<|sE ?_;clear H a;intro a H
 refine k20 _ ?_;clear k20 K20
 refine condL H rfl (fun hc5=>?_) (fun hc5=>?_)
 ·skip
  refine wp_skip ?_
  refine k19 _ _ ?_
  refine wp_seq_k fun K21 k21=>?_
  refine wp_block ?_
  refine seq_list fun K22 k22=>?_
  refine ls 2 H<|sd ((aB fJ iL rfl S (i:=0) G G))<|sr 1 rfl<|sE ?_;clear H a;intro a H
  refine aA H G G Try.func22 G G (Cy y k _ (hy.now S) hyb (by omega)) ?_;clear H a
  rintro _ _ a ⟨rfl,S2⟩ H
  replace S:=S.call S2;clear S2
  refine ls 1 H<|sr 1 rfl<|sE ?_;clear H a;intro a H
  refine k22 _ _ ?_;clear k22 K22
  refine cond_ H rfl (fun hc6=>?_) (fun hc6=>?_)
  ·skip
   try simp only [o1,o2,o3,o4,o5,o6,o7,o8,o9,oa] at hc6
   replace H:=H.keep [] rfl
   refine sS H fun K23 k23=>sr 1 rfl<|sE ?_;clear H a;intro a H
   refine k23 _ ?_;clear k23 K23
   refine wp_ret ?_
   refine ret1 (fn:=Try.f6) rfl H rfl ?_
   rw [qP (by omega) hyi (by omega) (show k<y.us.length by omega) (by simpa using hc6)];exact ⟨rfl,(S.sel [] G G)⟩
  try simp only [o1,o2,o3,o4,o5,o6,o7,o8,o9,oa] at hc6
  refine wp_skip ?_
  refine k21 _ _ ?_
  refine sO H<|sr 1 rfl<|sd (aL G G (by unfold i64ok;omega))<|sr 1 rfl<|sE ?_;clear H a;intro a H
  exact k18 (g1-1) (k+1) a _ (by omega) (⟨by omega,by omega,fQ (f:=untB y.ps y.us) hp.2.2 (by simpa using hc6)⟩) (S.sel [0] G G) (H.keep [4,1] rfl)
 refine wp_exit ?_
 refine k16 _ _ ?_
 refine sS H fun K25 k25=>sr 1 rfl<|sE ?_;clear H a;intro a H
 refine k25 _ ?_;clear k25 K25
 refine wp_ret ?_
 refine ret1 (fn:=Try.f6) rfl H rfl ?_
 rw [wC (by omega) hyi (by omega) (cI.2 fun q hq=>hp.2.2 q (by omega))];exact ⟨rfl,(S.sel [] G G)⟩
end
section
def crwV (pl:Int) (ps:List Psg) (xs:List Int) (pe:List Int) (T0:Int):Bool:=if 26<ps.length∨12<pe.length then true else if gV pl ps xs 0 pe T0≠0 then false else (decide (12<ps.length)||decide (60<sumI pe pe.length))||decide (14<T0)
section
variable {pl T0:Int} {ps:List Psg} {xs pe:List Int}
theorem Gx (h:26<ps.length∨12<pe.length):crwV pl ps xs pe T0=true:=by unfold crwV;rw [if_pos h]
theorem Ki (h:¬ (26<ps.length∨12<pe.length)) (h2:¬ gV pl ps xs 0 pe T0=0):crwV pl ps xs pe T0=false:=by unfold crwV;rw [if_neg h,if_pos h2]
theorem Nk (h:¬ (26<ps.length∨12<pe.length)) (h2:gV pl ps xs 0 pe T0=0):crwV pl ps xs pe T0=((decide (12<ps.length)||decide (60<sumI pe pe.length))||decide (14<T0)):=by unfold crwV;rw [if_neg h,if_neg (fun h9=>h9 h2)]
end
theorem lng4 (A B:Prop) (c:Bool) [Decidable A] [Decidable B]:¬ A∨(A∧c=true)∨(A∧c=false∧B)∨(A∧c=false∧¬ B):=by
  by_cases hA:A <;> by_cases hB:B <;> cases c <;> simp [hA,hB]
theorem lX (pl:Int) (ps:List Psg) (PA:Option Addr) (pc:Nat) (xs:List Int) (XA:Option Addr) (xc:Nat) (pe:List Int) (BA:Option Addr) (bc:Nat) (T0:Int) (w:World) (hps:InS w noF 7 PA ps.length (pcell ps)) (hpn:ps.length≤9223372036854775807) (hxs:InS w noF 1 XA xs.length (icl xs)) (hxn:xs.length≤9223372036854775807) (hpe:InS w noF 1 BA pe.length (icl pe)) (hpen:pe.length≤9223372036854775807) :
    Calls Try.prog 12 [.agg [.int .i64 pl,.slice PA ps.length pc,.slice XA xs.length xc].toArray,.slice BA pe.length bc,.int .i64 T0].toArray w (Ret (fun u w'=>u = .bool (crwV pl ps xs pe T0)∧St w noF [] w')):=by
 refine enter Try.func12 rfl Try.ntmps12 rfl (fun a H=>?_)
 have S:=St.start w
 refine seq_list fun K1 k1=>?_
 refine aQ H rfl S G G ?_;clear H a S;intro b3 _ a hb3 hbw3 S H
 refine ls 1 H<|sr 1 rfl<|sE ?_;clear H a;intro a H
 refine k1 _ _ ?_;clear k1 K1
 refine wp_seq_k fun K2 k2=>?_
 replace H:=H.keep [1,2,3] rfl
 refine sS H fun K3 k3=>sf eS rfl<|sl S 0 gS G G G<|sL iE rfl<|sr 2 rfl<|sg 3 4 13 16 false G G (fun hg5=>sy hg5<|sr 1 rfl<|sy hg5<|sL aX rfl<|sy hg5<|sr 1 rfl<|sz 3 G G G)<|so G G G<|sE ?_;clear H a;intro a H
 refine k3 _ ?_;clear k3 K3
 refine cond_ H rfl (fun hc1=>?_) (fun hc1=>?_)
 ·skip
  try simp only [o1,o2,o3,o4,o5,o6,o7,o8,o9,oa] at hc1
  replace H:=H.keep [] rfl
  refine sS H fun K4 k4=>sr 1 rfl<|sE ?_;clear H a;intro a H
  refine k4 _ ?_;clear k4 K4
  refine wp_ret ?_
  refine ret1 (fn:=Try.f12) rfl H rfl ?_
  exact ⟨by rw [Gx (by omega)],(S.sel [] G G)⟩
 try simp only [o1,o2,o3,o4,o5,o6,o7,o8,o9,oa] at hc1
 refine wp_skip ?_
 refine k2 _ _ ?_
 refine wp_seq_k fun K5 k5=>?_
 refine seq_list fun K6 k6=>?_
 refine ls 3 H<|sd ((aB dY fZ rfl S (i:=0) G G))<|sr 2 rfl<|sE ?_;clear H a;intro a H
 refine aA H G G Try.func14 G G (kM pl ps PA pc xs XA xc 0 pe BA bc T0 _ (hps.now S) hpn (hxs.now S) hxn (hpe.now S) hpen) ?_;clear H a
 rintro _ _ a ⟨rfl,S2⟩ H
 replace S:=S.call S2;clear S2
 refine ls 1 H<|sr 1 rfl<|sE ?_;clear H a;intro a H
 refine k6 _ _ ?_;clear k6 K6
 refine condN H rfl (fun hc2=>?_) (fun hc2=>?_)
 ·skip
  refine sS H fun K7 k7=>sr 1 rfl<|sE ?_;clear H a;intro a H
  refine k7 _ ?_;clear k7 K7
  refine wp_ret ?_
  refine ret1 (fn:=Try.f12) rfl H rfl ?_
  exact ⟨by rw [Ki (by omega) hc2],(S.sel [] G G)⟩
 obtain ⟨hst,hou,hcr,hti⟩:=rS (show gV pl ps xs 0 pe T0=0 by omega)
 obtain ⟨hpp,hpl'⟩:=vM hcr
 refine wp_skip ?_
 refine k5 _ _ ?_
 refine sS H fun K8 k8=>sr 1 rfl<|sE ?_;clear H a;intro a H
 refine k8 _ ?_;clear k8 K8
 refine wp_seq_k fun K9 k9=>?_
 refine sS H fun K10 k10=>sr 1 rfl<|sE ?_;clear H a;intro a H
 refine k10 _ ?_;clear k10 K10
 refine wp_block ?_
 refine loop_st (X:=Nat) (R0:=_) [1,2,3] H rfl (fun k=>[(7,.int .i64 (sumI pe k)),(8,.int .i64 (k:Int))]) (fun k=>[]) (fun g k=>k≤pe.length∧g+k=pe.length) (pe.length) 0 ?_ (S.sel [0] G G) (H.keep [7,8,1,2,3] rfl) ?_
 · exact ⟨by omega,by omega⟩
 clear H S a
 intro g1 x1 a w1 hp S H K11 k11
 obtain ⟨k,rfl⟩:∃ y,y=x1:=⟨_,rfl⟩
 refine wp_seq_k fun K12 k12=>?_
 refine sS H fun K13 k13=>sr 2 rfl<|sL aX rfl<|sr 1 rfl<|sE ?_;clear H a;intro a H
 refine k13 _ ?_;clear k13 K13
 refine condL H rfl (fun hc3=>?_) (fun hc3=>?_)
 ·skip
  refine wp_skip ?_
  refine k12 _ _ ?_
  refine wp_seq_k fun K14 k14=>?_
  refine wp_block ?_
  have hsb:=Nj hpp (by omega) (k:=k) (by omega);have hsk:=hpp k (by omega)
  replace H:=H.keep [1,2,3,7,8] rfl
  refine sO H<|sr 3 rfl<|si aX bK G G (hpe.adr (by omega)) (by omega)<|slm aE rfl (hpe.rd S (by omega) (by omega))<|sd (aL G G (by unfold i64ok;omega))<|sr 1 rfl<|sE ?_;clear H a;intro a H
  refine k14 _ _ ?_
  replace H:=H.keep [1,2,3,7,8] rfl
  refine sO H<|sr 1 rfl<|sd (aL G G (by unfold i64ok;omega))<|sr 1 rfl<|sE ?_;clear H a;intro a H
  exact k11 (g1-1) (k+1) a _ (by omega) (⟨by omega,by omega⟩) (S.sel [0] G G) (H.keep [7,8,1,2,3] rfl)
 refine wp_exit ?_
 refine k9 _ _ ?_
 replace H:=H.keep [2,3,7] rfl
 refine sS H fun K17 k17=>sf eS rfl<|sl S 0 gS G G G<|sL iE rfl<|sr 2 rfl<|sg 2 4 39 41 false G G (fun hg5=>sy hg5<|sr 1 rfl<|sy hg5<|sr 1 rfl<|sz 2 G G G)<|so G G G<|sr 1 rfl<|sg 2 8 43 45 false G G (fun hg9=>sy hg9<|sr 1 rfl<|sy hg9<|sr 1 rfl<|sz 2 G G G)<|so G G G<|sr 1 rfl<|sE ?_;clear H a;intro a H
 refine k17 _ ?_;clear k17 K17
 refine wp_ret ?_
 refine ret1 (fn:=Try.f12) rfl H rfl ?_
 obtain rfl:k=pe.length:=by omega
 exact ⟨by rw [Nk (by omega) (by omega)];congr 1;simp only [Bool.or_assoc];congr 1;simp only [decide_eq_decide];omega,(S.sel [] G G)⟩
theorem yN (y:Yr) (w:World) (hy:YIn w noF y) (hyb:YBd y) :
    Calls Try.prog 5 [.agg [.int .i64 y.days,.int .i64 y.pl,.slice y.PA y.ps.length y.pc,.slice y.XA y.xs.length y.xc,.slice y.BA y.pe.length y.bc,.int .i64 y.limit,.bool y.help,.slice y.QA y.prs.length y.qc,.slice y.VA y.us.length y.vc,.int .i64 y.crew,.slice y.SA y.sps.length y.sc].toArray].toArray w (Ret (fun u w'=>∃ b,u = .bool b∧(b=false→(y.ps.length≤26∧y.us.length≤8)∧(yearE y=0→y.days≤6∧y.us.length≤3∧crwV y.pl y.ps y.xs y.pe y.limit=false))∧St w noF [] w')):=by
 have hn1:=hyb.psn;have hn2:=hyb.prn;have hn3:=hyb.usn;have hn4:=hyb.spn
 refine enter Try.func5 rfl Try.ntmps5 rfl (fun a H=>?_)
 have S:=St.start w
 refine seq_list fun K1 k1=>?_
 refine aQ H rfl S G G ?_;clear H a S;intro b1 _ a hb1 hbw1 S H
 refine ls 1 H<|sr 1 rfl<|sE ?_;clear H a;intro a H
 refine k1 _ _ ?_;clear k1 K1
 refine wp_seq_k fun K2 k2=>?_
 replace H:=H.keep [1] rfl
 refine sS H fun K3 k3=>sf eT rfl<|sf eS rfl<|sl S 0 gS G G G<|sL iE rfl<|sr 2 rfl<|sg 4 5 8 12 false G G (fun hg6=>sy hg6<|sf tI rfl<|sy hg6<|sl S 0 xM G G G<|sy hg6<|sL mH rfl<|sy hg6<|sr 1 rfl<|sz 4 G G G)<|so G G G<|sr 1 rfl<|sg 4 11 14 18 false G G (fun hg12=>sy hg12<|sf dM rfl<|sy hg12<|sl S 0 eK G G G<|sy hg12<|sL gO rfl<|sy hg12<|sr 1 rfl<|sz 4 G G G)<|so G G G<|sr 1 rfl<|sg 4 17 20 24 false G G (fun hg18=>sy hg18<|sf kS rfl<|sy hg18<|sl S 0 nR G G G<|sy hg18<|sL pQ rfl<|sy hg18<|sr 1 rfl<|sz 4 G G G)<|so G G G<|sE ?_;clear H a;intro a H
 refine k3 _ ?_;clear k3 K3
 refine cond_ H rfl (fun hc1=>?_) (fun hc1=>?_)
 ·skip
  try simp only [o1,o2,o3,o4,o5,o6,o7,o8,o9,oa] at hc1
  replace H:=H.keep [] rfl
  refine sS H fun K4 k4=>sr 1 rfl<|sE ?_;clear H a;intro a H
  refine k4 _ ?_;clear k4 K4
  refine wp_ret ?_
  refine ret1 (fn:=Try.f5) rfl H rfl ?_
  exact ⟨_,rfl,(fun h=>by cases h),(S.sel [] G G)⟩
 try simp only [o1,o2,o3,o4,o5,o6,o7,o8,o9,oa] at hc1
 refine wp_skip ?_
 refine k2 _ _ ?_
 rcases lng4 (yearE y=0) (6<y.days) (crwV y.pl y.ps y.xs y.pe y.limit) with hB|hB|hB|hB
 ·skip
  skip
  replace H:=H.keep [1] rfl
  refine seq_list fun K5 k5=>?_
  refine ls 1 H<|sd ((aB fJ iL rfl S (i:=0) G G))<|sE ?_;clear H a;intro a H
  refine aA H G G Try.func6 G G (fU y _ (hy.now S) hyb) ?_;clear H a
  rintro _ _ a ⟨rfl,S2⟩ H
  replace S:=S.call S2;clear S2
  refine ls 10 H<|sd ((jZ G G).to (congrArg Value.bool (decide_eq_false hB)))<|sr 1 rfl<|sn G G G<|sn G G G<|sn G G G<|sn G G G<|sn G G G<|sn G G G<|sn G G G<|sn G G G<|sE ?_;clear H a;intro a H
  refine jJ H G G G ?_;clear H a;intro a H
  refine jJ H G G G ?_;clear H a;intro a H
  refine jJ H G G G ?_;clear H a;intro a H
  refine ls 2 H<|sn G G G<|sn G G G<|sE ?_;clear H a;intro a H
  refine jJ H G G G ?_;clear H a;intro a H
  refine jJ H G G G ?_;clear H a;intro a H
  refine jJ H G G G ?_;clear H a;intro a H
  refine jJ H G G G ?_;clear H a;intro a H
  refine ls 3 H<|sn G G G<|sd ((aS G G G))<|sr 1 rfl<|sE ?_;clear H a;intro a H
  refine k5 _ _ ?_;clear k5 K5
  refine wp_ret ?_
  refine ret1 (fn:=Try.f5) rfl H rfl ?_
  first|exact ⟨_,rfl,(fun _=>⟨⟨by omega,by omega⟩,fun h=>absurd h hB⟩),(S.sel [] G G)⟩|exact ⟨_,rfl,(fun h=>by cases h),(S.sel [] G G)⟩|exact ⟨_,rfl,(fun h=>⟨⟨by omega,by omega⟩,fun h9=>⟨by omega,by have:=of_decide_eq_false h;omega,hB.2.1⟩⟩),(S.sel [] G G)⟩
 ·skip
  skip
  replace H:=H.keep [1] rfl
  refine seq_list fun K6 k6=>?_
  refine ls 1 H<|sd ((aB fJ iL rfl S (i:=0) G G))<|sE ?_;clear H a;intro a H
  refine aA H G G Try.func6 G G (fU y _ (hy.now S) hyb) ?_;clear H a
  rintro _ _ a ⟨rfl,S2⟩ H
  replace S:=S.call S2;clear S2
  refine ls 8 H<|sd ((jZ G G).to (congrArg Value.bool (decide_eq_true hB.1)))<|sr 1 rfl<|sy rfl<|sf eT rfl<|sy rfl<|sd ((aB dY fZ rfl S (i:=0) G G))<|sy rfl<|sf kR rfl<|sy rfl<|sl S 0 bM G G G<|sy rfl<|sf mL rfl<|sy rfl<|sl S 0 aE G G G<|sE ?_;clear H a;intro a H
  refine aW H G G ?_
  refine aA H G G Try.func12 G G (lX y.pl y.ps y.PA y.pc y.xs y.XA y.xc y.pe y.BA y.bc y.limit _ (hy.ps.now S) hyb.psn (hy.xs.now S) hyb.xsn (hy.pe.now S) hyb.pen) ?_;clear H a
  rintro _ _ a ⟨rfl,S2⟩ H
  replace S:=S.call S2;clear S2
  rw [hB.2] at H
  refine ls 13 H<|sy rfl<|sr 1 rfl<|sn G G G<|sn G G G<|sn G G G<|sy rfl<|sd ((aS G G G))<|sy rfl<|sr 1 rfl<|sn G G G<|sn G G G<|sn G G G<|sn G G G<|sy rfl<|sd ((aS G G G))<|sa G G G<|sr 1 rfl<|sE ?_;clear H a;intro a H
  refine k6 _ _ ?_;clear k6 K6
  refine wp_ret ?_
  refine ret1 (fn:=Try.f5) rfl H rfl ?_
  first|exact ⟨_,rfl,(fun _=>⟨⟨by omega,by omega⟩,fun h=>absurd h hB⟩),(S.sel [] G G)⟩|exact ⟨_,rfl,(fun h=>by cases h),(S.sel [] G G)⟩|exact ⟨_,rfl,(fun h=>⟨⟨by omega,by omega⟩,fun h9=>⟨by omega,by have:=of_decide_eq_false h;omega,hB.2.1⟩⟩),(S.sel [] G G)⟩
 ·skip
  skip
  replace H:=H.keep [1] rfl
  refine seq_list fun K7 k7=>?_
  refine ls 1 H<|sd ((aB fJ iL rfl S (i:=0) G G))<|sE ?_;clear H a;intro a H
  refine aA H G G Try.func6 G G (fU y _ (hy.now S) hyb) ?_;clear H a
  rintro _ _ a ⟨rfl,S2⟩ H
  replace S:=S.call S2;clear S2
  refine ls 8 H<|sd ((jZ G G).to (congrArg Value.bool (decide_eq_true hB.1)))<|sr 1 rfl<|sy rfl<|sf eT rfl<|sy rfl<|sd ((aB dY fZ rfl S (i:=0) G G))<|sy rfl<|sf kR rfl<|sy rfl<|sl S 0 bM G G G<|sy rfl<|sf mL rfl<|sy rfl<|sl S 0 aE G G G<|sE ?_;clear H a;intro a H
  refine aW H G G ?_
  refine aA H G G Try.func12 G G (lX y.pl y.ps y.PA y.pc y.xs y.XA y.xc y.pe y.BA y.bc y.limit _ (hy.ps.now S) hyb.psn (hy.xs.now S) hyb.xsn (hy.pe.now S) hyb.pen) ?_;clear H a
  rintro _ _ a ⟨rfl,S2⟩ H
  replace S:=S.call S2;clear S2
  rw [hB.2.1] at H
  refine ls 13 H<|sy rfl<|sr 1 rfl<|sy rfl<|sf dA rfl<|sy rfl<|sl S 0 aE G G G<|sy rfl<|sd (rM G G (by omega))<|sy rfl<|so G G G<|sy rfl<|sr 1 rfl<|sn G G G<|sn G G G<|sn G G G<|sn G G G<|sy rfl<|sd ((aS G G G))<|sa G G G<|sr 1 rfl<|sE ?_;clear H a;intro a H
  refine k7 _ _ ?_;clear k7 K7
  refine wp_ret ?_
  refine ret1 (fn:=Try.f5) rfl H rfl ?_
  first|exact ⟨_,rfl,(fun _=>⟨⟨by omega,by omega⟩,fun h=>absurd h hB⟩),(S.sel [] G G)⟩|exact ⟨_,rfl,(fun h=>by cases h),(S.sel [] G G)⟩|exact ⟨_,rfl,(fun h=>⟨⟨by omega,by omega⟩,fun h9=>⟨by omega,by have:=of_decide_eq_false h;omega,hB.2.1⟩⟩),(S.sel [] G G)⟩
 skip
 replace H:=H.keep [1] rfl
 refine seq_list fun K8 k8=>?_
 refine ls 1 H<|sd ((aB fJ iL rfl S (i:=0) G G))<|sE ?_;clear H a;intro a H
 refine aA H G G Try.func6 G G (fU y _ (hy.now S) hyb) ?_;clear H a
 rintro _ _ a ⟨rfl,S2⟩ H
 replace S:=S.call S2;clear S2
 refine ls 8 H<|sd ((jZ G G).to (congrArg Value.bool (decide_eq_true hB.1)))<|sr 1 rfl<|sy rfl<|sf eT rfl<|sy rfl<|sd ((aB dY fZ rfl S (i:=0) G G))<|sy rfl<|sf kR rfl<|sy rfl<|sl S 0 bM G G G<|sy rfl<|sf mL rfl<|sy rfl<|sl S 0 aE G G G<|sE ?_;clear H a;intro a H
 refine aW H G G ?_
 refine aA H G G Try.func12 G G (lX y.pl y.ps y.PA y.pc y.xs y.XA y.xc y.pe y.BA y.bc y.limit _ (hy.ps.now S) hyb.psn (hy.xs.now S) hyb.xsn (hy.pe.now S) hyb.pen) ?_;clear H a
 rintro _ _ a ⟨rfl,S2⟩ H
 replace S:=S.call S2;clear S2
 rw [hB.2.1] at H
 refine ls 13 H<|sy rfl<|sr 1 rfl<|sy rfl<|sf dA rfl<|sy rfl<|sl S 0 aE G G G<|sy rfl<|sd (rN G G (by omega))<|sy rfl<|so G G G<|sy rfl<|sr 1 rfl<|sy rfl<|sf dM rfl<|sy rfl<|sl S 0 eK G G G<|sy rfl<|sL gO rfl<|sy rfl<|sr 1 rfl<|sy rfl<|so G G G<|sa G G G<|sr 1 rfl<|sE ?_;clear H a;intro a H
 refine k8 _ _ ?_;clear k8 K8
 refine wp_ret ?_
 refine ret1 (fn:=Try.f5) rfl H rfl ?_
 first|exact ⟨_,rfl,(fun _=>⟨⟨by omega,by omega⟩,fun h=>absurd h hB⟩),(S.sel [] G G)⟩|exact ⟨_,rfl,(fun h=>by cases h),(S.sel [] G G)⟩|exact ⟨_,rfl,(fun h=>⟨⟨by omega,by omega⟩,fun h9=>⟨by omega,by have:=of_decide_eq_false h;omega,hB.2.1⟩⟩),(S.sel [] G G)⟩
end
section
section
variable {y:Yr} {l:List Tsk} {u:Int} {i:Nat}
end
end
section
def plU (u:Unt) (d:Nat):Use:=bA (u.old+d) u.tn u.cl
def plP (u:Unt) (m:Nat):List Use:=(List.range m).map (plU u)
section
variable {u:Unt} {m d k:Nat} {J:Nat→Int}
theorem hT:(plP u m).length=m:=by simp [plP]
theorem nL:plP u (m+1)=plP u m++[plU u m]:=by unfold plP;rw [List.range_succ,List.map_append];rfl
theorem An (h:k<m):(plP u m).getD k Use.zero=plU u k:=by unfold plP;simp [h]
theorem Gy (h:d≤m):(plP u m).take d=plP u d:=by
  unfold plP
  rw [←List.map_take,List.take_range,Nat.min_eq_left h]
theorem Gz (h:d≤m):(u.uses++plP u m).take (u.uses.length+d)=u.uses++plP u d:=by
  rw [List.take_length_add_append,Gy h]
theorem Ha {j:Nat} (h1:u.uses.length≤j) (h2:j<(u.uses++plP u m).length):((u.uses++plP u m).getD j Use.zero).meas=false:=by
  rw [List.length_append,hT] at h2
  have e:(u.uses++plP u m).getD j Use.zero=plU u (j-u.uses.length):=by
    rw [List.getD_eq_getElem?_getD,List.getElem?_append_right h1,←List.getD_eq_getElem?_getD]
    exact An (by omega)
  rw [e];rfl
theorem yO (h:PartOk u.part u.uses) (hA:IsAt u.part u.uses u.uses.length) (hi:untI u) (hp:prevD u.uses u.uses.length≤u.old):∀ m,m≤20→(PartOk u.part (u.uses++plP u m)∧IsAt u.part (u.uses++plP u m) (u.uses++plP u m).length)∧prevD (u.uses++plP u m) (u.uses++plP u m).length≤u.old+m:=by
  unfold untI at hi
  intro m
  induction m with
  | zero=>
    intro _
    have e:u.uses++plP u 0=u.uses:=by simp [plP]
    rw [e]
    exact ⟨⟨h,hA⟩,by omega⟩
  | succ m ih=>
    intro hm
    obtain ⟨⟨h1,h2⟩,h3⟩:=ih (by omega)
    have e:u.uses++plP u (m+1)=(u.uses++plP u m)++[bA (u.old+m) u.tn u.cl]:=by rw [nL,List.append_assoc];rfl
    have el:(u.uses++plP u m).length=u.uses.length+m:=by rw [List.length_append,hT]
    have hl:u.part.rates.length=u.rates.length:=rfl
    rw [e]
    refine ⟨⟨Al h1 (by omega) ⟨h3,by omega⟩ (by omega) (by rw [hl];omega),Am h2⟩,?_⟩
    have e2:((u.uses++plP u m)++[bA (u.old+m) u.tn u.cl]).length=(u.uses++plP u m).length+1:=by rw [List.length_append];rfl
    rw [e2]
    show (((u.uses++plP u m)++[bA (u.old+m) u.tn u.cl]).getD (u.uses++plP u m).length Use.zero).day≤_
    rw [fS]
    show u.old+m≤_
    push_cast
    omega
def wrnF (u:Unt) (m k:Nat):Bool:=wornB u.part (u.uses++plP u m) k (Prod.snd (bG u.part (u.uses++plP u m) k))
theorem Kj (h:PartOk u.part (u.uses++plP u m)) (hA:IsAt u.part (u.uses++plP u m) (u.uses++plP u m).length) (hd:d≤m):bydB u.part (u.uses++plP u d)=decide (0≤cZ (wrnF u m) (u.uses.length+d)):=by
  have el:(u.uses++plP u m).length=u.uses.length+m:=by rw [List.length_append,hT]
  have hm:u.uses.length+d≤(u.uses++plP u m).length:=by omega
  have e:((u.uses++plP u m).take (u.uses.length+d)).length=u.uses.length+d:=by rw [List.length_take];omega
  have hA':wearE u.part ((u.uses++plP u m).take (u.uses.length+d))=0:=jD (gF (Ai h hm)) (Ka hm hA)
  have same:∀ k,k<u.uses.length+d→wornB u.part ((u.uses++plP u m).take (u.uses.length+d)) k (Prod.snd (bG u.part ((u.uses++plP u m).take (u.uses.length+d)) k))=wrnF u m k:=fun k hk=>by
    unfold wrnF
    rw [sJ hk,sH h hm (fun j h1 h2=>Ha (by omega) h2) (u.uses.length+d-1-k) k (by omega)]
  have hb:=Aa Prod.snd hA'
  rw [e,tV same,Gz hd] at hb
  unfold bydB
  rw [hb]
  simp
theorem Kk (hJ:∀ q,J q=0):∀ d,(∀ q,q<d→runB' u J q=true)→lifeS u J d=⟨u.uses++plP u d,-u.old,u.seen⟩:=by
  intro d
  induction d with
  | zero=>intro _;show (⟨u.uses,-u.old,u.seen⟩:LSt)=_;simp [plP]
  | succ d ih=>
    intro h
    have h1:=ih (fun q hq=>h q (by omega))
    have h2:=h d (by omega)
    unfold runB' at h2
    show stepL u (lifeS u J d) (J d) d=_
    rw [h1,hJ d] at h2 ⊢
    unfold stepL
    rw [h2,show renw 0=false by decide]
    have e1:seenN ⟨u.uses++plP u d,-u.old,u.seen⟩ 0 d=u.seen:=rfl
    have e2:useAt u d (-u.old)=plU u d:=by unfold useAt plU bA;congr 1;omega
    simp only [Bool.false_eq_true,if_false,if_true]
    rw [e1,e2,nL,List.append_assoc]
theorem yP (hJ:∀ q,J q=0) (h:∀ q,q<d→runB' u J q=true):runB' u J d=(decide ((d:Int)-u.seen≤u.every)&&!bydB u.part (u.uses++plP u (d+1))):=by
  unfold runB'
  rw [Kk hJ d h,hJ d]
  unfold runN
  have e2:useAt u d (-u.old)=plU u d:=by unfold useAt plU bA;congr 1;omega
  dsimp only
  rw [e2,List.append_assoc,←nL]
  rfl
theorem Nl {n:Nat} (hn:1≤n∧n≤20) (h:PartOk u.part u.uses) (hA:IsAt u.part u.uses u.uses.length) (hi:untI u) (hJ:∀ q,J q=0) (hm:∀ q,q<m→q<n∧(q:Int)-u.seen≤u.every) (hm2:¬ (m<n∧(m:Int)-u.seen≤u.every)) (hmn:m≤n) :
    (lastO u.part u.uses (plP u m)).2=0∧max 0 (lastO u.part u.uses (plP u m)).1=((fstB (fun d=>!runB' u J d) n:Nat):Int):=by
  have hp:prevD u.uses u.uses.length≤u.old:=by unfold untI at hi;omega
  obtain ⟨⟨hO,hAt⟩,_⟩:=yO h hA hi hp m (by omega)
  have el:(u.uses++plP u m).length=u.uses.length+m:=by rw [List.length_append,hT]
  have hby:cD u.part (u.uses++plP u m) Prod.snd=(cZ (wrnF u m) (u.uses.length+m),0):=by
    rw [Aa _ (jD (gF hO) hAt),el];rfl
  have hany:(plP u m).any (·.meas)=false:=by
    rw [List.any_eq_false]
    intro x hx
    unfold plP at hx
    obtain ⟨q,_,rfl⟩:=List.mem_map.1 hx
    simp [plU,bA]
  have hl:lastO u.part u.uses (plP u m)=if cZ (wrnF u m) (u.uses.length+m)<0 then ((m:Int),0) else (max (-1) (cZ (wrnF u m) (u.uses.length+m)-u.uses.length),0):=by
    unfold lastO
    rw [if_neg (by rw [gF hO];simp),if_neg (by rw [hany];simp),hby]
    dsimp only
    rw [if_neg (by simp),hT]
  have hstop:∀ d,(∀ q,q<d→runB' u J q=true)→d<n→d<m→runB' u J d=!decide (0≤cZ (wrnF u m) (u.uses.length+(d+1))):=fun d hr hd hdm=>by
    rw [yP hJ hr,Kj hO hAt (show d+1≤m by omega),decide_eq_true (hm d hdm).2,Bool.true_and]
  rw [hl]
  rcases fP (wrnF u m) (u.uses.length+m) with ⟨h1,h2⟩|⟨k,hk,h1,h2,h3⟩
  · rw [h1,if_pos (by decide)]
    refine ⟨rfl,?_⟩
    have hall:∀ d,d≤m→∀ q,q<d→runB' u J q=true:=by
      intro d
      induction d with
      | zero=>intro _ q hq;exact absurd hq (Nat.not_lt_zero q)
      | succ d ih=>
        intro hd q hq
        by_cases e:q=d
        · subst e
          rw [hstop q (ih (by omega)) (hm q (by omega)).1 (by omega),gR fun x hx=>h2 x (by omega)];rfl
        · exact ih (by omega) q (by omega)
    have hf:fstB (fun d=>!runB' u J d) n=m:=by
      by_cases e:m<n
      · refine nX (fun q hq=>by rw [hall m (Nat.le_refl _) q hq];rfl) ?_ e
        rw [yP hJ (hall m (Nat.le_refl _)),decide_eq_false (fun h9=>hm2 ⟨e,h9⟩)];rfl
      · have:m=n:=by omega
        subst this
        exact iG fun q hq=>by rw [hall m (Nat.le_refl _) q hq];rfl
    rw [hf]
    dsimp only
    omega
  · rw [h1,if_neg (by omega)]
    refine ⟨rfl,?_⟩
    have hall:∀ d,d≤k-u.uses.length→∀ q,q<d→runB' u J q=true:=by
      intro d
      induction d with
      | zero=>intro _ q hq;exact absurd hq (Nat.not_lt_zero q)
      | succ d ih=>
        intro hd q hq
        by_cases e:q=d
        · subst e
          rw [hstop q (ih (by omega)) (hm q (by omega)).1 (by omega),gR fun x hx=>h3 x (by omega)];rfl
        · exact ih (by omega) q (by omega)
    have hf:fstB (fun d=>!runB' u J d) n=k-u.uses.length:=by
      by_cases e:m=0
      · subst e
        have e0:k-u.uses.length=0:=by omega
        rw [e0]
        refine nX (fun q hq=>absurd hq (Nat.not_lt_zero q)) ?_ (by omega)
        rw [yP hJ (fun q hq=>absurd hq (Nat.not_lt_zero q)),decide_eq_false (fun h9=>hm2 ⟨by omega,h9⟩)];rfl
      · have hkm:k-u.uses.length<m:=by omega
        refine nX (fun q hq=>by rw [hall _ (Nat.le_refl _) q hq];rfl) ?_ (hm _ hkm).1
        rw [hstop _ (hall _ (Nat.le_refl _)) (hm _ hkm).1 hkm]
        have:cZ (wrnF u m) (u.uses.length+(k-u.uses.length+1))=k:=iB (by omega) h2 h3
        rw [this,decide_eq_true (by omega)];rfl
    rw [hf]
    dsimp only
    omega
end
end
section
section
variable {p:Part} {l:List Use} {x:Use} {u:Unt} {J:Nat→Int} {n:Nat}
theorem Kl:fwd p (l++[x]) l.length=fwd p l l.length:=by
  have h:=jE (p:=p) (l:=l++[x]) (m:=l.length) l.length (Nat.le_refl _)
  rw [eH] at h
  exact h.symm
theorem Hb:sumT (l++[x]) l.length=sumT l l.length:=by
  have h:=oA (l:=l++[x]) (m:=l.length) l.length (Nat.le_refl _)
  rw [eH] at h
  exact h.symm
theorem Nm:∀ m:Nat,sumT (u.uses++plP u m) (u.uses.length+m)=sumT u.uses u.uses.length+(m:Int)*u.tn∧(fwd u.part (u.uses++plP u m) (u.uses.length+m)).2=(fwd u.part u.uses u.uses.length).2+(m:Int)*(u.tn*(u.rates.getD u.cl.toNat (0,0)).2):=by
  intro m
  induction m with
  | zero=>
    have e:u.uses++plP u 0=u.uses:=by simp [plP]
    rw [e,Nat.add_zero]
    exact ⟨by simp,by simp⟩
  | succ m ih=>
    have el:(u.uses++plP u m).length=u.uses.length+m:=by rw [List.length_append,hT]
    have e:u.uses++plP u (m+1)=(u.uses++plP u m)++[plU u m]:=by rw [nL,List.append_assoc]
    have e2:u.uses.length+(m+1)=(u.uses++plP u m).length+1:=by omega
    rw [e,e2]
    constructor
    · rw [sumT,Hb,el,ih.1,←el,fS]
      show _+u.tn=_
      push_cast
      rw [Int.add_mul,Int.one_mul]
      omega
    · rw [mZ (by rw [fS];rfl),Kl,fS,el]
      show (fwd u.part (u.uses++plP u m) (u.uses.length+m)).2+u.tn*(u.rates.getD u.cl.toNat (0,0)).2=_
      rw [ih.2]
      push_cast
      rw [Int.add_mul,Int.one_mul]
      omega
def restP (u:Unt) (n:Nat):Prop:=u.old+(n:Int)-1≤u.age∧sumT u.uses u.uses.length+(n:Int)*u.tn≤u.turns∧bY u.part u.uses+(n:Int)*(u.tn*(u.rates.getD u.cl.toNat (0,0)).2)≤u.worn*1000000
theorem Cz (hn:1≤n∧n≤20) (h:PartOk u.part u.uses) (hA:IsAt u.part u.uses u.uses.length) (hi:untI u):cZ (wrnF u n) (u.uses.length+n)<0↔restP u n:=by
  have hi':=hi
  unfold untI at hi'
  obtain ⟨⟨hO,hAt⟩,_⟩:=yO h hA hi (by omega) n (by omega)
  have el:(u.uses++plP u n).length=u.uses.length+n:=by rw [List.length_append,hT]
  obtain ⟨t1,t2⟩:=Nm (u:=u) n
  have hday:((u.uses++plP u n).getD (u.uses.length+n-1) Use.zero).day=u.old+(n:Int)-1:=by
    rw [List.getD_eq_getElem?_getD,List.getElem?_append_right (by omega),show u.uses.length+n-1-u.uses.length=n-1 by omega,←List.getD_eq_getElem?_getD,An (by omega)]
    show u.old+((n-1:Nat):Int)=_
    omega
  have e1:u.part.turns=u.turns:=rfl
  have e2:u.part.age=u.age:=rfl
  have e3:u.part.worn=u.worn:=rfl
  unfold restP
  rw [lW]
  rcases fP (wrnF u n) (u.uses.length+n) with ⟨h1,h2⟩|⟨k,hk,h1,h2,h3⟩
  · refine ⟨fun _=>?_,fun _=>by rw [h1];decide⟩
    have h4:=h2 (u.uses.length+n-1) (by omega)
    unfold wrnF wornB at h4
    rw [gQ (by omega),el,t2,show u.uses.length+n-1+1=u.uses.length+n by omega,t1,hday,e1,e2,e3,Bool.or_eq_false_iff,Bool.or_eq_false_iff,decide_eq_false_iff_not,decide_eq_false_iff_not,decide_eq_false_iff_not] at h4
    omega
  · rw [h1]
    refine ⟨fun h9=>by omega,fun h9=>?_⟩
    exfalso
    unfold wrnF wornB at h2
    have b1:=Aj hO (u.uses.length+n-1-k) k (by omega)
    have b2:=Ak hO (u.uses.length+n-1-k) (k+1) (by omega)
    have b3:=Gr hO (u.uses.length+n-1-k) k (by omega)
    have b4:prevD (u.uses++plP u n) (u.uses++plP u n).length=u.old+(n:Int)-1:=by
      rw [el,show u.uses.length+n=(u.uses.length+n-1)+1 by omega]
      exact hday
    rw [el,t2] at b1
    rw [el,t1] at b2
    rw [b4] at b3
    rw [e1,e2,e3,Bool.or_eq_true,Bool.or_eq_true,decide_eq_true_eq,decide_eq_true_eq,decide_eq_true_eq] at h2
    omega
theorem Hc (hn:1≤n∧n≤20) (h:PartOk u.part u.uses) (hA:IsAt u.part u.uses u.uses.length) (hi:untI u) (hJ:∀ q,J q=0) (hc:∀ q,q<n→(q:Int)-u.seen≤u.every):fstB (fun d=>!runB' u J d) n=n↔restP u n:=by
  rw [←Cz hn h hA hi]
  have hi':=hi
  unfold untI at hi'
  have hd:=(Nl hn h hA hi hJ (m:=n) (fun q hq=>⟨hq,hc q hq⟩) (fun h9=>absurd h9.1 (Nat.lt_irrefl n)) (Nat.le_refl n)).2
  obtain ⟨⟨hO,hAt⟩,_⟩:=yO h hA hi (by omega) n (by omega)
  have el:(u.uses++plP u n).length=u.uses.length+n:=by rw [List.length_append,hT]
  have hby:cD u.part (u.uses++plP u n) Prod.snd=(cZ (wrnF u n) (u.uses.length+n),0):=by
    rw [Aa _ (jD (gF hO) hAt),el];rfl
  have hany:(plP u n).any (·.meas)=false:=by
    rw [List.any_eq_false]
    intro x hx
    unfold plP at hx
    obtain ⟨q,_,rfl⟩:=List.mem_map.1 hx
    simp [plU,bA]
  have hl:lastO u.part u.uses (plP u n)=if cZ (wrnF u n) (u.uses.length+n)<0 then ((n:Int),0) else (max (-1) (cZ (wrnF u n) (u.uses.length+n)-u.uses.length),0):=by
    unfold lastO
    rw [if_neg (by rw [gF hO];simp),if_neg (by rw [hany];simp),hby]
    dsimp only
    rw [if_neg (by simp),hT]
  rw [hl] at hd
  rcases fP (wrnF u n) (u.uses.length+n) with ⟨h1,_⟩|⟨k,hk,h1,_⟩
  · rw [h1,if_pos (by decide)] at hd
    rw [h1]
    dsimp only at hd
    exact ⟨fun _=>by decide,fun _=>by omega⟩
  · rw [h1,if_neg (by omega)] at hd
    rw [h1]
    dsimp only at hd
    exact ⟨fun h9=>by omega,fun h9=>by omega⟩
theorem He (hn:1≤n∧n≤20) (h:PartOk u.part u.uses) (hA:IsAt u.part u.uses u.uses.length) (hi:untI u) (ho:0≤u.old) :
    ((dueO u.part u.uses u.cl (u.old+(n:Int)-1)).2=0∨(dueO u.part u.uses u.cl (u.old+(n:Int)-1)).2=3) ∧
    (¬ ((dueO u.part u.uses u.cl (u.old+(n:Int)-1)).2=0∧(dueO u.part u.uses u.cl (u.old+(n:Int)-1)).1=1000000∧(dueO u.part u.uses u.cl (u.old+(n:Int)-1)).1<u.tn*(n:Int)) →
      (restP u n↔(dueO u.part u.uses u.cl (u.old+(n:Int)-1)).2=0∧u.tn*(n:Int)≤(dueO u.part u.uses u.cl (u.old+(n:Int)-1)).1)):=by
  have hi':=hi
  unfold untI at hi'
  have e1:u.part.turns=u.turns:=rfl
  have e2:u.part.age=u.age:=rfl
  have e3:u.part.worn=u.worn:=rfl
  have e4:u.part.rates.length=u.rates.length:=rfl
  have hc0:=gF h
  have h1:(0≤u.cl∧u.cl≤(u.part.rates.length:Int)-1)∧prevD u.uses u.uses.length≤u.old+(n:Int)-1∧u.old+(n:Int)-1≤100000:=by rw [e4];omega
  have hQ:0≤(n:Int)*u.tn:=Int.mul_nonneg (by omega) (by omega)
  have hr:0≤(u.rates.getD u.cl.toNat (0,0)).2:=by
    have h2:=h.rate (k:=u.cl.toNat) (by rw [e4];omega)
    unfold fB at h2
    have h3:=of_decide_eq_true h2
    have h4:0≤(u.rates.getD u.cl.toNat (0,0)).1∧(u.rates.getD u.cl.toNat (0,0)).1≤(u.rates.getD u.cl.toNat (0,0)).2∧_:=h3
    omega
  have hQr:0≤(n:Int)*u.tn*(u.rates.getD u.cl.toNat (0,0)).2:=Int.mul_nonneg hQ hr
  rw [Int.mul_comm u.tn (n:Int)]
  unfold restP
  rw [←Int.mul_assoc]
  by_cases h3:u.part.age<u.old+(n:Int)-1∨u.part.turns<sumT u.uses u.uses.length∨u.part.worn*1000000<bY u.part u.uses
  · rw [vT hc0 h1 hA h3]
    refine ⟨.inr rfl,fun _=>⟨fun h9=>by rw [e1,e2,e3] at h3;omega,fun h9=>by cases h9.1⟩⟩
  · rw [yB hc0 h1 hA h3]
    rw [e1,e2,e3] at h3
    obtain ⟨d1,d2,⟨d3,d4⟩,d5⟩:=Cr (p:=u.part) (turns:=sumT u.uses u.uses.length) (wear:=bY u.part u.uses) (r:=(u.rates.getD u.cl.toNat (0,0)).2) (by omega) (by omega) hr
    have e5:(u.part.rates.getD u.cl.toNat (0,0)).2=(u.rates.getD u.cl.toNat (0,0)).2:=rfl
    rw [e5]
    rw [e1] at d3 d5
    rw [e3] at d4 d5
    generalize dS u.part (sumT u.uses u.uses.length) (bY u.part u.uses) (u.rates.getD u.cl.toNat (0,0)).2=N at *
    generalize hq:(n:Int)*u.tn=Q at *
    generalize (u.rates.getD u.cl.toNat (0,0)).2=r at *
    refine ⟨.inl rfl,fun hx=>⟨fun h9=>⟨rfl,?_⟩,fun h9=>?_⟩⟩
    · refine Classical.byContradiction fun hlt=>?_
      have hlt':N+1≤Q:=by show N+1≤Q;have:¬ Q≤N:=hlt;omega
      by_cases hN:N+1≤1000000
      · have h6:(N+1)*r≤Q*r:=Int.mul_le_mul_of_nonneg_right hlt' hr
        exact d5 hN ⟨by omega,by omega⟩
      · exact hx ⟨rfl,by show N=1000000;omega,by show N<Q;omega⟩
    · have h6:Q≤N:=h9.2
      have h7:Q*r≤N*r:=Int.mul_le_mul_of_nonneg_right h6 hr
      omega
end
end
section
structure Wr where
  kind:Int
  of:List Int
def Wr.zero:Wr:=⟨0,[]⟩
def fD (ws:List Wr) (OA:Nat→Option Addr) (oc:Nat→Nat) (k:Nat):Nat→Value
  | 0 => .int .i64 (ws.getD k Wr.zero).kind
  | _ => .slice (OA k) (ws.getD k Wr.zero).of.length (oc k)
def landI (a b:Int):Int:=((a.toNat &&& b.toNat:Nat):Int)
section
variable {P:Program} {L:List (Nat×Value)} {w:World} {d:Option Nat} {ty:TypeId} {pos:String} {af:Array Edge} {g:Option (Nat×Bool)}
theorem Da {x y:Operand} {xt yt:TypeId} {m k:Int} (hx:ev L x=some (.int .i64 m)) (hy:ev L y=some (.int .i64 k)) (hm:0≤m∧m≤1000000) (hk:0≤k∧k≤1000000) :
    Does P L ⟨d,.binOp .and xt x y yt,ty,pos,af,g⟩ w (.int .i64 (landI m k)):=fun ρ hρ=>by
  obtain ⟨m,rfl⟩:∃ n:Nat,m=n:=⟨m.toNat,by omega⟩
  obtain ⟨k,rfl⟩:∃ n:Nat,k=n:=⟨k.toNat,by omega⟩
  have e0:((BitVec.ofInt 64 (m:Int) &&& BitVec.ofInt 64 (k:Int)).toNat)=m &&& k:=by
    rw [BitVec.toNat_and,BitVec.ofInt_natCast,BitVec.ofInt_natCast,BitVec.toNat_ofNat,BitVec.toNat_ofNat,Nat.mod_eq_of_lt (by omega),Nat.mod_eq_of_lt (by omega)]
  have hle:m &&& k≤m:=Nat.and_le_left
  have e1:IntKind.i64.wrap ((BitVec.ofInt 64 (m:Int) &&& BitVec.ofInt 64 (k:Int)).toNat:Int)=((m &&& k:Nat):Int):=by
    rw [e0];exact i64ok.eq ⟨by omega,by omega⟩
  have e:Op.intBits .and .i64 (m:Int) (k:Int)=pure (.int .i64 (landI m k)):=by
    unfold landI
    rw [Int.toNat_natCast,Int.toNat_natCast]
    exact congrArg (fun z=>(pure (Value.int .i64 z):Sem Value)) e1
  simp [execOp,hρ _ _ hx,hρ _ _ hy,eqGuard,binOp,e]
end
def condB (sw:List Int) (hz cl op s:Int):Bool:=decide (op/2^s.toNat%2=0)&&(decide (cl/2^s.toNat%2=1)||decide (landI (sw.getD s.toNat 0) hz=0))
def wireB (sw:List Int) (ws:List Wr) (hz cl op:Int):Nat→Nat→Bool
  | 0,_=>false
  | n+1,i=>if (ws.getD i Wr.zero).kind=1 then condB sw hz cl op ((ws.getD i Wr.zero).of.getD 0 0)
    else if (ws.getD i Wr.zero).kind=3 then (ws.getD i Wr.zero).of.any fun k=>wireB sw ws hz cl op n k.toNat
    else !((ws.getD i Wr.zero).of.any fun k=>!wireB sw ws hz cl op n k.toNat)
def setB (n hz:Int):Bool:=decide (0≤n)&&decide (n<1*2^hz.toNat)
def lowA (l:List Int) (lo:Int) (q:Nat):Int:=if q=0 then lo else l.getD (q-1) 0+1
def ascP (l:List Int) (lo hi:Int) (q:Nat):Bool:=decide (lowA l lo q≤l.getD q 0∧l.getD q 0<hi)
def ascB (l:List Int) (lo hi:Int):Bool:=(List.range l.length).all (ascP l lo hi)
def wrOk (nsw nws:Nat) (ws:List Wr) (i:Nat):Bool:=
  if (ws.getD i Wr.zero).kind=1 then decide ((ws.getD i Wr.zero).of.length=1)&&ascB (ws.getD i Wr.zero).of 0 nsw
  else if (ws.getD i Wr.zero).kind=2∨(ws.getD i Wr.zero).kind=3 then decide (1≤(ws.getD i Wr.zero).of.length∧(ws.getD i Wr.zero).of.length≤8)&&ascB (ws.getD i Wr.zero).of ((i:Int)+1) nws else false
def cntO (l:List Int) (k:Nat):Nat→Int:=sm fun q=>if l.getD q 0=(k:Int) then 1 else 0
def heldW (w:Wr) (k:Nat):Int:=if w.kind=1 then 0 else cntO w.of k w.of.length
def heldN (ws:List Wr) (k:Nat):Nat→Int:=sm fun i=>heldW (ws.getD i Wr.zero) k
def cirSz (hz:Int) (sw:List Int) (ws:List Wr):Bool:=(decide (1≤hz)&&decide (hz≤8))&&((decide (1≤(sw.length:Int))&&decide ((sw.length:Int)≤12))&&(decide (1≤(ws.length:Int))&&decide ((ws.length:Int)≤24)))
def cirOk (hz:Int) (sw:List Int) (ws:List Wr):Bool:=(cirSz hz sw ws&&!(sw.any fun n=>!setB n hz))&&((List.range ws.length).all (wrOk sw.length ws.length ws)&&(decide (heldN ws 0 ws.length=0)&&!((List.range (ws.length-1)).any fun q=>!decide (heldN ws (q+1) ws.length=1))))
def circE (hz:Int) (sw:List Int) (ws:List Wr):Int:=if cirOk hz sw ws=true then 0 else 30
section
variable {hz lo hi:Int} {sw l:List Int} {ws:List Wr} {k i:Nat}
theorem Km (h:∀ q,q<l.length→ascP l lo hi q=true):ascB l lo hi=true:=List.all_eq_true.2 fun q hq=>h q (List.mem_range.1 hq)
theorem Kn (hk:k<l.length) (h:ascP l lo hi k=false):ascB l lo hi=false:=by
  cases hb:ascB l lo hi with
  | false=>rfl
  | true=>
    have:=List.all_eq_true.1 hb k (List.mem_range.2 hk)
    rw [this] at h;cases h
theorem yQ (h:ascB l lo hi=true) (hk:k<l.length):lowA l lo k≤l.getD k 0∧l.getD k 0<hi:=by
  have:=List.all_eq_true.1 h k (List.mem_range.2 hk)
  unfold ascP at this
  exact of_decide_eq_true this
theorem oB (h:ascB l lo hi=true) (hk:k<l.length):lo≤l.getD k 0∧l.getD k 0<hi:=by
  have key:∀ q,q<l.length→lo≤l.getD q 0:=by
    intro q
    induction q with
    | zero=>intro hq;have:=(yQ h hq).1;unfold lowA at this;simpa using this
    | succ q ih=>
      intro hq
      have h1:=ih (by omega)
      have h2:=(yQ h hq).1
      unfold lowA at h2
      rw [if_neg (by omega)] at h2
      simp only [Nat.add_sub_cancel] at h2
      omega
  exact ⟨key k hk,(yQ h hk).2⟩
theorem Ao (h:circE hz sw ws=0):cirOk hz sw ws=true:=by unfold circE at h;split at h;assumption;cases h
theorem Db (h:cirOk hz sw ws=true):circE hz sw ws=0:=by unfold circE;rw [if_pos h]
theorem kN (h:cirOk hz sw ws=false):circE hz sw ws=30:=by unfold circE;rw [if_neg (by rw [h];simp)]
structure CirV (hz:Int) (sw:List Int) (ws:List Wr):Prop where
  hzb:1≤hz∧hz≤8
  nsw:1≤sw.length∧sw.length≤12
  nws:1≤ws.length∧ws.length≤24
  swb:∀ k,k<sw.length→0≤sw.getD k 0∧sw.getD k 0≤255
  one:∀ i,i<ws.length→(ws.getD i Wr.zero).kind=1→(ws.getD i Wr.zero).of.length=1∧0≤(ws.getD i Wr.zero).of.getD 0 0∧(ws.getD i Wr.zero).of.getD 0 0<sw.length
  more:∀ i,i<ws.length→(ws.getD i Wr.zero).kind≠1→(ws.getD i Wr.zero).of.length≤8∧∀ q,q<(ws.getD i Wr.zero).of.length→(i:Int)+1≤(ws.getD i Wr.zero).of.getD q 0∧(ws.getD i Wr.zero).of.getD q 0<ws.length
theorem qX (h:cirOk hz sw ws=true):CirV hz sw ws:=by
  unfold cirOk cirSz at h
  simp only [Bool.and_eq_true,decide_eq_true_eq,Bool.not_eq_true'] at h
  obtain ⟨⟨⟨h1,h2,h3⟩,h4⟩,h5,_⟩:=h
  have hset:∀ k,k<sw.length→setB (sw.getD k 0) hz=true:=fun k hk=>by
    cases hb:setB (sw.getD k 0) hz with
    | true=>rfl
    | false=>
      have:(sw.any fun n=>!setB n hz)=true:=List.any_eq_true.2 ⟨sw.getD k 0,by rw [List.getD_eq_getElem?_getD,List.getElem?_eq_getElem hk];exact List.getElem_mem hk,by rw [hb];rfl⟩
      rw [this] at h4;cases h4
  have hw:∀ i,i<ws.length→wrOk sw.length ws.length ws i=true:=fun i hi=>List.all_eq_true.1 h5 i (List.mem_range.2 hi)
  have hpw:(2:Int)^hz.toNat≤256:=by
    have h9:hz.toNat≤8:=by omega
    have h8:2^hz.toNat≤256:=Nat.le_trans (Nat.pow_le_pow_right (by omega) h9) (by decide)
    have e:(2:Int)^hz.toNat=((2^hz.toNat:Nat):Int):=(Int.natCast_pow 2 hz.toNat).symm
    rw [e]
    omega
  refine ⟨h1,⟨by omega,by omega⟩,⟨by omega,by omega⟩,fun k hk=>?_,fun i hi hk=>?_,fun i hi hk=>?_⟩
  · have:=hset k hk
    unfold setB at this
    simp only [Bool.and_eq_true,decide_eq_true_eq] at this
    omega
  · have:=hw i hi
    unfold wrOk at this
    rw [if_pos hk] at this
    simp only [Bool.and_eq_true,decide_eq_true_eq] at this
    have h9:=oB this.2 (k:=0) (by omega)
    exact ⟨this.1,h9.1,h9.2⟩
  · have:=hw i hi
    unfold wrOk at this
    rw [if_neg hk] at this
    split at this
    · simp only [Bool.and_eq_true,decide_eq_true_eq] at this
      exact ⟨this.1.2,fun q hq=>oB this.2 hq⟩
    · cases this
theorem Ko {p:Int→Bool} (hk:k<l.length) (h:p (l.getD k 0)=true):l.any p=true:=by
  rw [List.getD_eq_getElem?_getD,List.getElem?_eq_getElem hk] at h
  exact List.any_eq_true.2 ⟨_,List.getElem_mem hk,h⟩
theorem Dc {p:Int→Bool} (hk:k<l.length) (h:(l.take k).any p=false) (h2:p (l.getD k 0)=false):(l.take (k+1)).any p=false:=by
  rw [List.getD_eq_getElem?_getD,List.getElem?_eq_getElem hk] at h2
  rw [List.take_succ_eq_append_getElem hk,List.any_append,h]
  simpa using h2
end
end
section
theorem St.back {w0 w w':World} {F0:Nat→Prop} {m:Mem} (S:St w0 F0 [m] w) (S':St w (fps [m]) [m] w'):St w0 F0 [m] w':=St.callR (M:=[m]) (R:=[]) S S'
theorem qY {P:Program} {f:Nat} {vs:Array Value} {w:World} {R R':Value→World→Prop} (h:Calls P f vs w (Ret R)) (k:∀ v w',R v w'→R' v w'):Calls P f vs w (Ret R'):=Calls.mono h fun e w' he=>by
  cases e with
  | returned v=>exact k v w' he
  | _=>exact he
theorem rE (l : List Int) (A : Option Addr) (cp : Nat) (f : Nat) (fn : Func) (fs cs : List Value) (p : Int → Bool) (m : Mem) (w : World) (F : Nat → Prop) (S : St w F [m] w) (hl : InS w F 1 A l.length (icl l)) (hn : l.length ≤ 9223372036854775807) (hf : Try.prog.funcs[f]? = some fn) (hfb : fn.body.isNone = false) (hfn : (fn.name == "runtime.NumGoroutine") = false) (hcall : ∀ (k : Nat) (w' : World), k < l.length → St w F [m] w' → Calls Try.prog f (fs ++ [Value.int .i64 (l.getD k 0)] ++ cs).toArray w' (Ret fun v w'' => v = .bool (p (l.getD k 0)) ∧ St w' (fps [m]) [m] w'')) :
    Calls Try.prog 101 [.slice A l.length cp,.func (.func f) fs.toArray cs.toArray].toArray w (Ret (fun u w'=>∃ n:Int,u = .int .i64 n∧decide (0≤n)=l.any p∧St w F [m] w')):=by
 refine enter Try.func101 rfl Try.ntmps101 rfl (fun a H=>?_)
 skip
 refine sS H fun K1 k1=>sr 1 rfl<|sE ?_;clear H a;intro a H
 refine k1 _ ?_;clear k1 K1
 refine wp_seq_k fun K2 k2=>?_
 refine sS H fun K3 k3=>sr 1 rfl<|sL aX rfl<|sr 1 rfl<|sE ?_;clear H a;intro a H
 refine k3 _ ?_;clear k3 K3
 refine wp_block ?_
 refine loop_st (X:=Nat) (R0:=_) [0,1,7] H rfl (fun k=>[(8,.int .i64 (k:Int))]) (fun k=>[m]) (fun g k=>k≤l.length∧g+k=l.length∧(l.take k).any p=false) (l.length) 0 ?_ (S.sel [0] G G) (H.keep [8,0,1,7] rfl) ?_
 · exact ⟨by omega,by omega,by simp⟩
 clear H S a
 intro g1 x1 a w1 hp S H K4 k4
 obtain ⟨k,rfl⟩:∃ y,y=x1:=⟨_,rfl⟩
 refine sS H fun K5 k5=>sr 1 rfl<|sE ?_;clear H a;intro a H
 refine k5 _ ?_;clear k5 K5
 refine wp_seq_k fun K6 k6=>?_
 refine condL H rfl (fun hc1=>?_) (fun hc1=>?_)
 ·skip
  refine wp_skip ?_
  refine k6 _ _ ?_
  refine wp_seq_k fun K7 k7=>?_
  refine wp_block ?_
  refine sS H fun K8 k8=>sr 2 rfl<|sE ?_;clear H a;intro a H
  refine k8 _ ?_;clear k8 K8
  refine seq_list fun K9 k9=>?_
  refine ls 5 H<|sr 3 rfl<|si aX bK G G (hl.adr (by omega)) (by omega)<|slm aE rfl (hl.rd S (by omega) (by omega))<|sE ?_;clear H a;intro a H
  have S1:=(S.sel [0] G G)
  refine lJ (fs:=fs) (cs:=cs) (vs:=[.int .i64 (l.getD k 0)]) H G G G hf hfb hfn (hcall k _ (by omega) S1) ?_;clear H a
  rintro _ _ a ⟨rfl,S2⟩ H
  replace S:=(S.sel [0] G G).callR (M:=[_]) S2;clear S1 S2
  refine k9 _ _ ?_;clear k9 K9
  refine cond_ H rfl (fun hc2=>?_) (fun hc2=>?_)
  ·skip
   try simp only [o1,o2,o3,o4,o5,o6,o7,o8,o9,oa] at hc2
   replace H:=H.keep [5] rfl
   refine sS H fun K10 k10=>sr 2 rfl<|sE ?_;clear H a;intro a H
   refine k10 _ ?_;clear k10 K10
   refine wp_ret ?_
   refine ret1 (fn:=Try.f101) rfl H rfl ?_
   exact ⟨_,rfl,by rw [Ko (k:=k) (by omega) (by simpa using hc2)];simp,(S.sel [0] G G)⟩
  try simp only [o1,o2,o3,o4,o5,o6,o7,o8,o9,oa] at hc2
  refine wp_skip ?_
  refine k7 _ _ ?_
  refine sO H<|sd (aL G G (by unfold i64ok;omega))<|sr 1 rfl<|sE ?_;clear H a;intro a H
  exact k4 (g1-1) (k+1) a _ (by omega) (⟨by omega,by omega,Dc (by omega) hp.2.2 (by simpa using hc2)⟩) (S.sel [0] G G) (H.keep [8,0,1,7] rfl)
 refine wp_exit ?_
 refine k2 _ _ ?_
 refine sS H fun K12 k12=>sr 1 rfl<|sE ?_;clear H a;intro a H
 refine k12 _ ?_;clear k12 K12
 refine wp_ret ?_
 refine ret1 (fn:=Try.f101) rfl H rfl ?_
 refine ⟨_,rfl,?_,(S.sel [0] G G)⟩;rw [List.take_of_length_le (by omega)] at hp;rw [hp.2.2];rfl
theorem eI (l : List Int) (A : Option Addr) (cp : Nat) (f : Nat) (fn : Func) (fs cs : List Value) (p : Int → Bool) (m : Mem) (w : World) (F : Nat → Prop) (S : St w F [m] w) (hl : InS w F 1 A l.length (icl l)) (hn : l.length ≤ 9223372036854775807) (hf : Try.prog.funcs[f]? = some fn) (hfb : fn.body.isNone = false) (hfn : (fn.name == "runtime.NumGoroutine") = false) (hcall : ∀ (k : Nat) (w' : World), k < l.length → St w F [m] w' → Calls Try.prog f (fs ++ [Value.int .i64 (l.getD k 0)] ++ cs).toArray w' (Ret fun v w'' => v = .bool (p (l.getD k 0)) ∧ St w' (fps [m]) [m] w'')) :
    Calls Try.prog 67 [.slice A l.length cp,.func (.func f) fs.toArray cs.toArray].toArray w (Ret (fun u w'=>u = .bool (l.any p)∧St w F [m] w')):=by
 refine enter Try.func67 rfl Try.ntmps67 rfl (fun a H=>?_)
 skip
 refine sS H fun K1 k1=>sr 1 rfl<|sE ?_;clear H a;intro a H
 refine k1 _ ?_;clear k1 K1
 refine seq_list fun K2 k2=>?_
 refine ls 2 H<|sr 2 rfl<|sE ?_;clear H a;intro a H
 have S1:=(S.sel [0] G G)
 refine aA H G G Try.func101 G G (rE l A cp f fn fs cs p m _ _ S1.startR (hl.nowR S1) hn hf hfb hfn (fun k w' hk S'=>hcall k w' hk (St.back S1 S'))) ?_;clear H a
 rintro _ _ a ⟨n9,rfl,hn9,S2⟩ H
 replace S:=(S.sel [0] G G).callR (M:=[_]) S2;clear S1 S2
 refine ls 2 H<|sr 2 rfl<|sE ?_;clear H a;intro a H
 refine k2 _ _ ?_;clear k2 K2
 refine wp_ret ?_
 refine ret1 (fn:=Try.f67) rfl H rfl ?_
 exact ⟨congrArg Value.bool hn9,(S.sel [0] G G)⟩
theorem uF (hz:Int) (sw:List Int) (SA:Option Addr) (sc:Nat) (ws:List Wr) (QA:Option Addr) (qc:Nat) (OA:Nat→Option Addr) (oc:Nat→Nat) (ha cl op:Int) (x:Int) (w:World) (F:Nat→Prop) (hsw:InS w noF 1 SA sw.length (icl sw)) (V:CirV hz sw ws) (hha:0≤ha∧ha≤4095) (hcl:0≤cl∧cl≤4095) (hop:0≤op∧op≤4095) (hx:0≤x∧x<sw.length) :
    Calls Try.prog 71 [.agg [.int .i64 hz,.slice SA sw.length sc,.slice QA ws.length qc,.int .i64 ha,.int .i64 cl,.int .i64 op].toArray,.int .i64 x].toArray w (Ret (fun u w'=>u = .bool (condB sw ha cl op x)∧St w noF [] w')):=by
 have hn12:=V.nsw
 have hsb:=V.swb x.toNat (by omega)
 refine enter Try.func71 rfl Try.ntmps71 rfl (fun a H=>?_)
 have S:=St.start w
 refine seq_list fun K1 k1=>?_
 refine aQ H rfl S G G ?_;clear H a S;intro b2 _ a hb2 hbw2 S H
 refine ls 1 H<|sr 1 rfl<|sE ?_;clear H a;intro a H
 refine k1 _ _ ?_;clear k1 K1
 replace H:=H.keep [1,2] rfl
 replace S:=S.drew
 refine sD H fun K2 k2=>sf Eh rfl<|sl S 0 aE G G G<|sr 1 rfl<|sd (iC G G (by omega) (by omega))<|sd (gA G G)<|sr 2 rfl<|sg 18 6 11 29 true G G (fun hg7=>by
     have hq7:=hg7;try simp only [o1,o2,o3,o4,o5,o6,o7,o8,o9,oa] at hq7
     exact sy hg7<|sf Ef rfl<|sy hg7<|sl S 0 aE G G G<|sy hg7<|sr 1 rfl<|sy hg7<|sd (iC G G (by omega) (by omega))<|sy hg7<|sd (gA G G)<|sy hg7<|sr 1 rfl<|sy hg7<|sr 1 rfl<|sg 10 13 18 28 false G G (fun hg14=>by
          have hq14:=hg14;try simp only [o1,o2,o3,o4,o5,o6,o7,o8,o9,oa] at hq14
          exact sy hg14<|sf vB rfl<|sy hg14<|sf iO rfl<|sy hg14<|sl S 0 bM G G G<|sy hg14<|sr 1 rfl<|sy hg14<|sI aX bK G G (hsw.adr (by omega)) (by omega) (by omega)<|sy hg14<|slm aE rfl (hsw.rd S (by omega) (by omega))<|sy hg14<|sf Ee rfl<|sy hg14<|sl S 0 aE G G G<|sy hg14<|sd (Da G G (by omega) (by omega))<|sy hg14<|sr 1 rfl<|sz 10 G G G)<|sy hg7<|so G G G<|sz 9 G G G)<|sa G G G<|sr 1 rfl<|sE ?_;clear H a;intro a H
 refine k2 _ ?_;clear k2 K2
 refine wp_ret ?_
 refine ret1 (fn:=Try.f71) rfl H rfl ?_
 exact ⟨rfl,(S.sel [] G G)⟩
theorem Dd (hz:Int) (sw:List Int) (SA:Option Addr) (sc:Nat) (ws:List Wr) (QA:Option Addr) (qc:Nat) (OA:Nat→Option Addr) (oc:Nat→Nat) (ha cl op:Int) (n sb:Nat) (x:Int) (w:World) (F:Nat→Prop) (S:St w F [boxM sb 103 [.int .i64 hz,.slice SA sw.length sc,.slice QA ws.length qc,.int .i64 ha,.int .i64 cl,.int .i64 op]] w) (hsw:InS w F 1 SA sw.length (icl sw)) (hws:InS w F 2 QA ws.length (fD ws OA oc)) (hof:∀ k,k<ws.length→InS w F 1 (OA k) (ws.getD k Wr.zero).of.length (icl (ws.getD k Wr.zero).of)) (hx:0≤x∧x<ws.length) (hxn:ws.length-x.toNat≤n) (ih:∀ (x:Int) (w:World),0≤x∧x<ws.length→ws.length-x.toNat≤n→InS w noF 1 SA sw.length (icl sw)→InS w noF 2 QA ws.length (fD ws OA oc)→(∀ k,k<ws.length→InS w noF 1 (OA k) (ws.getD k Wr.zero).of.length (icl (ws.getD k Wr.zero).of))→Calls Try.prog 40 [.agg [.int .i64 hz,.slice SA sw.length sc,.slice QA ws.length qc,.int .i64 ha,.int .i64 cl,.int .i64 op].toArray,.int .i64 x].toArray w (Ret fun u w'=>u = .bool (wireB sw ws ha cl op n x.toNat)∧St w noF [] w')) :
    Calls Try.prog 72 [.int .i64 x,.pointer (some ⟨sb,0,none⟩)].toArray w (Ret (fun u w'=>u = .bool (!wireB sw ws ha cl op n x.toNat)∧St w F [boxM sb 103 [.int .i64 hz,.slice SA sw.length sc,.slice QA ws.length qc,.int .i64 ha,.int .i64 cl,.int .i64 op]] w')):=by
 refine enter Try.func72 rfl Try.ntmps72 rfl (fun a H=>?_)
 skip
 refine sS H fun K1 k1=>sr 1 rfl<|sE ?_;clear H a;intro a H
 refine k1 _ ?_;clear k1 K1
 refine seq_list fun K2 k2=>?_
 refine ls 2 H<|sd ((aB tD xN rfl S (i:=0) G G))<|sr 1 rfl<|sE ?_;clear H a;intro a H
 refine aA H G G Try.func40 G G (ih x _ hx hxn (hsw.now S) (hws.now S) (fun k hk=>(hof k hk).now S)) ?_;clear H a
 rintro _ _ a ⟨rfl,S2⟩ H
 replace S:=S.call S2;clear S2
 refine ls 2 H<|sr 2 rfl<|sE ?_;clear H a;intro a H
 refine k2 _ _ ?_;clear k2 K2
 refine wp_ret ?_
 refine ret1 (fn:=Try.f72) rfl H rfl ?_
 exact ⟨rfl,(S.sel [0] G G)⟩
theorem Kp (hz:Int) (sw:List Int) (SA:Option Addr) (sc:Nat) (ws:List Wr) (QA:Option Addr) (qc:Nat) (OA:Nat→Option Addr) (oc:Nat→Nat) (ha cl op:Int) (n:Nat) (y:Int) (sb:Nat) (w:World) (F:Nat→Prop) (S:St w F [boxM sb 103 [.int .i64 hz,.slice SA sw.length sc,.slice QA ws.length qc,.int .i64 ha,.int .i64 cl,.int .i64 op]] w) (hsw:InS w F 1 SA sw.length (icl sw)) (hws:InS w F 2 QA ws.length (fD ws OA oc)) (hof:∀ k,k<ws.length→InS w F 1 (OA k) (ws.getD k Wr.zero).of.length (icl (ws.getD k Wr.zero).of)) (V:CirV hz sw ws) (hy:0≤y∧y<ws.length) (hyn:ws.length-y.toNat≤n+1) (hc1:¬ (ws.getD y.toNat Wr.zero).kind=1) (ih:∀ (x:Int) (w:World),0≤x∧x<ws.length→ws.length-x.toNat≤n→InS w noF 1 SA sw.length (icl sw)→InS w noF 2 QA ws.length (fD ws OA oc)→(∀ k,k<ws.length→InS w noF 1 (OA k) (ws.getD k Wr.zero).of.length (icl (ws.getD k Wr.zero).of))→Calls Try.prog 40 [.agg [.int .i64 hz,.slice SA sw.length sc,.slice QA ws.length qc,.int .i64 ha,.int .i64 cl,.int .i64 op].toArray,.int .i64 x].toArray w (Ret fun u w'=>u = .bool (wireB sw ws ha cl op n x.toNat)∧St w noF [] w')):Calls Try.prog 67 #[.slice (OA y.toNat) (ws.getD y.toNat Wr.zero).of.length (oc y.toNat),.func (.func 40) #[.agg [.int .i64 hz,.slice SA sw.length sc,.slice QA ws.length qc,.int .i64 ha,.int .i64 cl,.int .i64 op].toArray] #[]] w (Ret fun u w'=>u = .bool ((ws.getD y.toNat Wr.zero).of.any (fun k=>wireB sw ws ha cl op n k.toNat))∧St w F [boxM sb 103 [.int .i64 hz,.slice SA sw.length sc,.slice QA ws.length qc,.int .i64 ha,.int .i64 cl,.int .i64 op]] w'):=by
  have hmo:=V.more y.toNat (by omega)
  have hln:=(hmo hc1).1
  have hnw:=V.nws
  have hh:=eI (ws.getD y.toNat Wr.zero).of (OA y.toNat) (oc y.toNat) 40 _ [.agg [.int .i64 hz,.slice SA sw.length sc,.slice QA ws.length qc,.int .i64 ha,.int .i64 cl,.int .i64 op].toArray] [] (fun k=>wireB sw ws ha cl op n k.toNat) _ w F S (hof y.toNat (by omega)) (by omega) Try.func40 G G (fun k w' hk S'=>by
    have h9:=(hmo hc1).2 k hk
    have S9:=S'
    exact qY (ih ((ws.getD y.toNat Wr.zero).of.getD k 0) w' (by omega) (by omega) (hsw.now S9) (hws.now S9) (fun q hq=>(hof q hq).now S9)) fun v w'' h=>⟨h.1,S'.startR.call h.2⟩)
  exact hh
theorem Kq (hz:Int) (sw:List Int) (SA:Option Addr) (sc:Nat) (ws:List Wr) (QA:Option Addr) (qc:Nat) (OA:Nat→Option Addr) (oc:Nat→Nat) (ha cl op:Int) (n:Nat) (y:Int) (sb:Nat) (w:World) (F:Nat→Prop) (S:St w F [boxM sb 103 [.int .i64 hz,.slice SA sw.length sc,.slice QA ws.length qc,.int .i64 ha,.int .i64 cl,.int .i64 op]] w) (hsw:InS w F 1 SA sw.length (icl sw)) (hws:InS w F 2 QA ws.length (fD ws OA oc)) (hof:∀ k,k<ws.length→InS w F 1 (OA k) (ws.getD k Wr.zero).of.length (icl (ws.getD k Wr.zero).of)) (V:CirV hz sw ws) (hy:0≤y∧y<ws.length) (hyn:ws.length-y.toNat≤n+1) (hc1:¬ (ws.getD y.toNat Wr.zero).kind=1) (ih:∀ (x:Int) (w:World),0≤x∧x<ws.length→ws.length-x.toNat≤n→InS w noF 1 SA sw.length (icl sw)→InS w noF 2 QA ws.length (fD ws OA oc)→(∀ k,k<ws.length→InS w noF 1 (OA k) (ws.getD k Wr.zero).of.length (icl (ws.getD k Wr.zero).of))→Calls Try.prog 40 [.agg [.int .i64 hz,.slice SA sw.length sc,.slice QA ws.length qc,.int .i64 ha,.int .i64 cl,.int .i64 op].toArray,.int .i64 x].toArray w (Ret fun u w'=>u = .bool (wireB sw ws ha cl op n x.toNat)∧St w noF [] w')):Calls Try.prog 67 #[.slice (OA y.toNat) (ws.getD y.toNat Wr.zero).of.length (oc y.toNat),.func (.func 72) #[] #[.pointer (some ⟨sb,0,none⟩)]] w (Ret fun u w'=>u = .bool ((ws.getD y.toNat Wr.zero).of.any (fun k=>!wireB sw ws ha cl op n k.toNat))∧St w F [boxM sb 103 [.int .i64 hz,.slice SA sw.length sc,.slice QA ws.length qc,.int .i64 ha,.int .i64 cl,.int .i64 op]] w'):=by
  have hmo:=V.more y.toNat (by omega)
  have hln:=(hmo hc1).1
  have hnw:=V.nws
  have hh:=eI (ws.getD y.toNat Wr.zero).of (OA y.toNat) (oc y.toNat) 72 _ [] [.pointer (some ⟨sb,0,none⟩)] (fun k=>!wireB sw ws ha cl op n k.toNat) _ w F S (hof y.toNat (by omega)) (by omega) Try.func72 G G (fun k w' hk S'=>by
    have h9:=(hmo hc1).2 k hk
    have S9:=S'
    exact Dd hz sw SA sc ws QA qc OA oc ha cl op n sb ((ws.getD y.toNat Wr.zero).of.getD k 0) w' _ S'.startR (hsw.nowR S9) (hws.nowR S9) (fun q hq=>(hof q hq).nowR S9) (by omega) (by omega) ih)
  exact hh
theorem rF (hz:Int) (sw:List Int) (SA:Option Addr) (sc:Nat) (ws:List Wr) (QA:Option Addr) (qc:Nat) (OA:Nat→Option Addr) (oc:Nat→Nat) (ha cl op:Int) (n:Nat) (y:Int) (w:World) (hsw:InS w noF 1 SA sw.length (icl sw)) (hws:InS w noF 2 QA ws.length (fD ws OA oc)) (hof:∀ k,k<ws.length→InS w noF 1 (OA k) (ws.getD k Wr.zero).of.length (icl (ws.getD k Wr.zero).of)) (V:CirV hz sw ws) (hha:0≤ha∧ha≤4095) (hcl:0≤cl∧cl≤4095) (hop:0≤op∧op≤4095) (hy:0≤y∧y<ws.length) (hyn:ws.length-y.toNat≤n+1) (ih:∀ (x:Int) (w:World),0≤x∧x<ws.length→ws.length-x.toNat≤n→InS w noF 1 SA sw.length (icl sw)→InS w noF 2 QA ws.length (fD ws OA oc)→(∀ k,k<ws.length→InS w noF 1 (OA k) (ws.getD k Wr.zero).of.length (icl (ws.getD k Wr.zero).of))→Calls Try.prog 40 [.agg [.int .i64 hz,.slice SA sw.length sc,.slice QA ws.length qc,.int .i64 ha,.int .i64 cl,.int .i64 op].toArray,.int .i64 x].toArray w (Ret fun u w'=>u = .bool (wireB sw ws ha cl op n x.toNat)∧St w noF [] w')) :
    Calls Try.prog 40 [.agg [.int .i64 hz,.slice SA sw.length sc,.slice QA ws.length qc,.int .i64 ha,.int .i64 cl,.int .i64 op].toArray,.int .i64 y].toArray w (Ret (fun u w'=>u = .bool (wireB sw ws ha cl op (n+1) y.toNat)∧St w noF [] w')):=by
 have hnw:=V.nws
 have hmo:=V.more y.toNat (by omega)
 have hon:=V.one y.toNat (by omega)
 refine enter Try.func40 rfl Try.ntmps40 rfl (fun a H=>?_)
 have S:=St.start w
 refine seq_list fun K1 k1=>?_
 refine aQ H rfl S G G ?_;clear H a S;intro b2 _ a hb2 hbw2 S H
 refine ls 1 H<|sr 1 rfl<|sE ?_;clear H a;intro a H
 refine k1 _ _ ?_;clear k1 K1
 replace H:=H.keep [1,2] rfl
 refine seq_list fun K2 k2=>?_
 refine ls 6 H<|sf vB rfl<|sf jQ rfl<|sl S 0 lN G G G<|sr 1 rfl<|sI mI pO G G (hws.adr (by omega)) (by omega) (by omega)<|sd ((aU Ea pO rfl S hws (by omega) (by omega)))<|sE ?_;clear H a;intro a H
 refine aI H rfl S zN ?_;clear H a S;intro b5 _ a hb5 hbw5 S H
 refine aD H S (i:=0) G G G G pO G G ?_
 clear H a S;intro _ a S H
 refine k2 _ _ ?_;clear k2 K2
 refine wp_seq_k fun K3 k3=>?_
 replace H:=H.keep [2,5] rfl
 refine sS H fun K4 k4=>sf zL rfl<|sl S 0 aE G G G<|sE ?_;clear H a;intro a H
 refine k4 _ ?_;clear k4 K4
 refine wp_block ?_
 refine sS H fun K5 k5=>sr 2 rfl<|sE ?_;clear H a;intro a H
 refine k5 _ ?_;clear k5 K5
 refine condE H rfl (fun hc1=>?_) (fun hc1=>?_)
 ·skip
  replace H:=H.keep [2,5] rfl
  replace S:=S.drew
  refine seq_wq [(0,true),(1,true),(2,true),(3,true),(4,true),(5,false),(6,true)] (by kernel_rfl) (by kernel_rfl) (S.sel [0,1] G G) fun K6 k6=>?_
  refine qF H<|qd rfl (fun _ S=>(aB tD xN rfl S (i:=1) G G))<|qd rfl (fun _ S=>(aC eE rfl))<|qd rfl (fun _ S=>aH bM rfl (boxM.rd S (i:=0) G G))<|qd rfl (fun _ S=>bO aX bK G G ((hof y.toNat (by omega)).adr (by omega)) (by omega) (by omega))<|qd rfl (fun _ S=>aH aE rfl ((hof y.toNat (by omega)).rd S (by omega) (by omega)))<|qK ?_;clear H a;intro a H
  refine aT rfl ?_
  refine aA H G G Try.func71 G G (uF hz sw SA sc ws QA qc OA oc ha cl op ((ws.getD y.toNat Wr.zero).of.getD 0 0) _ noF (hsw.now S) V hha hcl hop (by have:=hon hc1;omega)) ?_;clear H a
  rintro _ _ a ⟨rfl,S2⟩ H
  replace S:=S.call S2;clear S2
  refine wpList_nil (And.intro (S.sel [0,1] G G) ?_)
  refine qF H<|qr 1 rfl<|qK ?_;clear H a;intro a H
  refine bJ ?_
  refine k6 _ _ ?_
  clear k6 K6
  refine wp_ret ?_
  refine ret1 (fn:=Try.f40) rfl H rfl ?_
  refine ⟨congrArg Value.bool ?_,(S.sel [] G G)⟩
  rw [wireB,if_pos hc1]
 refine sS H fun K7 k7=>sr 2 rfl<|sE ?_;clear H a;intro a H
 refine k7 _ ?_;clear k7 K7
 refine condE H rfl (fun hc2=>?_) (fun hc2=>?_)
 ·skip
  replace H:=H.keep [2,5] rfl
  refine seq_list fun K8 k8=>?_
  refine ls 4 H<|sf eE rfl<|sl S 0 bM G G G<|sd ((aB tD xN rfl S (i:=1) G G))<|sr 1 rfl<|sE ?_;clear H a;intro a H
  have S1:=(S.sel [1] G G)
  refine aA H G G Try.func67 G G (Kp hz sw SA sc ws QA qc OA oc ha cl op n y b2 _ _ S1.startR ((hsw.nowR S1)) (hws.nowR S1) (fun k hk=>(hof k hk).nowR S1) V hy hyn hc1 ih) ?_;clear H a
  rintro _ _ a ⟨rfl,S2⟩ H
  replace S:=(S.sel [1,0] G G).callR (M:=[_]) S2;clear S1 S2
  refine ls 1 H<|sr 1 rfl<|sE ?_;clear H a;intro a H
  refine k8 _ _ ?_;clear k8 K8
  refine wp_ret ?_
  refine ret1 (fn:=Try.f40) rfl H rfl ?_
  refine ⟨congrArg Value.bool ?_,(S.sel [] G G)⟩
  rw [wireB,if_neg hc1,if_pos hc2]
 skip
 refine wp_skip ?_
 refine k3 _ _ ?_
 replace H:=H.keep [2,5] rfl
 refine seq_list fun K9 k9=>?_
 refine ls 3 H<|sf eE rfl<|sl S 0 bM G G G<|sr 1 rfl<|sE ?_;clear H a;intro a H
 have S1:=(S.sel [1] G G)
 refine aA H G G Try.func67 G G (Kq hz sw SA sc ws QA qc OA oc ha cl op n y b2 _ _ S1.startR ((hsw.nowR S1)) (hws.nowR S1) (fun k hk=>(hof k hk).nowR S1) V hy hyn hc1 ih) ?_;clear H a
 rintro _ _ a ⟨rfl,S2⟩ H
 replace S:=(S.sel [1,0] G G).callR (M:=[_]) S2;clear S1 S2
 refine ls 2 H<|sr 2 rfl<|sE ?_;clear H a;intro a H
 refine k9 _ _ ?_;clear k9 K9
 refine wp_ret ?_
 refine ret1 (fn:=Try.f40) rfl H rfl ?_
 refine ⟨congrArg Value.bool ?_,(S.sel [] G G)⟩
 rw [wireB,if_neg hc1,if_neg hc2]
theorem Hf (hz:Int) (sw:List Int) (SA:Option Addr) (sc:Nat) (ws:List Wr) (QA:Option Addr) (qc:Nat) (OA:Nat→Option Addr) (oc:Nat→Nat) (ha cl op:Int) (V:CirV hz sw ws) (hha:0≤ha∧ha≤4095) (hcl:0≤cl∧cl≤4095) (hop:0≤op∧op≤4095):∀ n:Nat,∀ (x:Int) (w:World),0≤x∧x<ws.length→ws.length-x.toNat≤n→InS w noF 1 SA sw.length (icl sw)→InS w noF 2 QA ws.length (fD ws OA oc)→(∀ k,k<ws.length→InS w noF 1 (OA k) (ws.getD k Wr.zero).of.length (icl (ws.getD k Wr.zero).of))→Calls Try.prog 40 [.agg [.int .i64 hz,.slice SA sw.length sc,.slice QA ws.length qc,.int .i64 ha,.int .i64 cl,.int .i64 op].toArray,.int .i64 x].toArray w (Ret fun u w'=>u = .bool (wireB sw ws ha cl op n x.toNat)∧St w noF [] w'):=by
  intro n
  induction n with
  | zero=>intro x w hx hxn;omega
  | succ n ih=>intro x w hx hxn h1 h2 h3;exact rF hz sw SA sc ws QA qc OA oc ha cl op n x w h1 h2 h3 V hha hcl hop hx hxn ih
end
section
theorem wS {l:List Int} {x:Int} {v:Value} (hv:v = .int .i64 x):∀ k j,k<l.length+1→j<1→capp l.length (icl l) (fun k' j=>([[v]].getD k' []).getD j undef) k j=icl (l++[x]) k j:=by
  subst hv
  intro k j hk hj
  unfold capp icl
  by_cases h:k<l.length
  · rw [if_pos h]
    simp only [List.getD_eq_getElem?_getD,List.getElem?_append_left h]
  · rw [if_neg h]
    obtain rfl:k=l.length:=by omega
    obtain rfl:j=0:=by omega
    simp
theorem pwc {h:Nat} (hh:h<12):0≤(1:Int)*2^(h:Int).toNat∧(1:Int)*2^(h:Int).toNat≤2048:=by
  rw [Int.toNat_natCast,Int.one_mul]
  have h8:2^h≤2048:=Nat.le_trans (Nat.pow_le_pow_right (by omega) (show h≤11 by omega)) (by decide)
  have e:(2:Int)^h=((2^h:Nat):Int):=(Int.natCast_pow 2 h).symm
  rw [e]
  exact ⟨Int.natCast_nonneg _,Int.ofNat_le.2 h8⟩
def wkN (hz:Int) (sw:List Int) (ws:List Wr) (cl:Int):Nat→List Int
  | 0=>[]
  | h+1=>if wireB sw ws (1*2^(h:Int).toNat) cl 0 ws.length (Int.toNat 0)=true then wkN hz sw ws cl h++[(h:Int)] else wkN hz sw ws cl h
theorem oX {hz cl:Int} {sw:List Int} {ws:List Wr}:∀ h,(wkN hz sw ws cl h).length≤h:=fun h=>by
  induction h with
  | zero=>exact Nat.le_refl _
  | succ h ih=>rw [wkN];split <;> (try rw [List.length_append,List.length_singleton]) <;> omega
def critN (hz:Int) (sw:List Int) (ws:List Wr):Nat→List Int
  | 0=>[]
  | s+1=>if 0<(wkN hz sw ws (1*2^(s:Int).toNat) hz.toNat).length then critN hz sw ws s++[(s:Int)] else critN hz sw ws s
theorem sM {hz:Int} {sw:List Int} {ws:List Wr}:∀ h,(critN hz sw ws h).length≤h:=fun h=>by
  induction h with
  | zero=>exact Nat.le_refl _
  | succ h ih=>rw [critN];split <;> (try rw [List.length_append,List.length_singleton]) <;> omega
theorem wT (hz:Int) (sw:List Int) (SA:Option Addr) (sc:Nat) (ws:List Wr) (QA:Option Addr) (qc:Nat) (OA:Nat→Option Addr) (oc:Nat→Nat) (cl:Int) (w:World) (hsw:InS w noF 1 SA sw.length (icl sw)) (hws:InS w noF 2 QA ws.length (fD ws OA oc)) (hof:∀ k,k<ws.length→InS w noF 1 (OA k) (ws.getD k Wr.zero).of.length (icl (ws.getD k Wr.zero).of)) (V:CirV hz sw ws) (hcl:0≤cl∧cl≤4095) :
    Calls Try.prog 52 [.agg [.int .i64 hz,.slice SA sw.length sc,.slice QA ws.length qc].toArray,.int .i64 cl].toArray w (Ret (fun u w'=>∃ A' c',u = .slice A' (wkN hz sw ws cl hz.toNat).length c'∧St w noF [ownM 3 1 A' (wkN hz sw ws cl hz.toNat).length c' (icl (wkN hz sw ws cl hz.toNat))] w')):=by
 have hzb:=V.hzb
 have hnw:=V.nws
 refine enter Try.func52 rfl Try.ntmps52 rfl (fun a H=>?_)
 have S:=St.start w
 refine seq_list fun K1 k1=>?_
 refine aQ H rfl S G G ?_;clear H a S;intro b2 _ a hb2 hbw2 S H
 refine ls 1 H<|sr 1 rfl<|sE ?_;clear H a;intro a H
 refine k1 _ _ ?_;clear k1 K1
 refine wp_seq_k fun K2 k2=>?_
 refine sS H fun K3 k3=>sf oT rfl<|sl S 0 aE G G G<|sr 1 rfl<|sE ?_;clear H a;intro a H
 refine k3 _ ?_;clear k3 K3
 refine wp_block ?_
 replace S:=S.newNil 3 1 (icl [])
 refine loop_st (X:=Nat×List Int×Option Addr×Nat) (R0:=_) [1,2,7] H rfl (fun ⟨h,L9,A9,c9⟩=>[(4,.slice A9 L9.length c9),(8,.int .i64 (h:Int))]) (fun ⟨h,L9,A9,c9⟩=>[ownM 3 1 A9 L9.length c9 (icl L9)]) (fun g ⟨h,L9,A9,c9⟩=>(h:Int)≤hz∧(g:Int)+h=hz∧L9=wkN hz sw ws cl h) (hz.toNat) (0,[],none,0) ?_ (S.sel [0,1] G G) (H.keep [4,8,1,2,7] rfl) ?_
 · exact ⟨by omega,by omega,rfl⟩
 clear H S a
 intro g1 x1 a w1 hp S H K4 k4
 obtain ⟨h,L9,A9,c9⟩:=x1
 dsimp only at hp S H
 refine sS H fun K5 k5=>sr 1 rfl<|sE ?_;clear H a;intro a H
 refine k5 _ ?_;clear k5 K5
 refine wp_seq_k fun K6 k6=>?_
 refine condL H rfl (fun hc1=>?_) (fun hc1=>?_)
 ·skip
  refine wp_skip ?_
  refine k6 _ _ ?_
  refine wp_seq_k fun K7 k7=>?_
  refine wp_block ?_
  refine sS H fun K8 k8=>sr 2 rfl<|sE ?_;clear H a;intro a H
  refine k8 _ ?_;clear k8 K8
  have hsh:=pwc (h:=h) (by omega)
  have hL9:L9.length≤h:=by rw [hp.2.2];exact oX h
  replace S:=S.drew
  refine seq_wq [(0,true),(1,true),(2,true),(3,true),(4,true),(5,false)] (by kernel_rfl) (by kernel_rfl) (S.sel [0,1] G G) fun K9 k9=>?_
  refine qF H<|qd rfl (fun _ S=>(aB dT cV rfl S (i:=1) G G))<|qr 1 rfl<|qd rfl (fun _ S=>eO G G (by omega) (by omega) (by unfold i64ok;omega))<|qr 1 rfl<|qd rfl (fun _ S=>aP Me G G)<|qK ?_;clear H a;intro a H
  refine aT rfl ?_
  refine aA H G G Try.func40 G G (Hf hz sw SA sc ws QA qc OA oc (1*2^(h:Int).toNat) cl 0 V (by omega) hcl (by omega) ws.length 0 _ (by omega) (by omega) (hsw.now S) (hws.now S) (fun k hk=>(hof k hk).now S)) ?_;clear H a
  rintro _ _ a ⟨rfl,S2⟩ H
  replace S:=S.call S2;clear S2
  refine wpList_nil (And.intro (S.sel [0,1] G G) ?_)
  refine bJ ?_
  refine k9 _ _ ?_
  clear k9 K9
  refine cond_ H rfl (fun hc2=>?_) (fun hc2=>?_)
  ·skip
   try simp only [o1,o2,o3,o4,o5,o6,o7,o8,o9,oa] at hc2
   replace H:=H.keep [1,2,4,5,7,8] rfl
   refine one_list ?_
   refine ls 2 H<|sr 2 rfl<|sE ?_;clear H a;intro a H
   refine bD H rfl S aX bK iT G G G G G G G G G ?_;clear H a S;intro A1 _ a hA1 S H
   refine cK H rfl S aX bK iT vJ G G (i:=1) G G G (ownM.inS S (i:=0) rfl) (iH (one rfl)) (by omega) (by omega) ?_;clear H a S;intro A2 c2 _ a S H
   replace S:=S.recell (i:=1) rfl (cell':=icl (L9++[(h:Int)])) (wS rfl)
   rw [show L9.length+1=(L9++[(h:Int)]).length by simp] at H S
   refine ls 1 H<|sr 1 rfl<|sE ?_;clear H a;intro a H
   refine k7 _ _ ?_
   refine sO H<|sd (aL G G (by unfold i64ok;omega))<|sr 1 rfl<|sE ?_;clear H a;intro a H
   exact k4 (g1-1) (h+1,_,_,_) a _ (by omega) (⟨by omega,by omega,by rw [wkN];first|rw [if_pos hc2,←hp.2.2]|rw [if_neg (by simpa using hc2),←hp.2.2]⟩) (S.sel [1,2] G G) (H.keep [4,8,1,2,7] rfl)
  try simp only [o1,o2,o3,o4,o5,o6,o7,o8,o9,oa] at hc2
  refine wp_skip ?_
  refine k7 _ _ ?_
  refine sO H<|sd (aL G G (by unfold i64ok;omega))<|sr 1 rfl<|sE ?_;clear H a;intro a H
  exact k4 (g1-1) (h+1,_,_,_) a _ (by omega) (⟨by omega,by omega,by rw [wkN];first|rw [if_pos hc2,←hp.2.2]|rw [if_neg (by simpa using hc2),←hp.2.2]⟩) (S.sel [0,1] G G) (H.keep [4,8,1,2,7] rfl)
 refine wp_exit ?_
 refine k2 _ _ ?_
 replace H:=H.keep [4] rfl
 refine sS H fun K13 k13=>sr 2 rfl<|sE ?_;clear H a;intro a H
 refine k13 _ ?_;clear k13 K13
 refine wp_ret ?_
 refine ret1 (fn:=Try.f52) rfl H rfl ?_
 have hh9:h=hz.toNat:=by omega
 rw [hh9] at hp
 rw [←hp.2.2]
 exact ⟨_,_,rfl,(S.sel [0] G G)⟩
end
section
theorem lowA_next {l:List Int} {lo:Int} {k:Nat}:lowA l lo (k+1)=l.getD k 0+1:=by unfold lowA;rw [if_neg (by omega)];rfl
theorem pwh {hz:Int} (h:0≤hz∧hz≤12):0≤(1:Int)*2^hz.toNat∧(1:Int)*2^hz.toNat≤4096:=by
  rw [Int.one_mul]
  have h8:2^hz.toNat≤4096:=Nat.le_trans (Nat.pow_le_pow_right (by omega) (show hz.toNat≤12 by omega)) (by decide)
  have e:(2:Int)^hz.toNat=((2^hz.toNat:Nat):Int):=(Int.natCast_pow 2 hz.toNat).symm
  rw [e]
  exact ⟨Int.natCast_nonneg _,Int.ofNat_le.2 h8⟩
def bcl (l:List Bool):Nat→Nat→Value:=fun k _ => .bool (l.getD k false)
theorem De {l:List Bool} {k:Nat} (hk:k<l.length) (h:(l.take k).all (fun b=>b)=true) (h2:l.getD k false=true):(l.take (k+1)).all (fun b=>b)=true:=by
  rw [List.getD_eq_getElem?_getD,List.getElem?_eq_getElem hk] at h2
  rw [List.take_succ_eq_append_getElem hk,List.all_append,h]
  simpa using h2
theorem Kr {l:List Bool} {k:Nat} (hk:k<l.length) (h:l.getD k false=false):l.all (fun b=>b)=false:=by
  rw [List.getD_eq_getElem?_getD,List.getElem?_eq_getElem hk] at h
  cases hb:l.all (fun b=>b) with
  | false=>rfl
  | true=>have:=List.all_eq_true.1 hb _ (List.getElem_mem hk);simp at h;rw [h] at this;cases this
theorem Df (n many:Int) (w:World) (hm:0≤many∧many≤12) :
    Calls Try.prog 39 [.int .i64 n,.int .i64 many].toArray w (Ret (fun u w'=>u = .bool (setB n many)∧St w noF [] w')):=by
 have hpw:=pwh hm
 refine enter Try.func39 rfl Try.ntmps39 rfl (fun a H=>?_)
 have S:=St.start w
 refine sS H fun K1 k1=>sr 1 rfl<|sE ?_;clear H a;intro a H
 refine k1 _ ?_;clear k1 K1
 replace H:=H.keep [0,1] rfl
 refine sS H fun K2 k2=>sr 3 rfl<|sg 4 2 7 11 true G G (fun hg3=>sy hg3<|sr 1 rfl<|sy hg3<|sr 1 rfl<|sy hg3<|sd (eO G G (by omega) (by omega) (by unfold i64ok;omega))<|sy hg3<|sr 1 rfl<|sz 4 G G G)<|sa G G G<|sr 1 rfl<|sE ?_;clear H a;intro a H
 refine k2 _ ?_;clear k2 K2
 refine wp_ret ?_
 refine ret1 (fn:=Try.f39) rfl H rfl ?_
 exact ⟨rfl,(S.sel [] G G)⟩
theorem yR (n:Int) (w:World) :
    Calls Try.prog 70 [.int .i64 n].toArray w (Ret (fun u w'=>u = .bool (!decide (n=1))∧St w noF [] w')):=by
 refine enter Try.func70 rfl Try.ntmps70 rfl (fun a H=>?_)
 have S:=St.start w
 refine sS H fun K1 k1=>sr 1 rfl<|sE ?_;clear H a;intro a H
 refine k1 _ ?_;clear k1 K1
 refine sS H fun K2 k2=>sr 3 rfl<|sE ?_;clear H a;intro a H
 refine k2 _ ?_;clear k2 K2
 refine wp_ret ?_
 refine ret1 (fn:=Try.f70) rfl H rfl ?_
 exact ⟨rfl,(S.sel [] G G)⟩
theorem iU (l:List Int) (A:Option Addr) (cp:Nat) (lo hi:Int) (w:World) (hl:InS w noF 1 A l.length (icl l)) (hn:l.length≤9223372036854775807) (hlo:0≤lo∧lo≤1000) (hhi:0≤hi∧hi≤1000) :
    Calls Try.prog 69 [.slice A l.length cp,.int .i64 lo,.int .i64 hi].toArray w (Ret (fun u w'=>u = .bool (ascB l lo hi)∧St w noF [] w')):=by
 refine enter Try.func69 rfl Try.ntmps69 rfl (fun a H=>?_)
 have S:=St.start w
 refine sS H fun K1 k1=>sr 1 rfl<|sE ?_;clear H a;intro a H
 refine k1 _ ?_;clear k1 K1
 refine wp_seq_k fun K2 k2=>?_
 refine sS H fun K3 k3=>sr 1 rfl<|sL aX rfl<|sr 1 rfl<|sE ?_;clear H a;intro a H
 refine k3 _ ?_;clear k3 K3
 refine wp_block ?_
 refine loop_st (X:=Nat×Int) (R0:=_) [2,9,10] H rfl (fun ⟨k,lw⟩=>[(1,.int .i64 lw),(11,.int .i64 (k:Int))]) (fun ⟨k,lw⟩=>[]) (fun g ⟨k,lw⟩=>k≤l.length∧g+k=l.length∧(0≤lw∧lw≤1000)∧lw=lowA l lo k∧∀ q,q<k→ascP l lo hi q=true) (l.length) (0,lo) ?_ (S.sel [] G G) (H.keep [1,11,2,9,10] rfl) ?_
 · exact ⟨by omega,by omega,by omega,rfl,fun q hq=>absurd hq (Nat.not_lt_zero q)⟩
 clear H S a
 intro g1 x1 a w1 hp S H K4 k4
 obtain ⟨k,lw⟩:=x1
 dsimp only at hp S H
 refine sS H fun K5 k5=>sr 1 rfl<|sE ?_;clear H a;intro a H
 refine k5 _ ?_;clear k5 K5
 refine wp_seq_k fun K6 k6=>?_
 refine condL H rfl (fun hc1=>?_) (fun hc1=>?_)
 ·skip
  refine wp_skip ?_
  refine k6 _ _ ?_
  refine wp_seq_k fun K7 k7=>?_
  refine wp_block ?_
  refine sS H fun K8 k8=>si aX bK G G (hl.adr (by omega)) (by omega)<|slm aE rfl (hl.rd S (by omega) (by omega))<|sr 1 rfl<|sE ?_;clear H a;intro a H
  refine k8 _ ?_;clear k8 K8
  refine wp_seq_k fun K9 k9=>?_
  replace H:=H.keep [1,2,8,9,10,11] rfl
  refine sS H fun K10 k10=>sr 4 rfl<|sg 3 3 18 21 false G G (fun hg4=>sy hg4<|sr 1 rfl<|sy hg4<|sr 1 rfl<|sy hg4<|sr 1 rfl<|sz 3 G G G)<|so G G G<|sE ?_;clear H a;intro a H
  refine k10 _ ?_;clear k10 K10
  refine cond_ H rfl (fun hc2=>?_) (fun hc2=>?_)
  ·skip
   try simp only [o1,o2,o3,o4,o5,o6,o7,o8,o9,oa] at hc2
   have hcx:=hc2
   refine sS H fun K11 k11=>sr 1 rfl<|sE ?_;clear H a;intro a H
   refine k11 _ ?_;clear k11 K11
   refine wp_ret ?_
   refine ret1 (fn:=Try.f69) rfl H rfl ?_
   rw [Kn (k:=k) (by omega) (by unfold ascP;rw [←hp.2.2.2.1];exact decide_eq_false (by simp at hcx;omega))];exact ⟨rfl,(S.sel [] G G)⟩
  try simp only [o1,o2,o3,o4,o5,o6,o7,o8,o9,oa] at hc2
  have hcx:=hc2
  refine wp_skip ?_
  refine k9 _ _ ?_
  simp at hcx
  replace H:=H.keep [2,8,9,10,11] rfl
  refine sO H<|sr 1 rfl<|sd (aL G G (by unfold i64ok;omega))<|sr 1 rfl<|sE ?_;clear H a;intro a H
  refine k7 _ _ ?_
  refine sO H<|sd (aL G G (by unfold i64ok;omega))<|sr 1 rfl<|sE ?_;clear H a;intro a H
  exact k4 (g1-1) (k+1,_) a _ (by omega) (⟨by omega,by omega,by omega,lowA_next.symm,fun q hq=>if h9:q<k then hp.2.2.2.2 q h9 else by
        obtain rfl:q=k:=by omega
        unfold ascP;rw [←hp.2.2.2.1];exact decide_eq_true (by omega)⟩) (S.sel [] G G) (H.keep [1,11,2,9,10] rfl)
 refine wp_exit ?_
 refine k2 _ _ ?_
 refine sS H fun K14 k14=>sr 1 rfl<|sE ?_;clear H a;intro a H
 refine k14 _ ?_;clear k14 K14
 refine wp_ret ?_
 refine ret1 (fn:=Try.f69) rfl H rfl ?_
 rw [Km (fun q hq=>hp.2.2.2.2 q (by omega))];exact ⟨rfl,(S.sel [] G G)⟩
theorem yS (l:List Bool) (A:Option Addr) (cp:Nat) (w:World) (hl:InS w noF 1 A l.length (bcl l)) (hn:l.length≤9223372036854775807) :
    Calls Try.prog 100 [.slice A l.length cp,.bool false].toArray w (Ret (fun u w'=>∃ n:Int,u = .int .i64 n∧decide (0≤n)=!(l.all fun b=>b)∧St w noF [] w')):=by
 refine enter Try.func100 rfl Try.ntmps100 rfl (fun a H=>?_)
 have S:=St.start w
 refine sS H fun K1 k1=>sr 1 rfl<|sE ?_;clear H a;intro a H
 refine k1 _ ?_;clear k1 K1
 refine wp_seq_k fun K2 k2=>?_
 refine sS H fun K3 k3=>sr 1 rfl<|sL xO rfl<|sr 1 rfl<|sE ?_;clear H a;intro a H
 refine k3 _ ?_;clear k3 K3
 refine wp_block ?_
 refine loop_st (X:=Nat) (R0:=_) [0,1,7] H rfl (fun k=>[(8,.int .i64 (k:Int))]) (fun k=>[]) (fun g k=>k≤l.length∧g+k=l.length∧(l.take k).all (fun b=>b)=true) (l.length) 0 ?_ (S.sel [] G G) (H.keep [8,0,1,7] rfl) ?_
 · exact ⟨by omega,by omega,rfl⟩
 clear H S a
 intro g1 x1 a w1 hp S H K4 k4
 obtain ⟨k,rfl⟩:∃ y,y=x1:=⟨_,rfl⟩
 refine sS H fun K5 k5=>sr 1 rfl<|sE ?_;clear H a;intro a H
 refine k5 _ ?_;clear k5 K5
 refine wp_seq_k fun K6 k6=>?_
 refine condL H rfl (fun hc1=>?_) (fun hc1=>?_)
 ·skip
  refine wp_skip ?_
  refine k6 _ _ ?_
  refine wp_seq_k fun K7 k7=>?_
  refine wp_block ?_
  refine sS H fun K8 k8=>sr 2 rfl<|sE ?_;clear H a;intro a H
  refine k8 _ ?_;clear k8 K8
  refine sS H fun K9 k9=>sr 3 rfl<|si xO Dy G G (hl.adr (by omega)) (by omega)<|slm iY rfl (hl.rd S (by omega) (by omega))<|sd (rJ Try.underlying4 G G)<|sE ?_;clear H a;intro a H
  refine k9 _ ?_;clear k9 K9
  refine cond_ H rfl (fun hc2=>?_) (fun hc2=>?_)
  ·skip
   try simp only [o1,o2,o3,o4,o5,o6,o7,o8,o9,oa] at hc2
   replace H:=H.keep [5] rfl
   refine sS H fun K10 k10=>sr 2 rfl<|sE ?_;clear H a;intro a H
   refine k10 _ ?_;clear k10 K10
   refine wp_ret ?_
   refine ret1 (fn:=Try.f100) rfl H rfl ?_
   exact ⟨_,rfl,by rw [Kr (k:=k) (by omega) (by simpa using hc2)];exact decide_eq_true (by omega),(S.sel [] G G)⟩
  try simp only [o1,o2,o3,o4,o5,o6,o7,o8,o9,oa] at hc2
  refine wp_skip ?_
  refine k7 _ _ ?_
  refine sO H<|sd (aL G G (by unfold i64ok;omega))<|sr 1 rfl<|sE ?_;clear H a;intro a H
  exact k4 (g1-1) (k+1) a _ (by omega) (⟨by omega,by omega,De (by omega) hp.2.2 (by simpa using hc2)⟩) (S.sel [] G G) (H.keep [8,0,1,7] rfl)
 refine wp_exit ?_
 refine k2 _ _ ?_
 refine sS H fun K12 k12=>sr 1 rfl<|sE ?_;clear H a;intro a H
 refine k12 _ ?_;clear k12 K12
 refine wp_ret ?_
 refine ret1 (fn:=Try.f100) rfl H rfl ?_
 exact ⟨_,rfl,by rw [←List.take_of_length_le (l:=l) (i:=k) (by omega),hp.2.2];rfl,(S.sel [] G G)⟩
theorem rG (l:List Bool) (A:Option Addr) (cp:Nat) (w:World) (hl:InS w noF 1 A l.length (bcl l)) (hn:l.length≤9223372036854775807) :
    Calls Try.prog 66 [.slice A l.length cp,.bool false].toArray w (Ret (fun u w'=>u = .bool (!(l.all fun b=>b))∧St w noF [] w')):=by
 refine enter Try.func66 rfl Try.ntmps66 rfl (fun a H=>?_)
 have S:=St.start w
 refine sS H fun K1 k1=>sr 1 rfl<|sE ?_;clear H a;intro a H
 refine k1 _ ?_;clear k1 K1
 refine seq_list fun K2 k2=>?_
 refine ls 2 H<|sr 2 rfl<|sE ?_;clear H a;intro a H
 refine aA H G G Try.func100 G G (yS l A cp _ (hl.now S) hn) ?_;clear H a
 rintro _ _ a ⟨n,rfl,hn2,S2⟩ H
 replace S:=S.call S2;clear S2
 refine ls 2 H<|sr 2 rfl<|sE ?_;clear H a;intro a H
 refine k2 _ _ ?_;clear k2 K2
 refine wp_ret ?_
 refine ret1 (fn:=Try.f66) rfl H rfl ?_
 exact ⟨congrArg Value.bool hn2,(S.sel [] G G)⟩
end
section
theorem Nn {b0 b1 b2:Bool} {v0 v1 v2:Value} (h0:v0 = .bool b0) (h1:v1 = .bool b1) (h2:v2 = .bool b2):∀ k j,k<3→j<1→([[v0],[v1],[v2]].getD k []).getD j undef=bcl [b0,b1,b2] k j:=by
  subst h0;subst h1;subst h2
  intro k j hk hj
  obtain rfl:j=0:=by omega
  rcases (show k=0∨k=1∨k=2 by omega) with rfl|rfl|rfl <;> rfl
theorem yT (hz:Int) (sw:List Int) (SA:Option Addr) (sc:Nat) (ws:List Wr) (QA:Option Addr) (qc cb:Nat) (n:Int) (w:World) (F:Nat→Prop) (S:St w F [boxM cb 51 [.int .i64 hz,.slice SA sw.length sc,.slice QA ws.length qc]] w) (hhz:0≤hz∧hz≤12) :
    Calls Try.prog 68 [.int .i64 n,.pointer (some ⟨cb,0,none⟩)].toArray w (Ret (fun u w'=>u = .bool (!setB n hz)∧St w F [boxM cb 51 [.int .i64 hz,.slice SA sw.length sc,.slice QA ws.length qc]] w')):=by
 refine enter Try.func68 rfl Try.ntmps68 rfl (fun a H=>?_)
 skip
 refine sS H fun K1 k1=>sr 1 rfl<|sE ?_;clear H a;intro a H
 refine k1 _ ?_;clear k1 K1
 refine seq_list fun K2 k2=>?_
 refine ls 3 H<|sr 1 rfl<|sf oT rfl<|sl S 0 aE G G G<|sE ?_;clear H a;intro a H
 refine aA H G G Try.func39 G G (Df n hz _ hhz) ?_;clear H a
 rintro _ _ a ⟨rfl,S2⟩ H
 replace S:=S.call S2;clear S2
 refine ls 2 H<|sr 2 rfl<|sE ?_;clear H a;intro a H
 refine k2 _ _ ?_;clear k2 K2
 refine wp_ret ?_
 refine ret1 (fn:=Try.f68) rfl H rfl ?_
 exact ⟨rfl,(S.sel [0] G G)⟩
theorem Ks (hz:Int) (sw:List Int) (SA:Option Addr) (sc:Nat) (ws:List Wr) (QA:Option Addr) (qc cb:Nat) (w:World) (F:Nat→Prop) (S:St w F [boxM cb 51 [.int .i64 hz,.slice SA sw.length sc,.slice QA ws.length qc]] w) (hsw:InS w F 1 SA sw.length (icl sw)) (hn:sw.length≤9223372036854775807) (hhz:0≤hz∧hz≤12):Calls Try.prog 67 #[.slice SA sw.length sc,.func (.func 68) #[] #[.pointer (some ⟨cb,0,none⟩)]] w (Ret fun u w'=>u = .bool (sw.any fun n=>!setB n hz)∧St w F [boxM cb 51 [.int .i64 hz,.slice SA sw.length sc,.slice QA ws.length qc]] w'):=by
  have hh:=eI sw SA sc 68 _ [] [.pointer (some ⟨cb,0,none⟩)] (fun n=>!setB n hz) _ w F S hsw hn Try.func68 G G (fun k w' hk S'=>yT hz sw SA sc ws QA qc cb (sw.getD k 0) w' _ S'.startR hhz)
  exact hh
theorem Kt (l:List Int) (A:Option Addr) (cp:Nat) (w:World) (hl:InS w noF 1 A l.length (icl l)) (hn:l.length≤9223372036854775807):Calls Try.prog 67 #[.slice A l.length cp,.func (.func 70) #[] #[]] w (Ret fun u w'=>u = .bool (l.any fun n=>!decide (n=1))∧St w noF [] w'):=by
  have S0:=(St.start w).newNil 3 1 (icl [])
  have hh:=eI l A cp 70 _ [] [] (fun n=>!decide (n=1)) _ w noF S0 hl hn Try.func70 G G (fun k w' hk S'=>qY (yR (l.getD k 0) w') fun v w'' h=>⟨h.1,S'.startR.call h.2⟩)
  exact qY hh fun v w'' h=>⟨h.1,h.2.sel [] rfl rfl⟩
end
section
theorem Np {hz:Int} {sw:List Int} {ws:List Wr}:([(decide (1≤hz)&&decide (hz≤8)),(decide (1≤(sw.length:Int))&&decide ((sw.length:Int)≤12)),(decide (1≤(ws.length:Int))&&decide ((ws.length:Int)≤24))].all fun b=>b)=cirSz hz sw ws:=by unfold cirSz;simp only [List.all_cons,List.all_nil,Bool.and_true]
section
variable {hz:Int} {sw:List Int} {ws:List Wr} {i:Nat}
theorem Hg (h:cirSz hz sw ws=false):circE hz sw ws=30:=kN (by unfold cirOk;rw [h];rfl)
theorem Hh (h:(sw.any fun n=>!setB n hz)=true):circE hz sw ws=30:=kN (by unfold cirOk;rw [h];simp)
theorem nM (hi:i<ws.length) (h:wrOk sw.length ws.length ws i=false):circE hz sw ws=30:=kN (by
  unfold cirOk
  cases hb:(List.range ws.length).all (wrOk sw.length ws.length ws) with
  | false=>simp
  | true=>rw [List.all_eq_true.1 hb i (List.mem_range.2 hi)] at h;cases h)
theorem Hi (h:¬ heldN ws 0 ws.length=0):circE hz sw ws=30:=kN (by unfold cirOk;rw [decide_eq_false h];simp)
theorem Hj (h:((List.range (ws.length-1)).any fun q=>!decide (heldN ws (q+1) ws.length=1))=true):circE hz sw ws=30:=kN (by unfold cirOk;rw [h];simp)
theorem Hk (h1:cirSz hz sw ws=true) (h2:(sw.any fun n=>!setB n hz)=false) (h3:∀ i,i<ws.length→wrOk sw.length ws.length ws i=true) (h4:heldN ws 0 ws.length=0) (h5:((List.range (ws.length-1)).any fun q=>!decide (heldN ws (q+1) ws.length=1))=false):circE hz sw ws=0:=Db (by
  unfold cirOk
  rw [h1,h2,decide_eq_true h4,h5,List.all_eq_true.2 (fun i hi=>h3 i (List.mem_range.1 hi))];rfl)
theorem Lt (h:cirSz hz sw ws=true):(1≤hz∧hz≤8)∧(1≤sw.length∧sw.length≤12)∧(1≤ws.length∧ws.length≤24):=by
  unfold cirSz at h
  simp only [Bool.and_eq_true,decide_eq_true_eq] at h
  omega
theorem uG {l:List Int} {k:Nat}:∀ q,0≤cntO l k q∧cntO l k q≤q:=fun q=>by
  induction q with
  | zero=>exact ⟨Int.le_refl _,Int.le_refl _⟩
  | succ q ih=>
    have e:cntO l k (q+1)=cntO l k q+(if l.getD q 0=(k:Int) then 1 else 0):=rfl
    rw [e];split <;> omega
theorem lY {k i:Nat}:heldN ws k (i+1)=heldN ws k i+heldW (ws.getD i Wr.zero) k:=rfl
theorem Ap (k:Nat):∀ i,(∀ q,q<i→wrOk sw.length ws.length ws q=true)→0≤heldN ws k i∧heldN ws k i≤8*i:=fun i=>by
  induction i with
  | zero=>intro _;exact ⟨Int.le_refl _,Int.le_refl _⟩
  | succ i ih=>
    intro h
    have h1:=ih fun q hq=>h q (by omega)
    have h2:=h i (by omega)
    rw [lY]
    unfold heldW
    split
    · omega
    · next hk=>
      unfold wrOk at h2
      rw [if_neg hk] at h2
      split at h2
      · simp only [Bool.and_eq_true,decide_eq_true_eq] at h2
        have:=uG (l:=(ws.getD i Wr.zero).of) (k:=k) (ws.getD i Wr.zero).of.length
        omega
      · cases h2
end
section
variable {sw l:List Int} {ws:List Wr} {i k j q:Nat}
theorem yU (hk:(ws.getD i Wr.zero).kind=1) (h1:(ws.getD i Wr.zero).of.length=1) (h:ascB (ws.getD i Wr.zero).of 0 sw.length=true):wrOk sw.length ws.length ws i=true:=by
  unfold wrOk;rw [if_pos hk,h,decide_eq_true h1];rfl
theorem yV (hk:(ws.getD i Wr.zero).kind=1) (h:¬ ((ws.getD i Wr.zero).of.length:Int)=1∨ascB (ws.getD i Wr.zero).of 0 sw.length=false):wrOk sw.length ws.length ws i=false:=by
  unfold wrOk;rw [if_pos hk]
  rcases h with h|h
  · rw [decide_eq_false (by omega)];rfl
  · rw [h];simp
theorem lC (h1:¬ (ws.getD i Wr.zero).kind=1) (hk:(ws.getD i Wr.zero).kind=2∨(ws.getD i Wr.zero).kind=3) (h2:1≤(ws.getD i Wr.zero).of.length∧(ws.getD i Wr.zero).of.length≤8) (h:ascB (ws.getD i Wr.zero).of ((i:Int)+1) ws.length=true):wrOk sw.length ws.length ws i=true:=by
  unfold wrOk;rw [if_neg h1,if_pos hk,h,decide_eq_true h2];rfl
theorem oO (h1:¬ (ws.getD i Wr.zero).kind=1) (hk:(ws.getD i Wr.zero).kind=2∨(ws.getD i Wr.zero).kind=3) (h:(((ws.getD i Wr.zero).of.length:Int)<1∨8<((ws.getD i Wr.zero).of.length:Int))∨ascB (ws.getD i Wr.zero).of ((i:Int)+1) ws.length=false):wrOk sw.length ws.length ws i=false:=by
  unfold wrOk;rw [if_neg h1,if_pos hk]
  rcases h with h|h
  · rw [decide_eq_false (by omega)];rfl
  · rw [h];simp
theorem Ku (h1:¬ (ws.getD i Wr.zero).kind=1) (h2:¬ (ws.getD i Wr.zero).kind=2) (h3:¬ (ws.getD i Wr.zero).kind=3):wrOk sw.length ws.length ws i=false:=by
  unfold wrOk;rw [if_neg h1,if_neg (fun h=>h.elim h2 h3)]
theorem qZ (h1:(ws.getD i Wr.zero).kind=1):heldN ws k i=heldN ws k (i+1):=by rw [lY];unfold heldW;rw [if_pos h1,Int.add_zero]
theorem oC (h1:¬ (ws.getD i Wr.zero).kind=1) (hq:q=(ws.getD i Wr.zero).of.length):heldN ws k i+cntO (ws.getD i Wr.zero).of k q=heldN ws k (i+1):=by rw [lY];unfold heldW;rw [if_neg h1,hq]
theorem wU (hx:0≤l.getD q 0) (hj:j<1):cput (fun k _ => .int .i64 (heldN ws k i+cntO l k q)) (l.getD q 0).toNat 0 (.int .i64 (heldN ws (l.getD q 0).toNat i+cntO l (l.getD q 0).toNat q+1)) k j = .int .i64 (heldN ws k i+cntO l k (q+1)):=by
  have e:cntO l k (q+1)=cntO l k q+(if l.getD q 0=(k:Int) then 1 else 0):=rfl
  unfold cput
  rw [e]
  by_cases h:k=(l.getD q 0).toNat
  · rw [if_pos ⟨h,by omega⟩,if_pos (by omega),←h,Int.add_assoc]
  · rw [if_neg (fun h9=>h h9.1),if_neg (by omega),Int.add_zero]
end
theorem lD {ws:List Wr}:((List.range (ws.length-1)).map fun q=>heldN ws (q+1) ws.length).length=ws.length-1:=by rw [List.length_map,List.length_range]
theorem sN {ws:List Wr}:(((List.range (ws.length-1)).map fun q=>heldN ws (q+1) ws.length).any fun n=>!decide (n=1))=(List.range (ws.length-1)).any fun q=>!decide (heldN ws (q+1) ws.length=1):=by rw [List.any_map];rfl
theorem Hl {ws:List Wr} {q:Nat} (h:q<ws.length-1):((List.range (ws.length-1)).map fun q=>heldN ws (q+1) ws.length).getD q 0=heldN ws (q+1) ws.length:=by
  rw [List.getD_eq_getElem?_getD,List.getElem?_eq_getElem (by rw [lD];exact h),Option.getD_some,List.getElem_map,List.getElem_range]
theorem Hm {ws:List Wr} {w:World} {A:Option Addr} (h:InS w noF 1 A ws.length (fun k _ => .int .i64 (heldN ws k ws.length))) (hw:1≤ws.length):InS w noF 1 (cutA A ws.length 1 1) ((List.range (ws.length-1)).map fun q=>heldN ws (q+1) ws.length).length (icl ((List.range (ws.length-1)).map fun q=>heldN ws (q+1) ws.length)):=by
  rw [lD]
  refine (h.cut (lo:=1) (hi:=ws.length) hw (Nat.le_refl _) (Nat.le_refl _)).congr fun k j hk hj=>?_
  unfold icl
  rw [Hl hk,Nat.add_comm 1 k]
theorem Dg (hz:Int) (sw:List Int) (SA:Option Addr) (sc:Nat) (ws:List Wr) (QA:Option Addr) (qc:Nat) (OA:Nat→Option Addr) (oc:Nat→Nat) (w:World) (hsw:InS w noF 1 SA sw.length (icl sw)) (hws:InS w noF 2 QA ws.length (fD ws OA oc)) (hof:∀ k,k<ws.length→InS w noF 1 (OA k) (ws.getD k Wr.zero).of.length (icl (ws.getD k Wr.zero).of)) (hsn:sw.length≤9223372036854775807) (hwn:ws.length≤9223372036854775807) (hofn:∀ k,k<ws.length→(ws.getD k Wr.zero).of.length≤9223372036854775807) :
    Calls Try.prog 38 [.agg [.int .i64 hz,.slice SA sw.length sc,.slice QA ws.length qc].toArray].toArray w (Ret (fun u w'=>u = .int .i64 (circE hz sw ws)∧St w noF [] w')):=by
 refine enter Try.func38 rfl Try.ntmps38 rfl (fun a H=>?_)
 have S:=St.start w
 refine seq_list fun K1 k1=>?_
 refine aQ H rfl S G G ?_;clear H a S;intro b1 _ a hb1 hbw1 S H
 refine ls 1 H<|sr 1 rfl<|sE ?_;clear H a;intro a H
 refine k1 _ _ ?_;clear k1 K1
 replace H:=H.keep [1] rfl
 refine seq_list fun K2 k2=>?_
 refine ls 28 H<|sf oT rfl<|sl S 0 aE G G G<|sr 2 rfl<|sg 3 3 12 15 true G G (fun hg4=>sy hg4<|sf oT rfl<|sy hg4<|sl S 0 aE G G G<|sy hg4<|sr 1 rfl<|sz 3 G G G)<|sa G G G<|sf iO rfl<|sl S 0 bM G G G<|sL aX rfl<|sr 2 rfl<|sg 4 12 21 25 true G G (fun hg13=>sy hg13<|sf iO rfl<|sy hg13<|sl S 0 bM G G G<|sy hg13<|sL aX rfl<|sy hg13<|sr 1 rfl<|sz 4 G G G)<|sa G G G<|sf jQ rfl<|sl S 0 lN G G G<|sL mI rfl<|sr 2 rfl<|sg 4 22 31 35 true G G (fun hg23=>sy hg23<|sf jQ rfl<|sy hg23<|sl S 0 lN G G G<|sy hg23<|sL mI rfl<|sy hg23<|sr 1 rfl<|sz 4 G G G)<|sa G G G<|sE ?_;clear H a;intro a H
 refine bD H rfl S xO Dy Pi G G G G G G G G G ?_;clear H a S;intro A1 _ a hA1 S H
 replace S:=S.recell (i:=0) rfl (cell':=bcl [(decide (1≤hz)&&decide (hz≤8)),(decide (1≤(sw.length:Int))&&decide ((sw.length:Int)≤12)),(decide (1≤(ws.length:Int))&&decide ((ws.length:Int)≤24))]) (Nn G G G)
 refine ls 1 H<|sr 1 rfl<|sE ?_;clear H a;intro a H
 refine k2 _ _ ?_;clear k2 K2
 refine wp_seq_k fun K3 k3=>?_
 replace H:=H.keep [1,3] rfl
 refine seq_list fun K4 k4=>?_
 refine ls 1 H<|sr 1 rfl<|sE ?_;clear H a;intro a H
 refine aA H G G Try.func66 G G (rG [(decide (1≤hz)&&decide (hz≤8)),(decide (1≤(sw.length:Int))&&decide ((sw.length:Int)≤12)),(decide (1≤(ws.length:Int))&&decide ((ws.length:Int)≤24))] _ _ _ (ownM.inS S (i:=0) rfl) (by simp)) ?_;clear H a
 rintro _ _ a ⟨rfl,S2⟩ H
 replace S:=S.call S2;clear S2
 rw [Np] at H
 refine ls 1 H<|sr 1 rfl<|sE ?_;clear H a;intro a H
 apply cA (i:=2) (g:=40) (t:=44) (b:=false) 4 H S G G (by kernel_rfl) (by kernel_rfl) G G
 case h1=>
  intro hg3
  refine ls 3 H<|sy hg3<|sf iO rfl<|sy hg3<|sl S 1 bM G G G<|sy hg3<|sr 1 rfl<|sE ?_;intro a H
  refine cQ H G G (by assumption) ?_
  have S1:=(S.sel [1] G G)
  refine aA H G G Try.func67 G G (Ks hz sw SA sc ws QA qc b1 _ _ S1.startR (hsw.nowR S1) hsn (by have:=Lt (hz:=hz) (sw:=sw) (ws:=ws) (by simpa using hg3);omega)) ?_
  rintro _ _ a ⟨rfl,S2⟩ H
  replace S:=(S.sel [1,0] G G).callR (M:=[_]) S2;clear S1 S2
  exact wpList_nil ⟨H.strip 4 G G,(S.sel [1,0] G G)⟩
 clear H a S;intro a _ H S
 refine ls 1 H<|so G G G<|sE ?_;clear H a;intro a H
 refine k4 _ _ ?_;clear k4 K4
 refine cond_ H rfl (fun hc1=>?_) (fun hc1=>?_)
 ·skip
  try simp only [o1,o2,o3,o4,o5,o6,o7,o8,o9,oa] at hc1
  refine sS H fun K5 k5=>sr 1 rfl<|sE ?_;clear H a;intro a H
  refine k5 _ ?_;clear k5 K5
  refine wp_ret ?_
  refine ret1 (fn:=Try.f38) rfl H rfl ?_
  rw [show circE hz sw ws=30 from hc1.elim Hg Hh];exact ⟨rfl,(S.sel [] G G)⟩
 try simp only [o1,o2,o3,o4,o5,o6,o7,o8,o9,oa] at hc1
 refine wp_skip ?_
 refine k3 _ _ ?_
 obtain ⟨hS1,hS2,hS3⟩:=Lt hc1.1
 replace H:=H.keep [1] rfl
 refine seq_list fun K6 k6=>?_
 refine ls 3 H<|sf jQ rfl<|sl S 1 lN G G G<|sL mI rfl<|sE ?_;clear H a;intro a H
 refine rL (n:=ws.length) H rfl S aX bK iT vJ rfl (by decide) G G (by omega) (by omega) ?_;clear H a S;intro A2 _ a hA2 S H
 generalize A2=AH at S H
 replace S:=S.recell (i:=0) rfl (cell':=fun k _ => .int .i64 (heldN ws k 0)) (fun k j _ hj=>by
   obtain rfl:j=0:=by omega
   rfl)
 refine ls 1 H<|sr 1 rfl<|sE ?_;clear H a;intro a H
 refine k6 _ _ ?_;clear k6 K6
 refine wp_seq_k fun K7 k7=>?_
 refine sS H fun K8 k8=>sf jQ rfl<|sl S 2 lN G G G<|sL mI rfl<|sr 1 rfl<|sE ?_;clear H a;intro a H
 refine k8 _ ?_;clear k8 K8
 refine wp_block ?_
 refine loop_st (X:=Nat) (R0:=_) [1,4,51,52] H rfl (fun i=>[(53,.int .i64 (i:Int))]) (fun i=>[ownM 3 1 AH ws.length ws.length (fun k _ => .int .i64 (heldN ws k i))]) (fun g i=>i≤ws.length∧g+i=ws.length∧∀ q,q<i→wrOk sw.length ws.length ws q=true) (ws.length) 0 ?_ (S.sel [0,1,2] G G) (H.keep [53,1,4,51,52] rfl) ?_
 · exact ⟨by omega,by omega,fun q hq=>absurd hq (Nat.not_lt_zero q)⟩
 clear H S a
 intro g1 x1 a w1 hp S H K9 k9
 obtain ⟨i,rfl⟩:∃ y,y=x1:=⟨_,rfl⟩
 obtain ⟨hi1,hi2,hwk⟩:=hp
 refine sS H fun K10 k10=>sr 1 rfl<|sE ?_;clear H a;intro a H
 refine k10 _ ?_;clear k10 K10
 refine wp_seq_k fun K11 k11=>?_
 refine condL H rfl (fun hc2=>?_) (fun hc2=>?_)
 ·skip
  refine wp_skip ?_
  refine k11 _ _ ?_
  refine wp_seq_k fun K12 k12=>?_
  refine wp_block ?_
  refine seq_list fun K13 k13=>?_
  refine ls 3 H<|sr 1 rfl<|si mI pO G G (hws.adr (by omega)) (by omega)<|sd ((aU Ea pO rfl S hws (by omega) (by omega)))<|sE ?_;clear H a;intro a H
  refine aI H rfl S zN ?_;clear H a S;intro b6 _ a hb6 hbw6 S H
  refine ls 1 H<|sr 1 rfl<|sE ?_;clear H a;intro a H
  refine aD H S (i:=0) G G G G pO G G ?_
  clear H a S;intro _ a S H
  refine k13 _ _ ?_;clear k13 K13
  refine sS H fun K14 k14=>sf zL rfl<|sl S 0 aE G G G<|sE ?_;clear H a;intro a H
  refine k14 _ ?_;clear k14 K14
  refine wp_block ?_
  replace H:=H.keep [1,4,5,6,51,52,53,59] rfl
  refine sS H fun K15 k15=>sr 2 rfl<|sE ?_;clear H a;intro a H
  refine k15 _ ?_;clear k15 K15
  refine condE H rfl (fun hc3=>?_) (fun hc3=>?_)
  ·skip
   replace H:=H.keep [1,4,6,51,52,53] rfl
   refine seq_list fun K16 k16=>?_
   refine ls 5 H<|sf eE rfl<|sl S 0 bM G G G<|sL aX rfl<|sr 2 rfl<|sE ?_;clear H a;intro a H
   apply cA (i:=4) (g:=66) (t:=73) (b:=false) 7 H S G G (by kernel_rfl) (by kernel_rfl) G G
   case h1=>
    intro hg5
    refine ls 5 H<|sy hg5<|sf eE rfl<|sy hg5<|sl S 0 bM G G G<|sy hg5<|sf iO rfl<|sy hg5<|sl S 3 bM G G G<|sy hg5<|sL aX rfl<|sE ?_;intro a H
    refine cQ H G G (by assumption) ?_
    refine aA H G G Try.func69 G G (iU (ws.getD i Wr.zero).of (OA i) (oc i) _ _ _ ((hof i (by omega)).now S) (hofn i (by omega)) (by omega) (by omega)) ?_
    rintro _ _ a ⟨rfl,S2⟩ H
    replace S:=S.call S2;clear S2
    refine ls 1 H<|sy hg5<|sr 1 rfl<|sE ?_;intro a H
    exact wpList_nil ⟨H.strip 7 G G,(S.sel [0,1,2,3] G G)⟩
   clear H a S;intro a _ H S
   refine ls 1 H<|so G G G<|sE ?_;clear H a;intro a H
   refine k16 _ _ ?_;clear k16 K16
   refine cond_ H rfl (fun hc4=>?_) (fun hc4=>?_)
   ·skip
    try simp only [o1,o2,o3,o4,o5,o6,o7,o8,o9,oa] at hc4
    replace H:=H.keep [] rfl
    refine sS H fun K17 k17=>sr 1 rfl<|sE ?_;clear H a;intro a H
    refine k17 _ ?_;clear k17 K17
    refine wp_ret ?_
    refine ret1 (fn:=Try.f38) rfl H rfl ?_
    rw [nM (by omega) (yV hc3 hc4)];exact ⟨rfl,(S.sel [] G G)⟩
   try simp only [o1,o2,o3,o4,o5,o6,o7,o8,o9,oa] at hc4
   refine wp_skip ?_
   refine k12 _ _ ?_
   replace S:=S.recell (i:=1) rfl (cell':=fun k _ => .int .i64 (heldN ws k (i+1))) (fun k j _ _=>congrArg (Value.int .i64) (by first|exact qZ hc3|exact oC hc3 (by omega)))
   refine sO H<|sd (aL G G (by unfold i64ok;omega))<|sr 1 rfl<|sE ?_;clear H a;intro a H
   exact k9 (g1-1) (i+1) a _ (by omega) (⟨by omega,by omega,fun q hq=>if h9:q<i then hwk q h9 else by
         obtain rfl:q=i:=by omega
         first|exact yU hc3 (by omega) hc4.2|exact lC hc3 (.inl hc5) (by omega) hc7.2|exact lC hc3 (.inr hc9) (by omega) hc10.2⟩) (S.sel [1,2,3] G G) (H.keep [53,1,4,51,52] rfl)
  refine wp_seq_k fun K19 k19=>?_
  refine sS H fun K20 k20=>sr 2 rfl<|sE ?_;clear H a;intro a H
  refine k20 _ ?_;clear k20 K20
  refine condE H rfl (fun hc5=>?_) (fun hc5=>?_)
  ·skip
   refine wp_skip ?_
   refine k19 _ _ ?_
   refine cond_ H rfl (fun hc6=>?_) (fun hc6=>?_)
   ·skip
    try simp only [o1,o2,o3,o4,o5,o6,o7,o8,o9,oa] at hc6
    refine wp_seq_k fun K21 k21=>?_
    replace H:=H.keep [1,4,5,6,51,52,53] rfl
    refine seq_list fun K22 k22=>?_
    refine ls 11 H<|sf eE rfl<|sl S 0 bM G G G<|sL aX rfl<|sr 2 rfl<|sg 4 4 82 86 false G G (fun hg5=>sy hg5<|sf eE rfl<|sy hg5<|sl S 0 bM G G G<|sy hg5<|sL aX rfl<|sy hg5<|sr 1 rfl<|sz 4 G G G)<|so G G G<|sr 1 rfl<|sE ?_;clear H a;intro a H
    apply cA (i:=10) (g:=88) (t:=97) (b:=false) 9 H S G G (by kernel_rfl) (by kernel_rfl) G G
    case h1=>
     intro hg11
     refine ls 7 H<|sy hg11<|sf eE rfl<|sy hg11<|sl S 0 bM G G G<|sy hg11<|sr 1 rfl<|sy hg11<|sd (aL G G (by unfold i64ok;omega))<|sy hg11<|sf jQ rfl<|sy hg11<|sl S 3 lN G G G<|sy hg11<|sL mI rfl<|sE ?_;intro a H
     refine cQ H G G (by assumption) ?_
     refine aA H G G Try.func69 G G (iU (ws.getD i Wr.zero).of (OA i) (oc i) _ _ _ ((hof i (by omega)).now S) (hofn i (by omega)) (by omega) (by omega)) ?_
     rintro _ _ a ⟨rfl,S2⟩ H
     replace S:=S.call S2;clear S2
     refine ls 1 H<|sy hg11<|sr 1 rfl<|sE ?_;intro a H
     exact wpList_nil ⟨H.strip 9 G G,(S.sel [0,1,2,3] G G)⟩
    clear H a S;intro a _ H S
    refine ls 1 H<|so G G G<|sE ?_;clear H a;intro a H
    refine k22 _ _ ?_;clear k22 K22
    refine cond_ H rfl (fun hc7=>?_) (fun hc7=>?_)
    ·skip
     try simp only [o1,o2,o3,o4,o5,o6,o7,o8,o9,oa] at hc7
     replace H:=H.keep [] rfl
     refine sS H fun K23 k23=>sr 1 rfl<|sE ?_;clear H a;intro a H
     refine k23 _ ?_;clear k23 K23
     refine wp_ret ?_
     refine ret1 (fn:=Try.f38) rfl H rfl ?_
     rw [nM (by omega) (oO hc3 (.inl hc5) hc7)];exact ⟨rfl,(S.sel [] G G)⟩
    try simp only [o1,o2,o3,o4,o5,o6,o7,o8,o9,oa] at hc7
    refine wp_skip ?_
    refine k21 _ _ ?_
    refine sS H fun K24 k24=>sf eE rfl<|sl S 0 bM G G G<|sL aX rfl<|sr 1 rfl<|sE ?_;clear H a;intro a H
    refine k24 _ ?_;clear k24 K24
    refine wp_block ?_
    replace S:=S.recell (i:=1) rfl (cell':=fun k _ => .int .i64 (heldN ws k i+cntO (ws.getD i Wr.zero).of k 0)) (fun k j _ hj=>congrArg (Value.int .i64) (Int.add_zero _).symm)
    refine loop_st (X:=Nat) (R0:=_) [1,4,51,52,53,100,101] H rfl (fun q=>[(102,.int .i64 (q:Int))]) (fun q=>[ownM 3 1 AH ws.length ws.length (fun k _ => .int .i64 (heldN ws k i+cntO (ws.getD i Wr.zero).of k q))]) (fun g q=>q≤(ws.getD i Wr.zero).of.length∧g+q=(ws.getD i Wr.zero).of.length) ((ws.getD i Wr.zero).of.length) 0 ?_ (S.sel [1,0,2,3] G G) (H.keep [102,1,4,51,52,53,100,101] rfl) ?_
    · exact ⟨by omega,by omega⟩
    clear H S a
    intro g2 x2 a w2 hp S H K25 k25
    obtain ⟨q,rfl⟩:∃ y,y=x2:=⟨_,rfl⟩
    refine sS H fun K26 k26=>sr 1 rfl<|sE ?_;clear H a;intro a H
    refine k26 _ ?_;clear k26 K26
    refine wp_seq_k fun K27 k27=>?_
    refine condL H rfl (fun hc8=>?_) (fun hc8=>?_)
    ·skip
     refine wp_skip ?_
     refine k27 _ _ ?_
     refine wp_seq_k fun K28 k28=>?_
     refine wp_block ?_
     refine sS H fun K29 k29=>si aX bK G G ((hof i (by omega)).adr (by omega)) (by omega)<|slm aE rfl ((hof i (by omega)).rd S (by omega) (by omega))<|sr 1 rfl<|sE ?_;clear H a;intro a H
     refine k29 _ ?_;clear k29 K29
     have hhb:=Ap (sw:=sw) (ws:=ws) ((ws.getD i Wr.zero).of.getD q 0).toNat i hwk
     have hcb:=uG (l:=(ws.getD i Wr.zero).of) (k:=((ws.getD i Wr.zero).of.getD q 0).toNat) q
     have hxb:(i:Int)+1≤(ws.getD i Wr.zero).of.getD q 0∧(ws.getD i Wr.zero).of.getD q 0<(ws.length:Int):=by first|exact oB hc7.2 (k:=q) (by omega)|exact oB hc10.2 (k:=q) (by omega)
     replace H:=H.keep [1,4,8,51,52,53,100,101,102] rfl
     refine one_list ?_
     refine ls 6 H<|sr 2 rfl<|sI aX bK G G (ownM.adr S (i:=0) rfl (by omega)) (by omega) (by omega)<|slm aE rfl (ownM.rd S (i:=0) rfl (by omega) (by omega))<|sd (aL G G (by unfold i64ok;omega))<|sI aX bK G G (ownM.adr S (i:=0) rfl (by omega)) (by omega) (by omega)<|sE ?_;clear H a;intro a H
     refine dO H S (i:=0) G G G (by omega) (by omega) bK rfl ?_
     clear H a S;intro _ a S H
     replace S:=S.recell (i:=0) rfl (cell':=fun k _ => .int .i64 (heldN ws k i+cntO (ws.getD i Wr.zero).of k (q+1))) (fun k j _ hj=>wU (by omega) hj)
     refine k28 _ _ ?_
     refine sO H<|sd (aL G G (by unfold i64ok;omega))<|sr 1 rfl<|sE ?_;clear H a;intro a H
     exact k25 (g2-1) (q+1) a _ (by omega) (⟨by omega,by omega⟩) (S.sel [0,1,2,3] G G) (H.keep [102,1,4,51,52,53,100,101] rfl)
    refine wp_exit ?_
    refine k12 _ _ ?_
    replace S:=S.recell (i:=0) rfl (cell':=fun k _ => .int .i64 (heldN ws k (i+1))) (fun k j _ _=>congrArg (Value.int .i64) (by first|exact qZ hc3|exact oC hc3 (by omega)))
    replace H:=H.keep [1,4,51,52,53] rfl
    refine sO H<|sd (aL G G (by unfold i64ok;omega))<|sr 1 rfl<|sE ?_;clear H a;intro a H
    exact k9 (g1-1) (i+1) a _ (by omega) (⟨by omega,by omega,fun q hq=>if h9:q<i then hwk q h9 else by
          obtain rfl:q=i:=by omega
          first|exact yU hc3 (by omega) hc4.2|exact lC hc3 (.inl hc5) (by omega) hc7.2|exact lC hc3 (.inr hc9) (by omega) hc10.2⟩) (S.sel [0,2,3] G G) (H.keep [53,1,4,51,52] rfl)
   try simp only [o1,o2,o3,o4,o5,o6,o7,o8,o9,oa] at hc6
   refine sS H fun K33 k33=>sr 1 rfl<|sE ?_;clear H a;intro a H
   refine k33 _ ?_;clear k33 K33
   refine wp_ret ?_
   refine ret1 (fn:=Try.f38) rfl H rfl ?_
   exact absurd hc5 hc6
  refine sO H<|sr 2 rfl<|sE ?_;clear H a;intro a H
  refine k19 _ _ ?_
  refine condE H rfl (fun hc9=>?_) (fun hc9=>?_)
  ·skip
   refine wp_seq_k fun K35 k35=>?_
   replace H:=H.keep [1,4,5,6,51,52,53] rfl
   refine seq_list fun K36 k36=>?_
   refine ls 11 H<|sf eE rfl<|sl S 0 bM G G G<|sL aX rfl<|sr 2 rfl<|sg 4 4 82 86 false G G (fun hg5=>sy hg5<|sf eE rfl<|sy hg5<|sl S 0 bM G G G<|sy hg5<|sL aX rfl<|sy hg5<|sr 1 rfl<|sz 4 G G G)<|so G G G<|sr 1 rfl<|sE ?_;clear H a;intro a H
   apply cA (i:=10) (g:=88) (t:=97) (b:=false) 9 H S G G (by kernel_rfl) (by kernel_rfl) G G
   case h1=>
    intro hg11
    refine ls 7 H<|sy hg11<|sf eE rfl<|sy hg11<|sl S 0 bM G G G<|sy hg11<|sr 1 rfl<|sy hg11<|sd (aL G G (by unfold i64ok;omega))<|sy hg11<|sf jQ rfl<|sy hg11<|sl S 3 lN G G G<|sy hg11<|sL mI rfl<|sE ?_;intro a H
    refine cQ H G G (by assumption) ?_
    refine aA H G G Try.func69 G G (iU (ws.getD i Wr.zero).of (OA i) (oc i) _ _ _ ((hof i (by omega)).now S) (hofn i (by omega)) (by omega) (by omega)) ?_
    rintro _ _ a ⟨rfl,S2⟩ H
    replace S:=S.call S2;clear S2
    refine ls 1 H<|sy hg11<|sr 1 rfl<|sE ?_;intro a H
    exact wpList_nil ⟨H.strip 9 G G,(S.sel [0,1,2,3] G G)⟩
   clear H a S;intro a _ H S
   refine ls 1 H<|so G G G<|sE ?_;clear H a;intro a H
   refine k36 _ _ ?_;clear k36 K36
   refine cond_ H rfl (fun hc10=>?_) (fun hc10=>?_)
   ·skip
    try simp only [o1,o2,o3,o4,o5,o6,o7,o8,o9,oa] at hc10
    replace H:=H.keep [] rfl
    refine sS H fun K37 k37=>sr 1 rfl<|sE ?_;clear H a;intro a H
    refine k37 _ ?_;clear k37 K37
    refine wp_ret ?_
    refine ret1 (fn:=Try.f38) rfl H rfl ?_
    rw [nM (by omega) (oO hc3 (.inr hc9) hc10)];exact ⟨rfl,(S.sel [] G G)⟩
   try simp only [o1,o2,o3,o4,o5,o6,o7,o8,o9,oa] at hc10
   refine wp_skip ?_
   refine k35 _ _ ?_
   refine sS H fun K38 k38=>sf eE rfl<|sl S 0 bM G G G<|sL aX rfl<|sr 1 rfl<|sE ?_;clear H a;intro a H
   refine k38 _ ?_;clear k38 K38
   refine wp_block ?_
   replace S:=S.recell (i:=1) rfl (cell':=fun k _ => .int .i64 (heldN ws k i+cntO (ws.getD i Wr.zero).of k 0)) (fun k j _ hj=>congrArg (Value.int .i64) (Int.add_zero _).symm)
   refine loop_st (X:=Nat) (R0:=_) [1,4,51,52,53,100,101] H rfl (fun q=>[(102,.int .i64 (q:Int))]) (fun q=>[ownM 3 1 AH ws.length ws.length (fun k _ => .int .i64 (heldN ws k i+cntO (ws.getD i Wr.zero).of k q))]) (fun g q=>q≤(ws.getD i Wr.zero).of.length∧g+q=(ws.getD i Wr.zero).of.length) ((ws.getD i Wr.zero).of.length) 0 ?_ (S.sel [1,0,2,3] G G) (H.keep [102,1,4,51,52,53,100,101] rfl) ?_
   · exact ⟨by omega,by omega⟩
   clear H S a
   intro g3 x3 a w3 hp S H K39 k39
   obtain ⟨q,rfl⟩:∃ y,y=x3:=⟨_,rfl⟩
   refine sS H fun K40 k40=>sr 1 rfl<|sE ?_;clear H a;intro a H
   refine k40 _ ?_;clear k40 K40
   refine wp_seq_k fun K41 k41=>?_
   refine condL H rfl (fun hc11=>?_) (fun hc11=>?_)
   ·skip
    refine wp_skip ?_
    refine k41 _ _ ?_
    refine wp_seq_k fun K42 k42=>?_
    refine wp_block ?_
    refine sS H fun K43 k43=>si aX bK G G ((hof i (by omega)).adr (by omega)) (by omega)<|slm aE rfl ((hof i (by omega)).rd S (by omega) (by omega))<|sr 1 rfl<|sE ?_;clear H a;intro a H
    refine k43 _ ?_;clear k43 K43
    have hhb:=Ap (sw:=sw) (ws:=ws) ((ws.getD i Wr.zero).of.getD q 0).toNat i hwk
    have hcb:=uG (l:=(ws.getD i Wr.zero).of) (k:=((ws.getD i Wr.zero).of.getD q 0).toNat) q
    have hxb:(i:Int)+1≤(ws.getD i Wr.zero).of.getD q 0∧(ws.getD i Wr.zero).of.getD q 0<(ws.length:Int):=by first|exact oB hc7.2 (k:=q) (by omega)|exact oB hc10.2 (k:=q) (by omega)
    replace H:=H.keep [1,4,8,51,52,53,100,101,102] rfl
    refine one_list ?_
    refine ls 6 H<|sr 2 rfl<|sI aX bK G G (ownM.adr S (i:=0) rfl (by omega)) (by omega) (by omega)<|slm aE rfl (ownM.rd S (i:=0) rfl (by omega) (by omega))<|sd (aL G G (by unfold i64ok;omega))<|sI aX bK G G (ownM.adr S (i:=0) rfl (by omega)) (by omega) (by omega)<|sE ?_;clear H a;intro a H
    refine dO H S (i:=0) G G G (by omega) (by omega) bK rfl ?_
    clear H a S;intro _ a S H
    replace S:=S.recell (i:=0) rfl (cell':=fun k _ => .int .i64 (heldN ws k i+cntO (ws.getD i Wr.zero).of k (q+1))) (fun k j _ hj=>wU (by omega) hj)
    refine k42 _ _ ?_
    refine sO H<|sd (aL G G (by unfold i64ok;omega))<|sr 1 rfl<|sE ?_;clear H a;intro a H
    exact k39 (g3-1) (q+1) a _ (by omega) (⟨by omega,by omega⟩) (S.sel [0,1,2,3] G G) (H.keep [102,1,4,51,52,53,100,101] rfl)
   refine wp_exit ?_
   refine k12 _ _ ?_
   replace S:=S.recell (i:=0) rfl (cell':=fun k _ => .int .i64 (heldN ws k (i+1))) (fun k j _ _=>congrArg (Value.int .i64) (by first|exact qZ hc3|exact oC hc3 (by omega)))
   replace H:=H.keep [1,4,51,52,53] rfl
   refine sO H<|sd (aL G G (by unfold i64ok;omega))<|sr 1 rfl<|sE ?_;clear H a;intro a H
   exact k9 (g1-1) (i+1) a _ (by omega) (⟨by omega,by omega,fun q hq=>if h9:q<i then hwk q h9 else by
         obtain rfl:q=i:=by omega
         first|exact yU hc3 (by omega) hc4.2|exact lC hc3 (.inl hc5) (by omega) hc7.2|exact lC hc3 (.inr hc9) (by omega) hc10.2⟩) (S.sel [0,2,3] G G) (H.keep [53,1,4,51,52] rfl)
  refine sS H fun K47 k47=>sr 1 rfl<|sE ?_;clear H a;intro a H
  refine k47 _ ?_;clear k47 K47
  refine wp_ret ?_
  refine ret1 (fn:=Try.f38) rfl H rfl ?_
  rw [nM (by omega) (Ku hc3 hc5 hc9)];exact ⟨rfl,(S.sel [] G G)⟩
 refine wp_exit ?_
 refine k7 _ _ ?_
 refine wp_seq_k fun K48 k48=>?_
 obtain rfl:i=ws.length:=by omega
 replace H:=H.keep [4] rfl
 refine seq_list fun K49 k49=>?_
 refine ls 5 H<|sr 1 rfl<|sI aX bK G G (ownM.adr S (i:=0) rfl (by omega)) (by omega) (by omega)<|slm aE rfl (ownM.rd S (i:=0) rfl (by omega) (by omega))<|sr 2 rfl<|sE ?_;clear H a;intro a H
 apply cA (i:=4) (g:=118) (t:=121) (b:=false) 3 H S G G (by kernel_rfl) (by kernel_rfl) G G
 case h1=>
  intro hg5
  refine ls 2 H<|sy hg5<|sr 1 rfl<|sy hg5<|sd (Does.to (xK aX bK rfl (lo:=1) (hi:=ws.length) (.inr ⟨_,rfl,_,rfl⟩) (.inl ⟨rfl,rfl⟩) (by omega) (by omega)) (show _=Value.slice (cutA AH ws.length 1 1) ((List.range (ws.length-1)).map fun q=>heldN ws (q+1) ws.length).length (ws.length-1) from by rw [lD]))<|sE ?_;intro a H
  refine cQ H G G (by assumption) ?_
  refine aA H G G Try.func67 G G (Kt ((List.range (ws.length-1)).map fun q=>heldN ws (q+1) ws.length) (cutA AH ws.length 1 1) (ws.length-1) _ (Hm (ownM.inS S (i:=0) rfl) (by omega)) (by rw [lD];omega)) ?_
  rintro _ _ a ⟨rfl,S2⟩ H
  replace S:=S.call S2;clear S2
  exact wpList_nil ⟨H.strip 3 G G,(S.sel [0,1,2] G G)⟩
 clear H a S;intro a _ H S
 refine ls 1 H<|so G G G<|sE ?_;clear H a;intro a H
 refine k49 _ _ ?_;clear k49 K49
 refine cond_ H rfl (fun hc12=>?_) (fun hc12=>?_)
 ·skip
  try simp only [o1,o2,o3,o4,o5,o6,o7,o8,o9,oa] at hc12
  replace H:=H.keep [] rfl
  refine sS H fun K50 k50=>sr 1 rfl<|sE ?_;clear H a;intro a H
  refine k50 _ ?_;clear k50 K50
  refine wp_ret ?_
  refine ret1 (fn:=Try.f38) rfl H rfl ?_
  rw [show circE hz sw ws=30 from hc12.elim Hi (fun h=>Hj (by rw [←sN];exact h))];exact ⟨rfl,(S.sel [] G G)⟩
 try simp only [o1,o2,o3,o4,o5,o6,o7,o8,o9,oa] at hc12
 refine wp_skip ?_
 refine k48 _ _ ?_
 refine sS H fun K51 k51=>sr 1 rfl<|sE ?_;clear H a;intro a H
 refine k51 _ ?_;clear k51 K51
 refine wp_ret ?_
 refine ret1 (fn:=Try.f38) rfl H rfl ?_
 rw [Hk hc1.1 hc1.2 hwk hc12.1 (by rw [←sN];exact hc12.2)];exact ⟨rfl,(S.sel [] G G)⟩
end
end Go.Proofs.Ytoekeohiokcefaa
