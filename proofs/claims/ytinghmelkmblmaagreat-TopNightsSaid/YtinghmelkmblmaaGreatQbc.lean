/- Part 3 of the proof. -/
import Derived.Test.YtinghmelkmblmaaGreatQbb
namespace Go.Proofs.YtinghmelkmblmaaGreat
open Go.RowKit
set_option linter.unusedVariables false
set_option linter.unusedSimpArgs false
set_option maxRecDepth 100000
set_option maxHeartbeats 4000000
section
theorem yX {pl a b:Int}:plOk pl [a,b]=true↔(0≤a∧a≤pl-1)∧(0≤b∧b≤pl-1):=by
  unfold plOk
  rw [bI]
  constructor
  · intro h
    have h0:=h 0 (show 0<2 by omega)
    have h1:=h 1 (show 1<2 by omega)
    exact ⟨of_decide_eq_true h0,of_decide_eq_true h1⟩
  · rintro ⟨h0,h1⟩ k hk
    match k,hk with
    | 0,_=>exact decide_eq_true h0
    | 1,_=>exact decide_eq_true h1
theorem Au {pl a b:Int} (h:plOk pl [a,b]=false):¬ ((0≤a∧a≤pl-1)∧(0≤b∧b≤pl-1)):=fun h2=>by rw [yX.2 h2] at h;cases h
section
variable {pl:Int} {ps:List Psg} {xs:List Int} {day:List Hq} {l:List Prm}
theorem sK (h:stE pl ps xs≠0):keptE pl ps xs day l=stE pl ps xs:=by
  have:dayE pl ps xs day=stE pl ps xs:=by unfold dayE;rw [if_pos h]
  unfold keptE;rw [this,if_pos h]
theorem uJ (h:stE pl ps xs=0) (hd:dayOk pl day=false):keptE pl ps xs day l=81:=by
  have:dayE pl ps xs day=81:=by unfold dayE;rw [if_neg (by omega),if_neg (by rw [hd];simp)]
  unfold keptE;rw [this];rfl
theorem uK (h:stE pl ps xs=0) (hd:dayOk pl day=true):dayE pl ps xs day=0:=by unfold dayE;rw [if_neg (by omega),if_pos hd]
theorem mD (h:dayE pl ps xs day=0) (hd:prsOk pl l=false):keptE pl ps xs day l=82:=by unfold keptE;rw [if_neg (by omega),if_neg (by rw [hd];simp)]
theorem sM (h:dayE pl ps xs day=0) (hd:prsOk pl l=true):keptE pl ps xs day l=0:=by unfold keptE;rw [if_neg (by omega),if_pos hd]
theorem yY (h:¬ l.length≤40):prsOk pl l=false:=by unfold prsOk;rw [decide_eq_false h,Bool.and_false]
theorem Cq {k:Nat} (hk:k<l.length) (h:prmOk pl (l.getD k Prm.zero)=false):prsOk pl l=false:=by unfold prsOk;rw [fP hk h];rfl
theorem Cr (h:allN (fun k=>prmOk pl (l.getD k Prm.zero)) l.length=true) (h2:l.length≤40):prsOk pl l=true:=by unfold prsOk;rw [h,decide_eq_true h2];rfl
theorem Kf {p:Prm} (h:¬ (0≤p.fr∧p.fr≤pl-1∧0≤p.to∧p.to≤pl-1∧0≤p.first∧p.first≤p.last∧p.last<48)):prmOk pl p=false:=by unfold prmOk;exact decide_eq_false h
theorem Kg {P:Nat} {h:Hq} {n:Nat} {p:Prm} (h1:p.first≤(n:Int)∧(n:Int)≤p.last) (h2:dst P ps h.out (h.help&&p.helped) p.to.toNat p.fr.toNat<0):fC P ps h n p=true:=by
  unfold fC;rw [decide_eq_true h1.1,decide_eq_true h1.2,decide_eq_true h2];rfl
theorem Fo {P:Nat} {h:Hq} {n:Nat} {p:Prm} (h1:¬ (p.first≤(n:Int)∧(n:Int)≤p.last)):fC P ps h n p=false:=by
  unfold fC
  by_cases h2:p.first≤(n:Int)
  · rw [decide_eq_false (p:=(n:Int)≤p.last) (by omega),Bool.and_false];rfl
  · rw [decide_eq_false h2];rfl
theorem Fp {P:Nat} {h:Hq} {n:Nat} {p:Prm} (h2:¬ dst P ps h.out (h.help&&p.helped) p.to.toNat p.fr.toNat<0):fC P ps h n p=false:=by
  unfold fC;rw [decide_eq_false h2,Bool.and_false]
end
theorem Av (pl:Int) (ps:List Psg) (PA:Option Addr) (pc:Nat) (xs:List Int) (XA:Option Addr) (xc:Nat) (day:List Hq) (HA:Option Addr) (hcp:Nat) (DA:Nat→Option Addr) (dc:Nat→Nat) (w:World) (hps:InS w noF 7 PA ps.length (pcell ps)) (hpn:ps.length≤9223372036854775807) (hxs:InS w noF 1 XA xs.length (icl xs)) (hxn:xs.length≤9223372036854775807) (hday:InS w noF 3 HA day.length (hcl day DA dc)) (hdn:day.length≤9223372036854775807) (hdp:∀ k,k<day.length→InS w noF 1 (DA k) (day.getD k Hq.zero).pe.length (icl (day.getD k Hq.zero).pe)) (hdl:∀ k,k<day.length→(day.getD k Hq.zero).pe.length≤9223372036854775807) :
    Calls Tryz.prog 103 [.agg [.int .i64 pl,.slice PA ps.length pc,.slice XA xs.length xc].toArray,.slice HA day.length hcp].toArray w (Ret (fun v w'=>v = .bool (dayOk pl day)∧St w noF [] w')):=by
 refine enter Tryz.func103 rfl Tryz.ntmps103 rfl (fun a H=>?_)
 have S:=St.start w
 refine seq_list fun K1 k1=>?_
 refine aN H rfl S G G ?_;clear H a S;intro b2 _ a hb2 hbw2 S H
 refine ls 1 H<|sr 1 rfl<|sE ?_;clear H a;intro a H
 refine k1 _ _ ?_;clear k1 K1
 refine wp_seq_k fun K2 k2=>?_
 refine sS H fun K3 k3=>sr 1 rfl<|sL jL rfl<|sr 1 rfl<|sE ?_;clear H a;intro a H
 refine k3 _ ?_;clear k3 K3
 refine wp_block ?_
 refine loop_st (X:=Nat) (R0:=_) [1,2,7,8] H rfl (fun k=>[(9,.int .i64 (k:Int))]) (fun k=>[]) (fun g k=>k≤day.length∧g+k=day.length∧allN (fun k=>hqOk pl (day.getD k Hq.zero)) k=true) (day.length) 0 ?_ (S.sel [0] G G) (H.keep [9,1,2,7,8] rfl) ?_
 · exact ⟨by omega,by omega,rfl⟩
 clear H S a
 intro g1 x1 a w1 hp S H K4 k4
 obtain ⟨k,rfl⟩:∃ y,y=x1:=⟨_,rfl⟩
 refine sS H fun K5 k5=>sr 1 rfl<|sE ?_;clear H a;intro a H
 refine k5 _ ?_;clear k5 K5
 refine wp_seq_k fun K6 k6=>?_
 refine condL H rfl (fun hc1=>?_) (fun hc1=>?_)
 ·skip
  refine wp_skip ?_
  refine k6 _ _ ?_
  refine wp_seq_k fun K7 k7=>?_
  refine wp_block ?_
  refine seq_list fun K8 k8=>?_
  refine ls 2 H<|si jL kL G G (hday.adr (by omega)) (by omega)<|sd ((aV Bh kL rfl S hday (by omega) (by omega)))<|sE ?_;clear H a;intro a H
  refine aI H rfl S Hp ?_;clear H a S;intro b6 _ a hb6 hbw6 S H
  refine aD H S (i:=0) G G G G kL G G ?_
  clear H a S;intro _ a S H
  refine k8 _ _ ?_;clear k8 K8
  replace H:=H.keep [1,2,6,7,8,9] rfl
  refine seq_list fun K9 k9=>?_
  refine ls 2 H<|sf nQ rfl<|sl S 0 aE G G G<|sE ?_;clear H a;intro a H
  refine aA H G G Tryz.func104 G G (cK _ _ _ _) ?_;clear H a
  rintro _ _ a ⟨rfl,rfl⟩ H
  refine ls 2 H<|sr 2 rfl<|sE ?_;clear H a;intro a H
  apply cI (i:=4) (g:=17) (t:=22) (b:=false) 5 H S G G (by kernel_rfl) (by kernel_rfl) G G
  case h1=>
   intro hg5
   have hq5:=hg5;try simp only [o1,o2,o3,o4,o5,o6,o7,o8,o9,oa] at hq5
   refine ls 3 H<|sy hg5<|sd ((aB eQ hX rfl S (i:=1) G G))<|sy hg5<|sf xL rfl<|sy hg5<|sl S 0 bD G G G<|sE ?_;intro a H
   refine cY H G G (by assumption) ?_
   refine aA H G G Tryz.func140 G G (As pl ps PA pc xs XA xc (day.getD k Hq.zero).pe (DA k) (dc k) _ ((hdp k (by omega)).now S) (hdl k (by omega))) ?_
   rintro _ _ a ⟨rfl,S2⟩ H
   replace S:=S.call S2;clear S2
   refine ls 1 H<|sy hg5<|sr 1 rfl<|sE ?_;intro a H
   exact wpList_nil ⟨H.strip 5 G G,(S.sel [0,1] G G)⟩
  clear H a S;intro a _ H S
  refine ls 1 H<|so G G G<|sE ?_;clear H a;intro a H
  refine k9 _ _ ?_;clear k9 K9
  refine cond_ H rfl (fun hc2=>?_) (fun hc2=>?_)
  ·skip
   try simp only [o1,o2,o3,o4,o5,o6,o7,o8,o9,oa] at hc2
   replace H:=H.keep [] rfl
   refine sS H fun K10 k10=>sr 1 rfl<|sE ?_;clear H a;intro a H
   refine k10 _ ?_;clear k10 K10
   refine wp_ret ?_
   refine ret1 (fn:=Tryz.f103) rfl H rfl ?_
   exact ⟨congrArg Value.bool (rP (k:=k) (by omega) (by unfold hqOk;rcases hc2 with h|h;(rw [decide_eq_false (by omega)];rfl);(rw [h,Bool.and_false]))).symm,(S.sel [] rfl rfl)⟩
  try simp only [o1,o2,o3,o4,o5,o6,o7,o8,o9,oa] at hc2
  refine wp_skip ?_
  refine k7 _ _ ?_
  refine sO H<|sd (aK G G (by unfold i64ok;omega))<|sr 1 rfl<|sE ?_;clear H a;intro a H
  exact k4 (g1-1) (k+1) a _ (by omega) (⟨by omega,by omega,cC hp.2.2 (by unfold hqOk;rw [decide_eq_true (by omega),hc2.2];rfl)⟩) (S.sel [1] G G) (H.keep [9,1,2,7,8] rfl)
 refine wp_exit ?_
 refine k2 _ _ ?_
 refine sS H fun K12 k12=>sr 1 rfl<|sL jL rfl<|sr 2 rfl<|sE ?_;clear H a;intro a H
 refine k12 _ ?_;clear k12 K12
 refine wp_ret ?_
 refine ret1 (fn:=Tryz.f103) rfl H rfl ?_
 obtain rfl:k=day.length:=by omega
 refine ⟨congrArg Value.bool ?_,(S.sel [] G G)⟩
 rw [xZ hp.2.2]
 exact decide_eq_decide.2 (by omega)
theorem Fq (pl:Int) (ps:List Psg) (PA:Option Addr) (pc:Nat) (xs:List Int) (XA:Option Addr) (xc:Nat) (day:List Hq) (HA:Option Addr) (hcp:Nat) (DA:Nat→Option Addr) (dc:Nat→Nat) (l:List Prm) (LA:Option Addr) (lc:Nat) (w:World) (hps:InS w noF 7 PA ps.length (pcell ps)) (hpn:ps.length≤9223372036854775807) (hxs:InS w noF 1 XA xs.length (icl xs)) (hxn:xs.length≤9223372036854775807) (hday:InS w noF 3 HA day.length (hcl day DA dc)) (hdn:day.length≤9223372036854775807) (hdp:∀ k,k<day.length→InS w noF 1 (DA k) (day.getD k Hq.zero).pe.length (icl (day.getD k Hq.zero).pe)) (hdl:∀ k,k<day.length→(day.getD k Hq.zero).pe.length≤9223372036854775807) (hl:InS w noF 5 LA l.length (fB l)) (hln:l.length≤9223372036854775807) :
    Calls Tryz.prog 70 [.agg [.int .i64 pl,.slice PA ps.length pc,.slice XA xs.length xc].toArray,.slice HA day.length hcp,.slice LA l.length lc].toArray w (Ret (fun u w'=>u = .tuple #[.int .i64 (keptV pl ps xs day l).1,.int .i64 (keptV pl ps xs day l).2.1,.bool (keptV pl ps xs day l).2.2.1,.int .i64 (keptV pl ps xs day l).2.2.2]∧St w noF [] w')):=by
 refine enter Tryz.func70 rfl Tryz.ntmps70 rfl (fun a H=>?_)
 have S:=St.start w
 refine seq_list fun K1 k1=>?_
 refine aN H rfl S G G ?_;clear H a S;intro b3 _ a hb3 hbw3 S H
 refine ls 4 H<|sr 4 rfl<|sE ?_;clear H a;intro a H
 refine k1 _ _ ?_;clear k1 K1
 refine wp_seq_k fun K2 k2=>?_
 refine seq_list fun K3 k3=>?_
 refine ls 1 H<|sd ((aB eQ hX rfl S (i:=0) G G))<|sE ?_;clear H a;intro a H
 refine aA H G G Tryz.func102 G G (Ar pl ps PA pc xs XA xc _ (hps.now S) hpn (hxs.now S) hxn) ?_;clear H a
 rintro _ _ a ⟨rfl,S2⟩ H
 replace S:=S.call S2;clear S2
 refine ls 1 H<|sr 1 rfl<|sE ?_;clear H a;intro a H
 refine k3 _ _ ?_;clear k3 K3
 replace H:=H.keep [1,2,3,9] rfl
 refine sS H fun K4 k4=>sr 2 rfl<|sE ?_;clear H a;intro a H
 refine k4 _ ?_;clear k4 K4
 refine condN H rfl (fun hc1=>?_) (fun hc1=>?_)
 ·skip
  refine sS H fun K5 k5=>sr 5 rfl<|sE ?_;clear H a;intro a H
  refine k5 _ ?_;clear k5 K5
  refine wp_ret ?_
  refine ret4 (fn:=Tryz.f70) rfl H G G G G ?_
  rw [nV (by rw [sK hc1];exact hc1),sK hc1]
  exact ⟨rfl,(S.sel [] G G)⟩
 have hst:stE pl ps xs=0:=by omega
 have hV0:=nT hst
 obtain ⟨P,rfl⟩:∃ P:Nat,pl=P:=⟨pl.toNat,by have:=hV0.size;omega⟩
 have hV:=hV0
 have hP10:=hV.size
 refine wp_skip ?_
 refine k2 _ _ ?_
 refine wp_seq_k fun K6 k6=>?_
 replace H:=H.keep [1,2,3] rfl
 refine seq_list fun K7 k7=>?_
 refine ls 2 H<|sd ((aB eQ hX rfl S (i:=0) G G))<|sr 1 rfl<|sE ?_;clear H a;intro a H
 refine aA H G G Tryz.func103 G G (Av P ps PA pc xs XA xc day HA hcp DA dc _ (hps.now S) hpn (hxs.now S) hxn (hday.now S) hdn (fun k hk=>(hdp k hk).now S) hdl) ?_;clear H a
 rintro _ _ a ⟨rfl,S2⟩ H
 replace S:=S.call S2;clear S2
 refine ls 1 H<|sr 1 rfl<|sE ?_;clear H a;intro a H
 refine k7 _ _ ?_;clear k7 K7
 refine cond_ H rfl (fun hc2=>?_) (fun hc2=>?_)
 ·skip
  try simp only [o1,o2,o3,o4,o5,o6,o7,o8,o9,oa] at hc2
  refine sS H fun K8 k8=>sr 4 rfl<|sE ?_;clear H a;intro a H
  refine k8 _ ?_;clear k8 K8
  refine wp_ret ?_
  refine ret4 (fn:=Tryz.f70) rfl H G G G G ?_
  rw [nV (by rw [uJ hst hc2];decide),uJ hst hc2]
  exact ⟨rfl,(S.sel [] G G)⟩
 try simp only [o1,o2,o3,o4,o5,o6,o7,o8,o9,oa] at hc2
 have hdE:=uK hst hc2
 have hdk:=Iq hc2
 refine wp_skip ?_
 refine k6 _ _ ?_
 refine wp_seq_k fun K9 k9=>?_
 replace H:=H.keep [1,2,3] rfl
 refine sS H fun K10 k10=>sr 1 rfl<|sL jR rfl<|sr 1 rfl<|sE ?_;clear H a;intro a H
 refine k10 _ ?_;clear k10 K10
 refine condL H rfl (fun hc3=>?_) (fun hc3=>?_)
 ·skip
  refine sS H fun K11 k11=>sr 4 rfl<|sE ?_;clear H a;intro a H
  refine k11 _ ?_;clear k11 K11
  refine wp_ret ?_
  refine ret4 (fn:=Tryz.f70) rfl H G G G G ?_
  have e9:=mD hdE (yY (l:=l) (by omega))
  rw [nV (by rw [e9];decide),e9]
  exact ⟨rfl,(S.sel [] G G)⟩
 refine wp_skip ?_
 refine k9 _ _ ?_
 refine wp_seq_k fun K12 k12=>?_
 replace H:=H.keep [1,2,3] rfl
 refine sS H fun K13 k13=>sr 1 rfl<|sL jR rfl<|sr 1 rfl<|sE ?_;clear H a;intro a H
 refine k13 _ ?_;clear k13 K13
 refine wp_block ?_
 refine loop_st (X:=Nat) (R0:=_) [1,2,3,28,29] H rfl (fun k=>[(30,.int .i64 (k:Int))]) (fun k=>[]) (fun g k=>k≤l.length∧g+k=l.length∧allN (fun k=>prmOk P (l.getD k Prm.zero)) k=true) (l.length) 0 ?_ (S.sel [0] G G) (H.keep [30,1,2,3,28,29] rfl) ?_
 · exact ⟨by omega,by omega,rfl⟩
 clear H S a
 intro g1 x1 a w1 hp S H K14 k14
 obtain ⟨k,rfl⟩:∃ y,y=x1:=⟨_,rfl⟩
 refine sS H fun K15 k15=>sr 1 rfl<|sE ?_;clear H a;intro a H
 refine k15 _ ?_;clear k15 K15
 refine wp_seq_k fun K16 k16=>?_
 refine condL H rfl (fun hc4=>?_) (fun hc4=>?_)
 ·skip
  refine wp_skip ?_
  refine k16 _ _ ?_
  refine wp_seq_k fun K17 k17=>?_
  refine wp_block ?_
  refine seq_list fun K18 k18=>?_
  refine ls 2 H<|si jR iU G G (hl.adr (by omega)) (by omega)<|sd ((aV qY iU rfl S hl (by omega) (by omega)))<|sE ?_;clear H a;intro a H
  refine aI H rfl S tS ?_;clear H a S;intro b11 _ a hb11 hbw11 S H
  refine aD H S (i:=0) G G G G iU G G ?_
  clear H a S;intro _ a S H
  refine k18 _ _ ?_;clear k18 K18
  replace H:=H.keep [1,2,3,11,28,29,30] rfl
  refine seq_list fun K19 k19=>?_
  refine ls 5 H<|sd ((aB eQ hX rfl S (i:=1) G G))<|sf vH rfl<|sl S 0 aE G G G<|sf vI rfl<|sl S 0 aE G G G<|sE ?_;clear H a;intro a H
  refine aY H rfl S aS bA iC G G G G G G G G G ?_;clear H a S;intro A1 _ a hA1 S H
  refine aA H G G Tryz.func106 G G (At P ps PA pc xs XA xc [(l.getD k Prm.zero).fr,(l.getD k Prm.zero).to] _ _ _ ((ownM.inS S (i:=0) rfl).congr (fun k j hk hj=>Ea k j hk hj)) (show 2≤9223372036854775807 by omega) (by omega)) ?_;clear H a
  rintro _ _ a ⟨rfl,S2⟩ H
  replace S:=S.call S2;clear S2
  refine ls 18 H<|sr 2 rfl<|sg 3 8 42 45 false G G (fun hg9=>by
      have hq9:=hg9;try simp only [o1,o2,o3,o4,o5,o6,o7,o8,o9,oa] at hq9
      exact sy hg9<|sf nN rfl<|sy hg9<|sl S 1 aE G G G<|sy hg9<|sr 1 rfl<|sz 3 G G G)<|so G G G<|sr 1 rfl<|sg 5 13 47 52 false G G (fun hg14=>by
      have hq14:=hg14;try simp only [o1,o2,o3,o4,o5,o6,o7,o8,o9,oa] at hq14
      exact sy hg14<|sf lY rfl<|sy hg14<|sl S 1 aE G G G<|sy hg14<|sf nN rfl<|sy hg14<|sl S 1 aE G G G<|sy hg14<|sr 1 rfl<|sz 5 G G G)<|so G G G<|sr 1 rfl<|sg 3 20 54 57 false G G (fun hg21=>by
      have hq21:=hg21;try simp only [o1,o2,o3,o4,o5,o6,o7,o8,o9,oa] at hq21
      exact sy hg21<|sf lY rfl<|sy hg21<|sl S 1 aE G G G<|sy hg21<|sr 1 rfl<|sz 3 G G G)<|so G G G<|sE ?_;clear H a;intro a H
  refine k19 _ _ ?_;clear k19 K19
  refine cond_ H rfl (fun hc5=>?_) (fun hc5=>?_)
  ·skip
   try simp only [o1,o2,o3,o4,o5,o6,o7,o8,o9,oa] at hc5
   replace H:=H.keep [] rfl
   refine sS H fun K20 k20=>sr 4 rfl<|sE ?_;clear H a;intro a H
   refine k20 _ ?_;clear k20 K20
   refine wp_ret ?_
   refine ret4 (fn:=Tryz.f70) rfl H G G G G ?_
   have e9:=mD hdE (Cq (l:=l) (k:=k) (by omega) (Kf (by rcases hc5 with ((h|h)|h)|h;(have:=Au h;omega);omega;omega;omega)))
   rw [nV (by rw [e9];decide),e9]
   exact ⟨rfl,(S.sel [] G G)⟩
  try simp only [o1,o2,o3,o4,o5,o6,o7,o8,o9,oa] at hc5
  refine wp_skip ?_
  refine k17 _ _ ?_
  refine sO H<|sd (aK G G (by unfold i64ok;omega))<|sr 1 rfl<|sE ?_;clear H a;intro a H
  exact k14 (g1-1) (k+1) a _ (by omega) (⟨by omega,by omega,cC hp.2.2 (oY.2 (by have h9:=yX.1 hc5.1.1.1;omega))⟩) (S.sel [2] G G) (H.keep [30,1,2,3,28,29] rfl)
 refine wp_exit ?_
 refine k12 _ _ ?_
 refine wp_seq_k fun K22 k22=>?_
 refine sS H fun K23 k23=>sr 1 rfl<|sL jL rfl<|sr 1 rfl<|sE ?_;clear H a;intro a H
 refine k23 _ ?_;clear k23 K23
 refine wp_block ?_
 have hpr:allN (fun k=>prmOk P (l.getD k Prm.zero)) l.length=true:=by rw [show l.length=k by omega];exact hp.2.2
 have hkE:=sM hdE (Cr hpr (by omega))
 refine loop_st (X:=Nat) (R0:=_) [2,3,60,61] H rfl (fun h=>[(62,.int .i64 (h:Int))]) (fun h=>[]) (fun g h=>h≤day.length∧g+h=day.length∧∀ q,q<h→∀ j,j<l.length→fC P ps (day.getD q Hq.zero) q (l.getD j Prm.zero)=false) (day.length) 0 ?_ (S.sel [0] G G) (H.keep [62,2,3,60,61] rfl) ?_
 · exact ⟨by omega,by omega,fun q hq=>absurd hq (Nat.not_lt_zero q)⟩
 clear H S a
 intro g2 x2 a w2 hp S H K24 k24
 obtain ⟨h,rfl⟩:∃ y,y=x2:=⟨_,rfl⟩
 obtain ⟨hhl,hgh,hB⟩:=hp
 refine sS H fun K25 k25=>sr 1 rfl<|sE ?_;clear H a;intro a H
 refine k25 _ ?_;clear k25 K25
 refine wp_seq_k fun K26 k26=>?_
 refine condL H rfl (fun hc6=>?_) (fun hc6=>?_)
 ·skip
  have hdo:=hdk.2 h (by omega)
  refine wp_skip ?_
  refine k26 _ _ ?_
  refine wp_seq_k fun K27 k27=>?_
  refine wp_block ?_
  refine seq_list fun K28 k28=>?_
  refine ls 3 H<|sr 1 rfl<|si jL kL G G (hday.adr (by omega)) (by omega)<|sd ((aV Bh kL rfl S hday (by omega) (by omega)))<|sE ?_;clear H a;intro a H
  refine aI H rfl S Hp ?_;clear H a S;intro b13 _ a hb13 hbw13 S H
  refine ls 1 H<|sr 1 rfl<|sE ?_;clear H a;intro a H
  refine aD H S (i:=0) G G G G kL G G ?_
  clear H a S;intro _ a S H
  refine k28 _ _ ?_;clear k28 K28
  replace H:=H.keep [2,3,12,13,60,61,62] rfl
  refine sS H fun K29 k29=>sr 1 rfl<|sL jR rfl<|sr 1 rfl<|sE ?_;clear H a;intro a H
  refine k29 _ ?_;clear k29 K29
  refine wp_block ?_
  refine loop_st (X:=Nat) (R0:=_) [2,3,12,13,60,61,62,67,68] H rfl (fun i=>[(69,.int .i64 (i:Int))]) (fun i=>[]) (fun g i=>i≤l.length∧g+i=l.length∧∀ j,j<i→fC P ps (day.getD h Hq.zero) h (l.getD j Prm.zero)=false) (l.length) 0 ?_ (S.sel [0,1] G G) (H.keep [69,2,3,12,13,60,61,62,67,68] rfl) ?_
  · exact ⟨by omega,by omega,fun q hq=>absurd hq (Nat.not_lt_zero q)⟩
  clear H S a
  intro g3 x3 a w3 hp S H K30 k30
  obtain ⟨i,rfl⟩:∃ y,y=x3:=⟨_,rfl⟩
  refine sS H fun K31 k31=>sr 1 rfl<|sE ?_;clear H a;intro a H
  refine k31 _ ?_;clear k31 K31
  refine wp_seq_k fun K32 k32=>?_
  refine condL H rfl (fun hc7=>?_) (fun hc7=>?_)
  ·skip
   have hpi:=oY.1 (bI.1 hpr i (by omega))
   refine wp_skip ?_
   refine k32 _ _ ?_
   refine wp_seq_k fun K33 k33=>?_
   refine wp_block ?_
   refine seq_list fun K34 k34=>?_
   refine ls 3 H<|sr 1 rfl<|si jR iU G G (hl.adr (by omega)) (by omega)<|sd ((aV qY iU rfl S hl (by omega) (by omega)))<|sE ?_;clear H a;intro a H
   refine aI H rfl S tS ?_;clear H a S;intro b15 _ a hb15 hbw15 S H
   refine ls 1 H<|sr 1 rfl<|sE ?_;clear H a;intro a H
   refine aD H S (i:=0) G G G G iU G G ?_
   clear H a S;intro _ a S H
   refine k34 _ _ ?_;clear k34 K34
   replace H:=H.keep [2,3,12,13,14,15,60,61,62,67,68,69] rfl
   refine seq_list fun K35 k35=>?_
   refine ls 5 H<|sr 1 rfl<|sf nN rfl<|sl S 0 aE G G G<|sf lY rfl<|sl S 0 aE G G G<|sE ?_;clear H a;intro a H
   refine aA H G G Tryz.func104 G G (cK _ _ _ _) ?_;clear H a
   rintro _ _ a ⟨rfl,rfl⟩ H
   refine ls 1 H<|sr 1 rfl<|sE ?_;clear H a;intro a H
   apply cI (i:=6) (g:=80) (t:=96) (b:=true) 16 H S G G (by kernel_rfl) (by kernel_rfl) G G
   case h1=>
    intro hg7
    have hq7:=hg7;try simp only [o1,o2,o3,o4,o5,o6,o7,o8,o9,oa] at hq7
    refine ls 14 H<|sy hg7<|sd ((aB eQ hX rfl S (i:=2) G G))<|sy hg7<|sf nQ rfl<|sy hg7<|sl S 1 aE G G G<|sy hg7<|sf Hf rfl<|sy hg7<|sl S 1 jE G G G<|sy hg7<|sr 1 rfl<|sg 2 12 86 88 true G G (fun hg13=>by
        have hq13:=hg13;try simp only [o1,o2,o3,o4,o5,o6,o7,o8,o9,oa] at hq13
        exact sy hg13<|sf Mb rfl<|sy hg13<|sl S 0 jE G G G<|sz 2 G G G)<|sy hg7<|sa G G G<|sy hg7<|sd (aP Qv G G)<|sy hg7<|sf vH rfl<|sy hg7<|sl S 0 aE G G G<|sy hg7<|sf vI rfl<|sy hg7<|sl S 0 aE G G G<|sE ?_;intro a H
    refine cY H G G (by assumption) ?_
    refine aA H G G Tryz.func107 G G (wD P ps PA pc xs XA xc (day.getD h Hq.zero).out ((day.getD h Hq.zero).help&&(l.getD i Prm.zero).helped) (l.getD i Prm.zero).fr (l.getD i Prm.zero).to _ (hps.now S) hpn (hxs.now S) hxn hV hdo.1.1 (by omega) (by omega)) ?_
    rintro _ _ a ⟨rfl,hdj,S2⟩ H
    replace S:=S.call S2;clear S2
    refine ls 1 H<|sy hg7<|sr 1 rfl<|sE ?_;intro a H
    exact wpList_nil ⟨H.strip 15 G G,(S.sel [0,1,2] G G)⟩
   clear H a S;intro a _ H S
   refine ls 1 H<|sa G G G<|sE ?_;clear H a;intro a H
   refine k35 _ _ ?_;clear k35 K35
   refine cond_ H rfl (fun hc8=>?_) (fun hc8=>?_)
   ·skip
    try simp only [o1,o2,o3,o4,o5,o6,o7,o8,o9,oa] at hc8
    replace H:=H.keep [12,14] rfl
    refine sS H fun K36 k36=>sr 6 rfl<|sE ?_;clear H a;intro a H
    refine k36 _ ?_;clear k36 K36
    refine wp_ret ?_
    refine ret4 (fn:=Tryz.f70) rfl H G G G G ?_
    rw [Mn hkE (by omega) (by omega) hB hp.2.2 (Kg hc8.1 (by omega))]
    exact ⟨rfl,(S.sel [] G G)⟩
   try simp only [o1,o2,o3,o4,o5,o6,o7,o8,o9,oa] at hc8
   refine wp_skip ?_
   refine k33 _ _ ?_
   refine sO H<|sd (aK G G (by unfold i64ok;omega))<|sr 1 rfl<|sE ?_;clear H a;intro a H
   exact k30 (g3-1) (i+1) a _ (by omega) (⟨by omega,by omega,Mo hp.2.2 (by rcases hc8 with h9|h9;exact Fo (by omega);exact Fp (by omega))⟩) (S.sel [1,2] rfl rfl) (H.keep [69,2,3,12,13,60,61,62,67,68] rfl)
  refine wp_exit ?_
  refine k27 _ _ ?_
  replace H:=H.keep [2,3,60,61,62] rfl
  refine sO H<|sd (aK G G (by unfold i64ok;omega))<|sr 1 rfl<|sE ?_;clear H a;intro a H
  exact k24 (g2-1) (h+1) a _ (by omega) (⟨by omega,by omega,Ei hB hp.2.2 (by omega)⟩) (S.sel [1] G G) (H.keep [62,2,3,60,61] rfl)
 refine wp_exit ?_
 refine k22 _ _ ?_
 refine sS H fun K39 k39=>sr 4 rfl<|sE ?_;clear H a;intro a H
 refine k39 _ ?_;clear k39 K39
 refine wp_ret ?_
 refine ret4 (fn:=Tryz.f70) rfl H G G G G ?_
 obtain rfl:h=day.length:=by omega
 rw [Ir hkE hB]
 exact ⟨rfl,(S.sel [] G G)⟩
end
section
theorem two {p:Nat→Prop} (h0:p 0) (h1:p 1):∀ j,j<2→p j:=by
  intro j hj
  have:j=0∨j=1:=by omega
  rcases this with rfl|rfl
  · exact h0
  · exact h1
theorem fJ {P:Program} {f:Nat} {vs:Array Value} {w:World} {R R':Value→World→Prop} (h:Calls P f vs w (Ret R)) (k:∀ v w',R v w'→R' v w'):Calls P f vs w (Ret R'):=Calls.mono h fun e w' he=>by
  cases e with
  | returned v=>exact k v w' he
  | _=>exact he
theorem eH (n lo hi:Int) (w:World) :
    Calls Tryz.prog 190 [.int .i64 n,.int .i64 lo,.int .i64 hi].toArray w (Ret (fun v w'=>v = .bool (decide (lo≤n)&&decide (n≤hi))∧w'=w)):=by
 refine enter Tryz.func190 rfl Tryz.ntmps190 rfl (fun a H=>?_)
 have S:=St.start w
 refine sS H fun K1 k1=>sr 1 rfl<|sE ?_;clear H a;intro a H
 refine k1 _ ?_;clear k1 K1
 replace H:=H.keep [0,1,2] rfl
 refine sS H fun K2 k2=>sr 4 rfl<|sg 3 3 10 13 true G G (fun hg4=>sy hg4<|sr 1 rfl<|sy hg4<|sr 1 rfl<|sy hg4<|sr 1 rfl<|sz 3 G G G)<|sa G G G<|sr 1 rfl<|sE ?_;clear H a;intro a H
 refine k2 _ ?_;clear k2 K2
 refine wp_ret ?_
 refine ret1 (fn:=Tryz.f190) rfl H rfl ?_
 exact ⟨rfl,rfl⟩
theorem gJ (n lo hi:Int) (w:World) :
    Calls Tryz.prog 158 [.int .i64 n,.int .i64 lo,.int .i64 hi].toArray w (Ret (fun v w'=>v = .bool (decide (lo≤n)&&decide (n≤hi))∧w'=w)):=by
 refine enter Tryz.func158 rfl Tryz.ntmps158 rfl (fun a H=>?_)
 have S:=St.start w
 refine sS H fun K1 k1=>sr 1 rfl<|sE ?_;clear H a;intro a H
 refine k1 _ ?_;clear k1 K1
 replace H:=H.keep [0,1,2] rfl
 refine sS H fun K2 k2=>sr 4 rfl<|sg 3 3 10 13 true G G (fun hg4=>sy hg4<|sr 1 rfl<|sy hg4<|sr 1 rfl<|sy hg4<|sr 1 rfl<|sz 3 G G G)<|sa G G G<|sr 1 rfl<|sE ?_;clear H a;intro a H
 refine k2 _ ?_;clear k2 K2
 refine wp_ret ?_
 refine ret1 (fn:=Tryz.f158) rfl H rfl ?_
 exact ⟨rfl,rfl⟩
set_option maxRecDepth 100000 in
theorem Cs (a b c d:Int) (w:World):(Op.equalIn 10000 88 (.agg #[.int .i64 a,.int .i64 b]) (.agg #[.int .i64 c,.int .i64 d])).run Tryz.prog w = .ok (a == c&&b == d) w:=by
  have u3:=Tryz.underlying3
  have a3:=Tryz.isAgg3
  have z3:=Tryz.sizeOf3
  have hS:Tryz.prog.underlying 88=some (.struct (Tryz.prog.fieldsOf 88)):=by kernel_rfl
  have hp:Tryz.prog.stoodInHeld 88=false:=by kernel_rfl
  rw [show (10000:Nat)=9999+1 from rfl,run_equalIn_agg w 9999 88 _ _ hS hp]
  simp only [Program.fieldsOf,Tryz.underlying88]
  go_simp
  by_cases h1:a=c <;> by_cases h2:b=d <;> simp [h1,h2]
set_option maxRecDepth 100000 in
theorem sN (op:BinOp) (x y:Operand) (a b c d:Int) (w:World):(eqGuard op 88 x y (.agg #[.int .i64 a,.int .i64 b]) (.agg #[.int .i64 c,.int .i64 d])).run Tryz.prog w = .ok () w:=by
  have h:Tryz.prog.eqGuardType Tryz.prog.depth 88=false:=by kernel_rfl
  have hpg:∀ w,(program:Sem Program).run Tryz.prog w = .ok Tryz.prog w:=fun _=>rfl
  cases op <;> simp [eqGuard,h,hpg]
section
variable {P:Program} {w:World} {L:List (Nat×Value)} {ty:TypeId} {pos:String} {af:Array Edge} {dd:Option Nat} {g:Option (Nat×Bool)}
set_option maxRecDepth 100000 in
theorem mL {x y:Operand} {yt:TypeId} {a b c d:Int} (hx:ev L x=some (.agg [.int .i64 a,.int .i64 b].toArray)) (hy:ev L y=some (.agg [.int .i64 c,.int .i64 d].toArray)) :
    Does Tryz.prog L ⟨dd,.binOp .neq 88 x y yt,ty,pos,af,g⟩ w (.bool (!(decide (a=c)&&decide (b=d)))):=fun ρ hρ=>by
  have e:(binOp .neq 88 (.agg #[.int .i64 a,.int .i64 b]) (.agg #[.int .i64 c,.int .i64 d])).run Tryz.prog w = .ok (.bool (!(decide (a=c)&&decide (b=d)))) w:=by
    simp only [binOp]
    simp [Op.equal,Op.maxDepth,Cs]
    by_cases h1:a=c <;> by_cases h2:b=d <;> simp [h1,h2]
  simp only [execOp,hρ _ _ hx,hρ _ _ hy]
  simp [sN,e]
end
end
section
theorem pP (rates:List (Int×Int)) (pwn ptn pag:Int) (RA:Option Addr) (rcp:Nat) (l:List Use) (A:Option Addr) (cp:Nat) (w:World) (hr:InS w noF 2 RA rates.length (scell rates)) (hrn:rates.length≤9223372036854775807) (hl:InS w noF 6 A l.length (ucell l)) (hn:l.length≤9223372036854775807) :
    Calls Tryz.prog 181 [.agg [.slice RA rates.length rcp,.int .i64 pwn,.int .i64 ptn,.int .i64 pag].toArray,.slice A l.length cp].toArray w (Ret (fun v w'=>v = .int .i64 (bX (⟨rates,pwn,ptn,pag⟩:Part) l)∧St w noF [] w')):=by
 refine enter Tryz.func181 rfl Tryz.ntmps181 rfl (fun a H=>?_)
 have S:=St.start w
 refine seq_list fun K1 k1=>?_
 refine aN H rfl S G G ?_;clear H a S;intro b2 _ a hb2 hbw2 S H
 refine ls 1 H<|sr 1 rfl<|sE ?_;clear H a;intro a H
 refine k1 _ _ ?_;clear k1 K1
 refine wp_seq_k fun K2 k2=>?_
 replace H:=H.keep [1,2] rfl
 refine sS H fun K3 k3=>sf eX rfl<|sl S 0 gU G G G<|sL cW rfl<|sc rfl Tryz.func190 G G (eH _ _ _ _)<|sr 2 rfl<|sg 4 5 15 19 false G G (fun hg6=>sy hg6<|sf vF rfl<|sy hg6<|sl S 0 aE G G G<|sy hg6<|sc rfl Tryz.func190 G G (eH _ _ _ _)<|sy hg6<|sr 1 rfl<|sz 4 G G G)<|so G G G<|sr 1 rfl<|sg 4 11 21 25 false G G (fun hg12=>sy hg12<|sf nM rfl<|sy hg12<|sl S 0 aE G G G<|sy hg12<|sc rfl Tryz.func190 G G (eH _ _ _ _)<|sy hg12<|sr 1 rfl<|sz 4 G G G)<|so G G G<|sr 1 rfl<|sg 4 17 27 31 false G G (fun hg18=>sy hg18<|sf pU rfl<|sy hg18<|sl S 0 aE G G G<|sy hg18<|sc rfl Tryz.func190 G G (eH _ _ _ _)<|sy hg18<|sr 1 rfl<|sz 4 G G G)<|so G G G<|sE ?_;clear H a;intro a H
 refine k3 _ ?_;clear k3 K3
 refine cond_ H rfl (fun hc1=>?_) (fun hc1=>?_)
 ·skip
  try simp only [o1,o2,o3,o4,o5,o6,o7,o8,o9,oa] at hc1
  replace H:=H.keep [] rfl
  refine sS H fun K4 k4=>sr 1 rfl<|sE ?_;clear H a;intro a H
  refine k4 _ ?_;clear k4 K4
  refine wp_ret ?_
  refine ret1 (fn:=Tryz.f181) rfl H rfl ?_
  refine ⟨?_,(S.sel [] G G)⟩;unfold bX;rw [if_neg (by unfold eZ;simp only [decide_eq_true_eq];omega)]
 try simp only [o1,o2,o3,o4,o5,o6,o7,o8,o9,oa] at hc1
 refine wp_skip ?_
 refine k2 _ _ ?_
 refine wp_seq_k fun K5 k5=>?_
 have hhd:eZ (⟨rates,pwn,ptn,pag⟩:Part)=true:=by unfold eZ;simp only [decide_eq_true_eq];omega
 refine sS H fun K6 k6=>sf eX rfl<|sl S 0 gU G G G<|sL cW rfl<|sr 1 rfl<|sE ?_;clear H a;intro a H
 refine k6 _ ?_;clear k6 K6
 refine wp_block ?_
 refine loop_st (X:=Nat) (R0:=_) [1,2,34,35] H rfl (fun k=>[(36,.int .i64 (k:Int))]) (fun k=>[]) (fun g k=>k≤rates.length∧g+k=rates.length∧(rates.take k).all gH=true) (rates.length) 0 ?_ (S.sel [0] G G) (H.keep [36,1,2,34,35] rfl) ?_
 · exact ⟨by omega,by omega,by simp⟩
 clear H S a
 intro g1 x1 a w1 hp S H K7 k7
 obtain ⟨k,rfl⟩:∃ y,y=x1:=⟨_,rfl⟩
 refine sS H fun K8 k8=>sr 1 rfl<|sE ?_;clear H a;intro a H
 refine k8 _ ?_;clear k8 K8
 refine wp_seq_k fun K9 k9=>?_
 refine condL H rfl (fun hc2=>?_) (fun hc2=>?_)
 ·skip
  refine wp_skip ?_
  refine k9 _ _ ?_
  refine wp_seq_k fun K10 k10=>?_
  refine wp_block ?_
  refine seq_list fun K11 k11=>?_
  refine ls 2 H<|si cW aQ G G (hr.adr (by omega)) (by omega)<|sd ((aV aZ aQ rfl S hr (by omega) (by omega)))<|sE ?_;clear H a;intro a H
  refine aI H rfl S bS ?_;clear H a S;intro b6 _ a hb6 hbw6 S H
  refine aD H S (i:=0) G G G G aQ G G ?_
  clear H a S;intro _ a S H
  refine k11 _ _ ?_;clear k11 K11
  replace H:=H.keep [1,2,6,34,35,36] rfl
  refine sS H fun K12 k12=>sf bE rfl<|sl S 0 aE G G G<|sr 2 rfl<|sg 5 3 43 48 false G G (fun hg4=>sy hg4<|sf bB rfl<|sy hg4<|sl S 0 aE G G G<|sy hg4<|sf bE rfl<|sy hg4<|sl S 0 aE G G G<|sy hg4<|sr 1 rfl<|sz 5 G G G)<|so G G G<|sr 1 rfl<|sg 3 10 50 53 false G G (fun hg11=>sy hg11<|sf bB rfl<|sy hg11<|sl S 0 aE G G G<|sy hg11<|sr 1 rfl<|sz 3 G G G)<|so G G G<|sE ?_;clear H a;intro a H
  refine k12 _ ?_;clear k12 K12
  refine cond_ H rfl (fun hc3=>?_) (fun hc3=>?_)
  ·skip
   try simp only [o1,o2,o3,o4,o5,o6,o7,o8,o9,oa] at hc3
   replace H:=H.keep [] rfl
   refine sS H fun K13 k13=>sr 1 rfl<|sE ?_;clear H a;intro a H
   refine k13 _ ?_;clear k13 K13
   refine wp_ret ?_
   refine ret1 (fn:=Tryz.f181) rfl H rfl ?_
   refine ⟨?_,(S.sel [] G G)⟩;unfold bX;rw [if_pos hhd];(try dsimp only);rw [oZ (k:=k) (d:=(0,0)) (by omega) (by unfold gH;simp only [decide_eq_false_iff_not];omega)];rfl
  try simp only [o1,o2,o3,o4,o5,o6,o7,o8,o9,oa] at hc3
  refine wp_skip ?_
  refine k10 _ _ ?_
  refine sO H<|sd (aK G G (by unfold i64ok;omega))<|sr 1 rfl<|sE ?_;clear H a;intro a H
  exact k7 (g1-1) (k+1) a _ (by omega) (⟨by omega,by omega,rQ (d:=(0,0)) (by omega) hp.2.2 (by unfold gH;simp only [decide_eq_true_eq];omega)⟩) (S.sel [1] G G) (H.keep [36,1,2,34,35] rfl)
 refine wp_exit ?_
 refine k5 _ _ ?_
 refine wp_seq_k fun K15 k15=>?_
 have hrt:rates.all gH=true:=by have h9:=hp.2.2;rw [List.take_of_length_le (by omega)] at h9;exact h9
 refine sS H fun K16 k16=>sr 1 rfl<|sL cX rfl<|sr 1 rfl<|sE ?_;clear H a;intro a H
 refine k16 _ ?_;clear k16 K16
 refine condL H rfl (fun hc4=>?_) (fun hc4=>?_)
 ·skip
  refine sS H fun K17 k17=>sr 1 rfl<|sE ?_;clear H a;intro a H
  refine k17 _ ?_;clear k17 K17
  refine wp_ret ?_
  refine ret1 (fn:=Tryz.f181) rfl H rfl ?_
  refine ⟨?_,(S.sel [] G G)⟩;unfold bX;rw [if_pos hhd,if_pos hrt,if_neg (by omega)]
 refine wp_skip ?_
 refine k15 _ _ ?_
 refine sS H fun K18 k18=>sr 1 rfl<|sE ?_;clear H a;intro a H
 refine k18 _ ?_;clear k18 K18
 refine wp_seq_k fun K19 k19=>?_
 replace H:=H.keep [1,2,7] rfl
 refine sS H fun K20 k20=>sr 1 rfl<|sL cX rfl<|sr 1 rfl<|sE ?_;clear H a;intro a H
 refine k20 _ ?_;clear k20 K20
 refine wp_block ?_
 refine loop_st (X:=Nat) (R0:=_) [2,59,60] H rfl (fun j=>[(7,.int .i64 (prevD l j)),(61,.int .i64 (j:Int))]) (fun j=>[]) (fun g j=>j≤l.length∧g+j=l.length∧dJ rates.length l j=true) (l.length) 0 ?_ (S.sel [0] G G) (H.keep [7,61,2,59,60] rfl) ?_
 · exact ⟨by omega,by omega,rfl⟩
 clear H S a
 intro g2 x2 a w2 hp S H K21 k21
 obtain ⟨j,rfl⟩:∃ y,y=x2:=⟨_,rfl⟩
 refine sS H fun K22 k22=>sr 1 rfl<|sE ?_;clear H a;intro a H
 refine k22 _ ?_;clear k22 K22
 refine wp_seq_k fun K23 k23=>?_
 refine condL H rfl (fun hc5=>?_) (fun hc5=>?_)
 ·skip
  refine wp_skip ?_
  refine k23 _ _ ?_
  refine wp_seq_k fun K24 k24=>?_
  refine wp_block ?_
  refine seq_list fun K25 k25=>?_
  refine ls 2 H<|si cX cS G G (hl.adr (by omega)) (by omega)<|sd ((aV jG cS rfl S hl (by omega) (by omega)))<|sE ?_;clear H a;intro a H
  refine aI H rfl S jM ?_;clear H a S;intro b9 _ a hb9 hbw9 S H
  refine aD H S (i:=0) G G G G cS G G ?_
  clear H a S;intro _ a S H
  refine k25 _ _ ?_;clear k25 K25
  refine wp_seq_k fun K26 k26=>?_
  replace H:=H.keep [2,7,9,59,60,61] rfl
  refine sS H fun K27 k27=>sf gE rfl<|sl S 0 aE G G G<|sr 1 rfl<|sc rfl Tryz.func190 G G (eH _ _ _ _)<|sr 2 rfl<|sg 4 5 70 74 false G G (fun hg6=>sy hg6<|sf jA rfl<|sy hg6<|sl S 0 aE G G G<|sy hg6<|sc rfl Tryz.func190 G G (eH _ _ _ _)<|sy hg6<|sr 1 rfl<|sz 4 G G G)<|so G G G<|sr 1 rfl<|sg 8 11 76 84 false G G (fun hg12=>sy hg12<|sf nS rfl<|sy hg12<|sl S 0 aE G G G<|sy hg12<|sf eX rfl<|sy hg12<|sl S 1 gU G G G<|sy hg12<|sL cW rfl<|sy hg12<|sd (aR G G (by unfold i64ok;omega))<|sy hg12<|sc rfl Tryz.func190 G G (eH _ _ _ _)<|sy hg12<|sr 1 rfl<|sz 8 G G G)<|so G G G<|sE ?_;clear H a;intro a H
  refine k27 _ ?_;clear k27 K27
  refine cond_ H rfl (fun hc6=>?_) (fun hc6=>?_)
  ·skip
   try simp only [o1,o2,o3,o4,o5,o6,o7,o8,o9,oa] at hc6
   replace H:=H.keep [] rfl
   refine sS H fun K28 k28=>sr 1 rfl<|sE ?_;clear H a;intro a H
   refine k28 _ ?_;clear k28 K28
   refine wp_ret ?_
   refine ret1 (fn:=Tryz.f181) rfl H rfl ?_
   refine ⟨?_,(S.sel [] G G)⟩;unfold bX;rw [if_pos hhd,if_pos hrt,if_pos (by omega)];unfold dJ;rw [fI (k:=j) (by omega) (by unfold useOk;simp only [decide_eq_false_iff_not];omega)];rfl
  try simp only [o1,o2,o3,o4,o5,o6,o7,o8,o9,oa] at hc6
  refine wp_skip ?_
  refine k26 _ _ ?_
  refine wp_seq_k fun K29 k29=>?_
  replace H:=H.keep [2,9,59,60,61] rfl
  refine sS H fun K30 k30=>sf eJ rfl<|sf bE rfl<|sl S 0 aE G G G<|sr 2 rfl<|sg 7 4 90 97 false G G (fun hg5=>sy hg5<|sf eJ rfl<|sy hg5<|sf bB rfl<|sy hg5<|sl S 0 aE G G G<|sy hg5<|sf eJ rfl<|sy hg5<|sf bE rfl<|sy hg5<|sl S 0 aE G G G<|sy hg5<|sr 1 rfl<|sz 7 G G G)<|so G G G<|sr 1 rfl<|sg 4 13 99 103 false G G (fun hg14=>sy hg14<|sf eJ rfl<|sy hg14<|sf bB rfl<|sy hg14<|sl S 0 aE G G G<|sy hg14<|sr 1 rfl<|sz 4 G G G)<|so G G G<|sr 1 rfl<|sg 9 19 105 114 false G G (fun hg20=>sy hg20<|sf lH rfl<|sy hg20<|sl S 0 jE G G G<|sy hg20<|sr 1 rfl<|sy hg20<|sr 1 rfl<|sg 4 23 109 113 true G G (fun hg24=>sy hg24<|sf eJ rfl<|sy hg24<|sd ((aB aZ aQ rfl S (i:=0) G G))<|sy hg24<|sd (aP dI G G)<|sy hg24<|sd (mL G G)<|sz 4 G G G)<|sy hg20<|sa G G G<|sz 6 G G G)<|so G G G<|sE ?_;clear H a;intro a H
  refine k30 _ ?_;clear k30 K30
  refine cond_ H rfl (fun hc7=>?_) (fun hc7=>?_)
  ·skip
   try simp only [o1,o2,o3,o4,o5,o6,o7,o8,o9,oa] at hc7
   replace H:=H.keep [] rfl
   refine sS H fun K31 k31=>sr 1 rfl<|sE ?_;clear H a;intro a H
   refine k31 _ ?_;clear k31 K31
   refine wp_ret ?_
   refine ret1 (fn:=Tryz.f181) rfl H rfl ?_
   refine ⟨?_,(S.sel [] rfl rfl)⟩;unfold bX;rw [if_pos hhd,if_pos hrt,if_pos (by omega)];unfold dJ;rw [fI (k:=j) (by omega) (by unfold useOk;simp only [decide_eq_false_iff_not];generalize l.getD j Use.zero=u at hc6 hc7 ⊢;rintro ⟨_,_,_,_,hm⟩;cases hq:u.meas <;> simp [hq] at hc7 hm <;> omega)];rfl
  try simp only [o1,o2,o3,o4,o5,o6,o7,o8,o9,oa] at hc7
  refine wp_skip ?_
  refine k29 _ _ ?_
  refine sO H<|sf gE rfl<|sl S 0 aE G G G<|sr 1 rfl<|sE ?_;clear H a;intro a H
  refine k24 _ _ ?_
  refine sO H<|sd (aK G G (by unfold i64ok;omega))<|sr 1 rfl<|sE ?_;clear H a;intro a H
  exact k21 (g2-1) (j+1) a _ (by omega) (⟨by omega,by omega,by unfold dJ;rw [gG (n:=0)];have h9:=hp.2.2;unfold dJ at h9;rw [h9];simp only [Bool.true_and];unfold useOk;simp only [decide_eq_true_eq];generalize l.getD j Use.zero=u at hc6 hc7 ⊢;refine ⟨by omega,by omega,by omega,by omega,fun hm=>?_⟩;simp [hm] at hc7;omega⟩) (S.sel [1] G G) (H.keep [7,61,2,59,60] rfl)
 refine wp_exit ?_
 refine k19 _ _ ?_
 refine sS H fun K34 k34=>sr 1 rfl<|sE ?_;clear H a;intro a H
 refine k34 _ ?_;clear k34 K34
 refine wp_ret ?_
 refine ret1 (fn:=Tryz.f181) rfl H rfl ?_
 refine ⟨?_,(S.sel [] G G)⟩;have hj9:j=l.length:=by omega
 unfold bX;rw [if_pos hhd,if_pos hrt,if_pos (by omega)];rw [hj9] at hp;dsimp only;rw [if_pos hp.2.2]
theorem fV (rates:List (Int×Int)) (pwn ptn pag:Int) (RA:Option Addr) (rcp:Nat) (u:Use) (w:World) (hr:InS w noF 2 RA rates.length (scell rates)) (hrn:rates.length≤9223372036854775807) (hcl:0≤u.cls∧u.cls<rates.length) (hg1:i64ok (cF (⟨rates,pwn,ptn,pag⟩:Part) u).1) (hg2:i64ok (cF (⟨rates,pwn,ptn,pag⟩:Part) u).2) :
    Calls Tryz.prog 192 [.agg [.slice RA rates.length rcp,.int .i64 pwn,.int .i64 ptn,.int .i64 pag].toArray,.agg [.int .i64 u.day,.int .i64 u.turns,.int .i64 u.cls,.bool u.meas,.int .i64 u.lo,.int .i64 u.hi].toArray].toArray w (Ret (fun v w'=>v = .agg [.int .i64 (cF (⟨rates,pwn,ptn,pag⟩:Part) u).1,.int .i64 (cF (⟨rates,pwn,ptn,pag⟩:Part) u).2].toArray∧St w noF [] w')):=by
 refine enter Tryz.func192 rfl Tryz.ntmps192 rfl (fun a H=>?_)
 have S:=St.start w
 refine seq_list fun K1 k1=>?_
 refine aN H rfl S G G ?_;clear H a S;intro b2 _ a hb2 hbw2 S H
 refine aN H rfl S G G ?_;clear H a S;intro b3 _ a hb3 hbw3 S H
 refine aI H rfl S bS ?_;clear H a S;intro b4 _ a hb4 hbw4 S H
 refine k1 _ _ ?_;clear k1 K1
 replace H:=H.keep [2,3,4] rfl
 refine seq_list fun K2 k2=>?_
 refine ls 6 H<|sf eX rfl<|sl S 2 gU G G G<|sf nS rfl<|sl S 1 aE G G G<|sI cW aQ G G (hr.adr (by omega)) (by omega) (by omega)<|sd ((aV aZ aQ rfl S hr (by omega) (by omega)))<|sE ?_;clear H a;intro a H
 refine aI H rfl S bS ?_;clear H a S;intro b5 _ a hb5 hbw5 S H
 refine aD H S (i:=0) G G G G aQ G G ?_
 clear H a S;intro _ a S H
 refine k2 _ _ ?_;clear k2 K2
 replace H:=H.keep [3,4,5] rfl
 refine seq_list fun K3 k3=>?_
 refine ls 11 H<|sf jA rfl<|sl S 2 aE G G G<|sf bE rfl<|sl S 0 aE G G G<|sd (iP G G (by exact hg1))<|sf jA rfl<|sl S 2 aE G G G<|sf bB rfl<|sl S 0 aE G G G<|sd (iP G G (by exact hg2))<|sd (aP dI G G)<|sE ?_;clear H a;intro a H
 refine aD H S (i:=1) G G G G aQ G G ?_
 clear H a S;intro _ a S H
 refine k3 _ _ ?_;clear k3 K3
 refine wp_ret ?_
 refine retA (fn:=Tryz.f192) rfl H rfl aZ (by exact aQ) (cQ S (i:=1) rfl) ?_
 exact ⟨rfl,(S.sel [] G G)⟩
theorem fQ (a1 a2 b1 b2:Int) (w:World) :
    Calls Tryz.prog 193 [.agg [.int .i64 a1,.int .i64 a2].toArray,.agg [.int .i64 b1,.int .i64 b2].toArray].toArray w (Ret (fun v w'=>v = .tuple #[.agg [.int .i64 (meetS (a1,a2) (b1,b2)).1,.int .i64 (meetS (a1,a2) (b1,b2)).2].toArray,.bool (decide ((meetS (a1,a2) (b1,b2)).1≤(meetS (a1,a2) (b1,b2)).2))]∧St w noF [] w')):=by
 refine enter Tryz.func193 rfl Tryz.ntmps193 rfl (fun a H=>?_)
 have S:=St.start w
 refine seq_list fun K1 k1=>?_
 refine aN H rfl S G G ?_;clear H a S;intro b2 _ a hb2 hbw2 S H
 refine aN H rfl S G G ?_;clear H a S;intro b3 _ a hb3 hbw3 S H
 refine aI H rfl S bS ?_;clear H a S;intro b4 _ a hb4 hbw4 S H
 refine ls 1 H<|sr 1 rfl<|sE ?_;clear H a;intro a H
 refine k1 _ _ ?_;clear k1 K1
 replace H:=H.keep [2,3,4] rfl
 refine seq_list fun K2 k2=>?_
 refine ls 11 H<|sf bE rfl<|sl S 2 aE G G G<|sf bE rfl<|sl S 1 aE G G G<|sd (kX G G)<|sf bB rfl<|sl S 2 aE G G G<|sf bB rfl<|sl S 1 aE G G G<|sd (wX G G)<|sd (aP dI G G)<|sE ?_;clear H a;intro a H
 refine aI H rfl S bS ?_;clear H a S;intro b6 _ a hb6 hbw6 S H
 refine aD H S (i:=0) G G G G aQ G G ?_
 clear H a S;intro _ a S H
 refine k2 _ _ ?_;clear k2 K2
 replace H:=H.keep [4,6] rfl
 replace S:=S.drew
 refine seq_wq [(0,true),(1,true),(2,true),(3,true),(4,true),(5,true),(6,false),(7,true)] (by kernel_rfl) (by kernel_rfl) (S.sel [0,2,3] G G) fun K3 k3=>?_
 refine qF H<|qd rfl (fun _ S=>(aB aZ aQ rfl S (i:=0) G G))<|qd rfl (fun _ S=>(aC bE rfl))<|qd rfl (fun _ S=>aH aE rfl (boxM.rd S (i:=0) G G))<|qd rfl (fun _ S=>(aC bB rfl))<|qd rfl (fun _ S=>aH aE rfl (boxM.rd S (i:=0) G G))<|qr 1 rfl<|qK ?_;clear H a;intro a H
 refine aT rfl ?_
 refine aD H S (i:=1) G G G G aQ G G ?_
 clear H a S;intro _ a S H
 refine wpList_nil (And.intro (S.sel [0,2,3] G G) ?_)
 refine qF H<|qr 1 rfl<|qK ?_;clear H a;intro a H
 refine bN ?_
 refine k3 _ _ ?_
 clear k3 K3
 refine wp_ret ?_
 refine retA1 (fn:=Tryz.f193) rfl H rfl aZ (by exact aQ) (cQ S (i:=1) rfl) rfl ?_
 exact ⟨rfl,(S.sel [] G G)⟩
end
section
theorem pK (rates:List (Int×Int)) (pwn ptn pag:Int) (RA:Option Addr) (rcp:Nat) (l:List Use) (A:Option Addr) (cp:Nat) (w:World) (hr:InS w noF 2 RA rates.length (scell rates)) (hrn:rates.length≤9223372036854775807) (hl:InS w noF 6 A l.length (ucell l)) (hn:l.length≤9223372036854775807) (hok:PartOk (⟨rates,pwn,ptn,pag⟩:Part) l) :
    Calls Tryz.prog 191 [.agg [.slice RA rates.length rcp,.int .i64 pwn,.int .i64 ptn,.int .i64 pag].toArray,.slice A l.length cp].toArray w (Ret (fun v w'=>∃ n A' c',IsAt (⟨rates,pwn,ptn,pag⟩:Part) l n∧v = .tuple #[.slice A' n c',.int .i64 (n:Int)]∧St w noF [ownM 88 2 A' n c' (fcell (fun q=>fwd (⟨rates,pwn,ptn,pag⟩:Part) l (q+1)))] w')):=by
 refine enter Tryz.func191 rfl Tryz.ntmps191 rfl (fun a H=>?_)
 have S:=St.start w
 refine seq_list fun K1 k1=>?_
 refine aN H rfl S G G ?_;clear H a S;intro b2 _ a hb2 hbw2 S H
 refine ls 2 H<|sr 2 rfl<|sE ?_;clear H a;intro a H
 refine k1 _ _ ?_;clear k1 K1
 refine seq_list fun K2 k2=>?_
 refine aI H rfl S bS ?_;clear H a S;intro b6 _ a hb6 hbw6 S H
 refine k2 _ _ ?_;clear k2 K2
 refine wp_seq_k fun K3 k3=>?_
 refine sS H fun K4 k4=>sr 1 rfl<|sL cX rfl<|sr 1 rfl<|sE ?_;clear H a;intro a H
 refine k4 _ ?_;clear k4 K4
 refine wp_block ?_
 replace S:=S.newNil 88 2 (fcell (fun q=>fwd (⟨rates,pwn,ptn,pag⟩:Part) l (q+1)))
 refine loop_st (X:=Nat×Option Addr×Nat) (R0:=_) [1,2,6,11,12] H rfl (fun ⟨k,A',c'⟩=>[(4,.slice A' k c'),(13,.int .i64 (k:Int))]) (fun ⟨k,A',c'⟩=>[boxM b6 88 [.int .i64 (fwd (⟨rates,pwn,ptn,pag⟩:Part) l k).1,.int .i64 (fwd (⟨rates,pwn,ptn,pag⟩:Part) l k).2],ownM 88 2 A' k c' (fcell (fun q=>fwd (⟨rates,pwn,ptn,pag⟩:Part) l (q+1)))]) (fun g ⟨k,A',c'⟩=>k≤l.length∧g+k=l.length∧∀ q,q<k→fits (⟨rates,pwn,ptn,pag⟩:Part) l q) (l.length) (0,none,0) ?_ (S.sel [1,0,2] G G) (H.keep [4,13,1,2,6,11,12] rfl) ?_
 · exact ⟨by omega,by omega,fun q hq=>by omega⟩
 clear H S a
 intro g1 x1 a w1 hp S H K5 k5
 obtain ⟨k,A',c'⟩:=x1
 dsimp only at hp S H
 refine sS H fun K6 k6=>sr 1 rfl<|sE ?_;clear H a;intro a H
 refine k6 _ ?_;clear k6 K6
 refine wp_seq_k fun K7 k7=>?_
 refine condL H rfl (fun hc1=>?_) (fun hc1=>?_)
 ·skip
  refine wp_skip ?_
  refine k7 _ _ ?_
  refine wp_seq_k fun K8 k8=>?_
  refine wp_block ?_
  have hu:=hok.use (k:=k) (by omega);unfold useOk at hu;simp only [decide_eq_true_eq] at hu
  have hgb:=kB hok (k:=k) (by omega)
  have hcls:0≤(l.getD k Use.zero).cls∧(l.getD k Use.zero).cls<rates.length:=by
    have:((⟨rates,pwn,ptn,pag⟩:Part).rates.length:Int)=rates.length:=rfl
    omega
  have hll:=hok.len
  have hfb:=vU hok k (by omega)
  refine seq_list fun K9 k9=>?_
  refine ls 3 H<|sr 1 rfl<|si cX cS G G (hl.adr (by omega)) (by omega)<|sd ((aV jG cS rfl S hl (by omega) (by omega)))<|sE ?_;clear H a;intro a H
  refine aI H rfl S jM ?_;clear H a S;intro b8 _ a hb8 hbw8 S H
  refine ls 1 H<|sr 1 rfl<|sE ?_;clear H a;intro a H
  refine aD H S (i:=0) G G G G cS G G ?_
  clear H a S;intro _ a S H
  refine k9 _ _ ?_;clear k9 K9
  replace H:=H.keep [1,2,4,6,7,8,11,12,13] rfl
  refine seq_list fun K10 k10=>?_
  refine ls 2 H<|sd ((aB eM gR rfl S (i:=3) G G))<|sd ((aB jG cS rfl S (i:=0) G G))<|sE ?_;clear H a;intro a H
  refine aA H G G Tryz.func192 G G (fV rates pwn ptn pag RA rcp (l.getD k Use.zero) _ (hr.now S) hrn hcls (by unfold i64ok;omega) (by unfold i64ok;omega)) ?_;clear H a
  rintro _ _ a ⟨rfl,S2⟩ H
  replace S:=S.call S2;clear S2
  refine aI H rfl S bS ?_;clear H a S;intro b9 _ a hb9 hbw9 S H
  refine aD H S (i:=0) G G G G aQ G G ?_
  clear H a S;intro _ a S H
  refine k10 _ _ ?_;clear k10 K10
  replace H:=H.keep [1,2,4,6,7,8,9,11,12,13] rfl
  refine seq_list fun K11 k11=>?_
  refine ls 11 H<|sf bE rfl<|sl S 2 aE G G G<|sf bE rfl<|sl S 0 aE G G G<|sd (aK G G (by unfold i64ok;omega))<|sf bB rfl<|sl S 2 aE G G G<|sf bB rfl<|sl S 0 aE G G G<|sd (aK G G (by unfold i64ok;omega))<|sd (aP dI G G)<|sE ?_;clear H a;intro a H
  refine aD H S (i:=2) G G G G aQ G G ?_
  clear H a S;intro _ a S H
  refine k11 _ _ ?_;clear k11 K11
  refine wp_seq_k fun K12 k12=>?_
  replace H:=H.keep [1,2,4,6,7,8,11,12,13] rfl
  refine sS H fun K13 k13=>sf lH rfl<|sl S 1 jE G G G<|sE ?_;clear H a;intro a H
  refine k13 _ ?_;clear k13 K13
  refine cond_ H rfl (fun hc2=>?_) (fun hc2=>?_)
  ·skip
   try simp only [o1,o2,o3,o4,o5,o6,o7,o8,o9,oa] at hc2
   refine sS H fun K14 k14=>sr 1 rfl<|sE ?_;clear H a;intro a H
   refine k14 _ ?_;clear k14 K14
   replace H:=H.keep [1,2,4,6,7,8,11,12,13] rfl
   refine seq_list fun K15 k15=>?_
   refine ls 3 H<|sd ((aB aZ aQ rfl S (i:=2) G G))<|sf eJ rfl<|sd ((aB aZ aQ rfl S (i:=1) G G))<|sE ?_;clear H a;intro a H
   refine aA H G G Tryz.func193 G G (fQ _ _ _ _ _) ?_;clear H a
   rintro _ _ a ⟨rfl,S2⟩ H
   replace S:=S.call S2;clear S2
   refine ls 3 H<|sr 3 rfl<|sE ?_;clear H a;intro a H
   refine aD H S (i:=2) G G G G aQ G G ?_
   clear H a S;intro _ a S H
   refine ls 1 H<|sr 1 rfl<|sE ?_;clear H a;intro a H
   refine k15 _ _ ?_;clear k15 K15
   replace H:=H.keep [1,2,4,6,7,10,11,12,13] rfl
   refine sS H fun K16 k16=>sr 2 rfl<|sE ?_;clear H a;intro a H
   refine k16 _ ?_;clear k16 K16
   refine cond_ H rfl (fun hc3=>?_) (fun hc3=>?_)
   ·skip
    try simp only [o1,o2,o3,o4,o5,o6,o7,o8,o9,oa] at hc3
    refine sS H fun K17 k17=>sr 4 rfl<|sE ?_;clear H a;intro a H
    refine k17 _ ?_;clear k17 K17
    refine wp_ret ?_
    refine ret2 (fn:=Tryz.f191) rfl H G G ?_
    refine ⟨k,A',c',⟨by omega,hp.2.2,fun _ hf=>?_⟩,rfl,(S.sel [3] G G)⟩
    have h9:=hf hc2
    rw [rR hc2] at h9
    exact absurd h9 (Int.not_le.2 hc3)
   try simp only [o1,o2,o3,o4,o5,o6,o7,o8,o9,oa] at hc3
   refine wp_skip ?_
   refine k12 _ _ ?_
   have e9:=(by first|exact rR (p:=(⟨rates,pwn,ptn,pag⟩:Part)) hc2|exact qC (p:=(⟨rates,pwn,ptn,pag⟩:Part)) hc2:fwd (⟨rates,pwn,ptn,pag⟩:Part) l (k+1)=_)
   replace H:=H.keep [1,2,4,6,11,12,13] rfl
   refine one_list ?_
   refine ls 2 H<|sr 1 rfl<|sd ((aB aZ aQ rfl S (i:=2) G G))<|sE ?_;clear H a;intro a H
   refine aY H rfl S cW aQ bS G G G G G G G G G ?_;clear H a S;intro A1 _ a hA1 S H
   refine cB H rfl S cW aQ bS Hl G G (i:=4) G G G (ownM.inS S (i:=0) rfl) (iD (two G G)) (by omega) (by omega) ?_;clear H a S;intro A2 c2 _ a S H
   replace S:=S.recell (i:=4) rfl (cell':=fcell (fun q=>fwd (⟨rates,pwn,ptn,pag⟩:Part) l (q+1))) (rK (two (by show _=Value.int .i64 (fwd (⟨rates,pwn,ptn,pag⟩:Part) l (k+1)).1;rw [e9];rfl) (by show _=Value.int .i64 (fwd (⟨rates,pwn,ptn,pag⟩:Part) l (k+1)).2;rw [e9];rfl)))
   refine ls 1 H<|sr 1 rfl<|sE ?_;clear H a;intro a H
   refine k8 _ _ ?_
   refine sO H<|sd (aK G G (by unfold i64ok;omega))<|sr 1 rfl<|sE ?_;clear H a;intro a H
   replace S:=boxM.same S (i:=3) (cs':=[.int .i64 (fwd (⟨rates,pwn,ptn,pag⟩:Part) l (k+1)).1,.int .i64 (fwd (⟨rates,pwn,ptn,pag⟩:Part) l (k+1)).2]) rfl (by rw [e9];rfl)
   exact k5 (g1-1) (k+1,_,_) a _ (by omega) (⟨by omega,by omega,fun q hq=>by
     by_cases h:q=k
     · subst h;first|exact nW hc2|(intro _;rw [e9];exact hc3)
     · exact hp.2.2 q (by omega)⟩) (S.sel [3,4,5] G G) (H.keep [4,13,1,2,6,11,12] rfl)
  try simp only [o1,o2,o3,o4,o5,o6,o7,o8,o9,oa] at hc2
  refine wp_skip ?_
  refine k12 _ _ ?_
  have e9:=(by first|exact rR (p:=(⟨rates,pwn,ptn,pag⟩:Part)) hc2|exact qC (p:=(⟨rates,pwn,ptn,pag⟩:Part)) hc2:fwd (⟨rates,pwn,ptn,pag⟩:Part) l (k+1)=_)
  replace H:=H.keep [1,2,4,6,11,12,13] rfl
  refine one_list ?_
  refine ls 2 H<|sr 1 rfl<|sd ((aB aZ aQ rfl S (i:=2) G G))<|sE ?_;clear H a;intro a H
  refine aY H rfl S cW aQ bS G G G G G G G G G ?_;clear H a S;intro A3 _ a hA3 S H
  refine cB H rfl S cW aQ bS Hl G G (i:=4) G G G (ownM.inS S (i:=0) rfl) (iD (two G G)) (by omega) (by omega) ?_;clear H a S;intro A4 c4 _ a S H
  replace S:=S.recell (i:=4) rfl (cell':=fcell (fun q=>fwd (⟨rates,pwn,ptn,pag⟩:Part) l (q+1))) (rK (two (by show _=Value.int .i64 (fwd (⟨rates,pwn,ptn,pag⟩:Part) l (k+1)).1;rw [e9];rfl) (by show _=Value.int .i64 (fwd (⟨rates,pwn,ptn,pag⟩:Part) l (k+1)).2;rw [e9];rfl)))
  refine ls 1 H<|sr 1 rfl<|sE ?_;clear H a;intro a H
  refine k8 _ _ ?_
  refine sO H<|sd (aK G G (by unfold i64ok;omega))<|sr 1 rfl<|sE ?_;clear H a;intro a H
  replace S:=boxM.same S (i:=3) (cs':=[.int .i64 (fwd (⟨rates,pwn,ptn,pag⟩:Part) l (k+1)).1,.int .i64 (fwd (⟨rates,pwn,ptn,pag⟩:Part) l (k+1)).2]) rfl (by rw [e9];rfl)
  exact k5 (g1-1) (k+1,_,_) a _ (by omega) (⟨by omega,by omega,fun q hq=>by
    by_cases h:q=k
    · subst h;first|exact nW hc2|(intro _;rw [e9];exact hc3)
    · exact hp.2.2 q (by omega)⟩) (S.sel [3,4,5] G G) (H.keep [4,13,1,2,6,11,12] rfl)
 refine wp_exit ?_
 refine k3 _ _ ?_
 replace H:=H.keep [1,4] rfl
 refine sS H fun K22 k22=>sr 2 rfl<|sL cX rfl<|sr 2 rfl<|sE ?_;clear H a;intro a H
 refine k22 _ ?_;clear k22 K22
 refine wp_ret ?_
 refine ret2 (fn:=Tryz.f191) rfl H G G ?_
 have hk9:k=l.length:=by omega
 subst hk9
 exact ⟨_,A',c',⟨Nat.le_refl _,hp.2.2,fun h=>absurd h (Nat.lt_irrefl _)⟩,rfl,(S.sel [1] G G)⟩
end
section
def Worn (w:World) (p:Part) (l:List Use) (v:Value) (w':World):Prop:=
  (IsAt p l l.length∧∃ A' c',v = .tuple #[.slice A' l.length c',.bool true]∧St w noF [ownM 88 2 A' l.length c' (fcell (bJ p l))] w')∨(¬ IsAt p l l.length∧v = .tuple #[.slice none 0 0,.bool false]∧St w noF [] w')
theorem sQ (rates:List (Int×Int)) (pwn ptn pag:Int) (RA:Option Addr) (rcp:Nat) (l:List Use) (A:Option Addr) (cp:Nat) (w:World) (hr:InS w noF 2 RA rates.length (scell rates)) (hrn:rates.length≤9223372036854775807) (hl:InS w noF 6 A l.length (ucell l)) (hn:l.length≤9223372036854775807) (hok:PartOk (⟨rates,pwn,ptn,pag⟩:Part) l) :
    Calls Tryz.prog 182 [.agg [.slice RA rates.length rcp,.int .i64 pwn,.int .i64 ptn,.int .i64 pag].toArray,.slice A l.length cp].toArray w (Ret (Worn w (⟨rates,pwn,ptn,pag⟩:Part) l)):=by
 refine enter Tryz.func182 rfl Tryz.ntmps182 rfl (fun a H=>?_)
 have S:=St.start w
 refine seq_list fun K1 k1=>?_
 refine aN H rfl S G G ?_;clear H a S;intro b2 _ a hb2 hbw2 S H
 refine ls 2 H<|sr 2 rfl<|sE ?_;clear H a;intro a H
 refine k1 _ _ ?_;clear k1 K1
 by_cases hA:IsAt (⟨rates,pwn,ptn,pag⟩:Part) l l.length
 ·skip
  replace H:=H.keep [1,2] rfl
  refine seq_list fun K2 k2=>?_
  refine ls 2 H<|sd ((aB eM gR rfl S (i:=0) G G))<|sr 1 rfl<|sE ?_;clear H a;intro a H
  refine aA H G G Tryz.func191 G G (fJ (pK rates pwn ptn pag RA rcp l A cp _ (hr.now S) hrn (hl.now S) hn hok) (fun _ _ ⟨n,A',c',h1,h2,h3⟩=>(⟨A',c',by rw [h1.same hA] at h2;exact h2,by rw [h1.same hA] at h3;exact h3⟩:∃ A' c',_∧_))) ?_;clear H a
  rintro _ _ a ⟨A',c',rfl,S2⟩ H
  replace S:=S.call S2;clear S2
  refine ls 5 H<|sr 5 rfl<|sE ?_;clear H a;intro a H
  refine k2 _ _ ?_;clear k2 K2
  refine wp_seq_k fun K3 k3=>?_
  try have hnl:=hn1.le
  replace H:=H.keep [1,2,6,7] rfl
  refine sS H fun K4 k4=>sr 2 rfl<|sL cX rfl<|sr 1 rfl<|sE ?_;clear H a;intro a H
  refine k4 _ ?_;clear k4 K4
  refine condL H rfl (fun hc1=>?_) (fun hc1=>?_)
  ·skip
   all_goals (exfalso;omega)
  refine wp_skip ?_
  refine k3 _ _ ?_
  refine wp_seq_k fun K5 k5=>?_
  refine sS H fun K6 k6=>sr 1 rfl<|sL cX rfl<|sd (aR G G (by unfold i64ok;omega))<|sr 1 rfl<|sE ?_;clear H a;intro a H
  refine k6 _ ?_;clear k6 K6
  refine wp_block ?_
  have hll:=hok.len
  replace S:=S.recell (i:=0) rfl (cell':=fcell (fun q=>if (l.length:Int)-2<((q:Nat):Int) then bJ (⟨rates,pwn,ptn,pag⟩:Part) l q else fwd (⟨rates,pwn,ptn,pag⟩:Part) l (q+1))) (fun q j hq hj=>by
    unfold fcell;congr 1;(try dsimp only);by_cases h1:(l.length:Int)-2<((q:Nat):Int)
    · rw [if_pos h1,lL (show q+1=l.length by omega),show q+1=l.length by omega]
    · rw [if_neg h1])
  refine loop_st (X:=Int) (R0:=_) [1,2,6] H rfl (fun i=>[(8,.int .i64 i)]) (fun i=>[ownM 88 2 A' l.length c' (fcell (fun q=>if i<((q:Nat):Int) then bJ (⟨rates,pwn,ptn,pag⟩:Part) l q else fwd (⟨rates,pwn,ptn,pag⟩:Part) l (q+1)))]) (fun g i => -2≤i∧i≤(l.length:Int)-2∧g=(i+2).toNat) (l.length) ((l.length:Int)-2) ?_ (S.sel [0,1] G G) (H.keep [8,1,2,6] rfl) ?_
  · exact ⟨by omega,by omega,by omega⟩
  clear H S a
  intro g1 x1 a w1 hp S H K7 k7
  obtain ⟨i,rfl⟩:∃ y,y=x1:=⟨_,rfl⟩
  refine wp_seq_k fun K8 k8=>?_
  refine sS H fun K9 k9=>sr 2 rfl<|sE ?_;clear H a;intro a H
  refine k9 _ ?_;clear k9 K9
  refine condG H rfl (fun hc2=>?_) (fun hc2=>?_)
  ·skip
   refine wp_skip ?_
   refine k8 _ _ ?_
   refine wp_seq_k fun K10 k10=>?_
   refine wp_block ?_
   have hu:=hok.use (k:=(i+1).toNat) (by omega);unfold useOk at hu;simp only [decide_eq_true_eq] at hu
   have hgb:=kB hok (k:=(i+1).toNat) (by omega)
   have hcls:0≤(l.getD (i+1).toNat Use.zero).cls∧(l.getD (i+1).toNat Use.zero).cls<rates.length:=by
     have:((⟨rates,pwn,ptn,pag⟩:Part).rates.length:Int)=rates.length:=rfl
     omega
   have hll:=hok.len
   replace H:=H.keep [1,2,6,8] rfl
   replace S:=S.drew
   refine seq_wt 999999 (.q 0 (.q 1 (.q 2 (.q 3 (.q 4 (.q 5 (.q 7 (.q 8 (.q 9 (.q 10 (.q 11 (.b3 6 (.b2 12 (.e 13 (.e 14 (.e 15 .nil))) 13 (.e 12 (.e 14 (.e 15 .nil)))) 12 (.b2 6 (.e 13 (.e 14 (.e 15 .nil))) 13 (.e 6 (.e 14 (.e 15 .nil)))) 13 (.b2 6 (.e 12 (.e 14 (.e 15 .nil))) 12 (.e 6 (.e 14 (.e 15 .nil)))))))))))))))) (by kernel_rfl) (by kernel_rfl) (S.sel [0,1] G G) fun K11 k11=>?_
   refine aG H G G (fun _ S=>(aB eM gR rfl S (i:=1) G G)) ?_;clear H a;intro a H
   refine aG H G G (fun _ S=>aL rfl) ?_;clear H a;intro a H
   refine aG H G G (fun _ S=>aL rfl) ?_;clear H a;intro a H
   refine aG H G G (fun _ S=>aK G G (by unfold i64ok;omega)) ?_;clear H a;intro a H
   refine aG H G G (fun _ S=>bR cX cS G G (hl.adr (by omega)) (by omega) (by omega)) ?_;clear H a;intro a H
   refine aG H G G (fun _ S=>(aV jG cS rfl S hl (by omega) (by omega))) ?_;clear H a;intro a H
   refine aG H G G (fun _ S=>aL rfl) ?_;clear H a;intro a H
   refine aG H G G (fun _ S=>aL rfl) ?_;clear H a;intro a H
   refine aG H G G (fun _ S=>aK G G (by unfold i64ok;omega)) ?_;clear H a;intro a H
   refine aG H G G (fun _ S=>bR cW aQ G G (ownM.adr S (i:=0) rfl (by omega)) (by omega) (by omega)) ?_;clear H a;intro a H
   refine aG H G G (fun _ S=>cT (vs:=[.int .i64 (bJ (⟨rates,pwn,ptn,pag⟩:Part) l (i+1).toNat).1,.int .i64 (bJ (⟨rates,pwn,ptn,pag⟩:Part) l (i+1).toNat).2]) aZ aQ rfl (kR S (i:=0) rfl (by omega) (if_pos (by omega)))) ?_;clear H a;intro a H
   refine tO G G G ?_ ?_ ?_
   ·skip
    refine aA H G G Tryz.func192 G G (fV rates pwn ptn pag RA rcp (l.getD (i+1).toNat Use.zero) _ (hr.now S) hrn hcls (by unfold i64ok;omega) (by unfold i64ok;omega)) ?_;clear H a
    rintro _ _ a ⟨rfl,S2⟩ H
    replace S:=S.call S2;clear S2
    refine wpList_nil (And.intro (Or.inr (S.sel [0,1] G G)) ?_)
    refine dZ G G ?_ ?_
    ·skip
     refine aI H rfl S bS ?_;clear H a S;intro b9 _ a hb9 hbw9 S H
     refine wpList_nil (And.intro (Or.inr (S.sel [1,2] G G)) ?_)
     refine aM rfl ?_
     refine aI H rfl S bS ?_;clear H a S;intro b10 _ a hb10 hbw10 S H
     refine wpList_nil (And.intro (Or.inr (S.sel [2,3] G G)) ?_)
     refine aM rfl ?_
     refine aD H S (i:=1) G G G G aQ G G ?_
     clear H a S;intro _ a S H
     refine wpList_nil (And.intro (Or.inr (S.sel [2,3] G G)) ?_)
     refine aM rfl ?_
     refine aD H S (i:=0) G G G G aQ G G ?_
     clear H a S;intro _ a S H
     refine wpList_nil (And.intro (Or.inr (S.sel [2,3] G G)) ?_)
     refine bC ?_
     refine k11 _ _ ?_
     clear k11 K11
     have hbw:=iO hok (k:=(i+1).toNat) (by omega)
     replace H:=H.keep [1,2,6,8,9,10] rfl
     replace S:=S.drew
     refine one_wt 22 (.q 0 (.q 1 (.q 2 (.q 3 (.q 4 (.q 5 (.q 6 (.q 7 (.q 8 (.q 9 (.q 10 (.q 11 (.q 12 (.q 13 (.q 14 (.q 15 (.q 16 (.e 17 (.q 18 (.q 19 (.p 20 (.q 21 (.e 22 .nil))))))))))))))))))))))) (by kernel_rfl) (by kernel_rfl) (S.sel [0,1,2,3] G G) ?_
     refine aG H G G (fun _ S=>aL rfl) ?_;clear H a;intro a H
     refine aG H G G (fun _ S=>aL rfl) ?_;clear H a;intro a H
     refine aG H G G (fun _ S=>aL rfl) ?_;clear H a;intro a H
     refine aG H G G (fun _ S=>aL rfl) ?_;clear H a;intro a H
     refine aG H G G (fun _ S=>bR cW aQ G G (ownM.adr S (i:=2) rfl (by omega)) (by omega) (by omega)) ?_;clear H a;intro a H
     refine aG H G G (fun _ S=>cT (vs:=[.int .i64 (fwd (⟨rates,pwn,ptn,pag⟩:Part) l (i.toNat+1)).1,.int .i64 (fwd (⟨rates,pwn,ptn,pag⟩:Part) l (i.toNat+1)).2]) aZ aQ rfl (kR S (i:=2) rfl (by omega) (if_neg (by omega)))) ?_;clear H a;intro a H
     refine aG H G G (fun _ S=>(aC bE rfl)) ?_;clear H a;intro a H
     refine aG H G G (fun _ S=>aH aE rfl (boxM.rd S (i:=0) G G)) ?_;clear H a;intro a H
     refine aG H G G (fun _ S=>(aC bB rfl)) ?_;clear H a;intro a H
     refine aG H G G (fun _ S=>aH aE rfl (boxM.rd S (i:=1) G G)) ?_;clear H a;intro a H
     refine aG H G G (fun _ S=>aR G G (by unfold i64ok;omega)) ?_;clear H a;intro a H
     refine aG H G G (fun _ S=>(aC bB rfl)) ?_;clear H a;intro a H
     refine aG H G G (fun _ S=>aH aE rfl (boxM.rd S (i:=0) G G)) ?_;clear H a;intro a H
     refine aG H G G (fun _ S=>(aC bE rfl)) ?_;clear H a;intro a H
     refine aG H G G (fun _ S=>aH aE rfl (boxM.rd S (i:=1) G G)) ?_;clear H a;intro a H
     refine aG H G G (fun _ S=>aR G G (by unfold i64ok;omega)) ?_;clear H a;intro a H
     refine aG H G G (fun _ S=>aP dI G G) ?_;clear H a;intro a H
     refine aM rfl ?_
     refine aA H G G Tryz.func193 G G (fQ (fwd (⟨rates,pwn,ptn,pag⟩:Part) l (i.toNat+1)).1 (fwd (⟨rates,pwn,ptn,pag⟩:Part) l (i.toNat+1)).2 _ _ _) ?_;clear H a
     rintro _ _ a ⟨rfl,S2⟩ H
     replace S:=S.call S2;clear S2
     refine wpList_nil (And.intro (Or.inr (S.sel [0,1,2,3] G G)) ?_)
     refine aG H G G (fun _ S=>aL rfl) ?_;clear H a;intro a H
     refine aG H G G (fun _ S=>aO G G) ?_;clear H a;intro a H
     refine bG H G G (fun _=>aO G G) ?_;clear H a;intro a H
     refine aG H G G (fun _ S=>bR cW aQ G G (ownM.adr S (i:=2) rfl (by omega)) (by omega) (by omega)) ?_;clear H a;intro a H
     refine aM rfl ?_
     refine dN H S (i:=2) (kk:=i.toNat) G G G (by omega) aQ ?_
     clear H a S;intro _ a S H
     have e9:=dS (p:=(⟨rates,pwn,ptn,pag⟩:Part)) (l:=l) (k:=i.toNat) (by omega)
     have e8:i.toNat+1=(i+1).toNat:=by omega
     rw [e8] at e9
     replace S:=S.recell (i:=2) rfl (cell':=fcell (fun q=>if i-1<((q:Nat):Int) then bJ (⟨rates,pwn,ptn,pag⟩:Part) l q else fwd (⟨rates,pwn,ptn,pag⟩:Part) l (q+1))) (fun q j hq hj=>by
       unfold fcell;congr 1;(try dsimp only);by_cases h1:q=i.toNat
       · subst h1;rw [if_pos rfl,if_pos (by omega),e9,e8]
       · rw [if_neg h1];by_cases h2:i<(q:Int)
         · rw [if_pos h2,if_pos (by omega)]
         · rw [if_neg h2,if_neg (by omega)])
     refine wpList_nil (And.intro (Or.inl rfl) ?_)
     refine bC ?_
     refine k10 _ _ ?_
     replace H:=H.keep [1,2,6,8] rfl
     refine sO H<|sr 1 rfl<|sd (aR G G (by unfold i64ok;omega))<|sr 1 rfl<|sE ?_;clear H a;intro a H
     exact k7 (g1-1) (i-1) a _ (by omega) (⟨by omega,by omega,by omega⟩) (S.sel [2,3] G G) (H.keep [8,1,2,6] rfl)
    ·skip
     refine aI H rfl S bS ?_;clear H a S;intro b10 _ a hb10 hbw10 S H
     refine wpList_nil (And.intro (Or.inr (S.sel [1,2] G G)) ?_)
     refine aM rfl ?_
     refine aI H rfl S bS ?_;clear H a S;intro b9 _ a hb9 hbw9 S H
     refine wpList_nil (And.intro (Or.inr (S.sel [2,3] G G)) ?_)
     refine aM rfl ?_
     refine aD H S (i:=0) G G G G aQ G G ?_
     clear H a S;intro _ a S H
     refine wpList_nil (And.intro (Or.inr (S.sel [2,3] G G)) ?_)
     refine aM rfl ?_
     refine aD H S (i:=1) G G G G aQ G G ?_
     clear H a S;intro _ a S H
     refine wpList_nil (And.intro (Or.inr (S.sel [2,3] G G)) ?_)
     refine bC ?_
     refine k11 _ _ ?_
     clear k11 K11
     have hbw:=iO hok (k:=(i+1).toNat) (by omega)
     replace H:=H.keep [1,2,6,8,9,10] rfl
     replace S:=S.drew
     refine one_wt 22 (.q 0 (.q 1 (.q 2 (.q 3 (.q 4 (.q 5 (.q 6 (.q 7 (.q 8 (.q 9 (.q 10 (.q 11 (.q 12 (.q 13 (.q 14 (.q 15 (.q 16 (.e 17 (.q 18 (.q 19 (.p 20 (.q 21 (.e 22 .nil))))))))))))))))))))))) (by kernel_rfl) (by kernel_rfl) (S.sel [0,1,2,3] G G) ?_
     refine aG H G G (fun _ S=>aL rfl) ?_;clear H a;intro a H
     refine aG H G G (fun _ S=>aL rfl) ?_;clear H a;intro a H
     refine aG H G G (fun _ S=>aL rfl) ?_;clear H a;intro a H
     refine aG H G G (fun _ S=>aL rfl) ?_;clear H a;intro a H
     refine aG H G G (fun _ S=>bR cW aQ G G (ownM.adr S (i:=2) rfl (by omega)) (by omega) (by omega)) ?_;clear H a;intro a H
     refine aG H G G (fun _ S=>cT (vs:=[.int .i64 (fwd (⟨rates,pwn,ptn,pag⟩:Part) l (i.toNat+1)).1,.int .i64 (fwd (⟨rates,pwn,ptn,pag⟩:Part) l (i.toNat+1)).2]) aZ aQ rfl (kR S (i:=2) rfl (by omega) (if_neg (by omega)))) ?_;clear H a;intro a H
     refine aG H G G (fun _ S=>(aC bE rfl)) ?_;clear H a;intro a H
     refine aG H G G (fun _ S=>aH aE rfl (boxM.rd S (i:=1) G G)) ?_;clear H a;intro a H
     refine aG H G G (fun _ S=>(aC bB rfl)) ?_;clear H a;intro a H
     refine aG H G G (fun _ S=>aH aE rfl (boxM.rd S (i:=0) G G)) ?_;clear H a;intro a H
     refine aG H G G (fun _ S=>aR G G (by unfold i64ok;omega)) ?_;clear H a;intro a H
     refine aG H G G (fun _ S=>(aC bB rfl)) ?_;clear H a;intro a H
     refine aG H G G (fun _ S=>aH aE rfl (boxM.rd S (i:=1) G G)) ?_;clear H a;intro a H
     refine aG H G G (fun _ S=>(aC bE rfl)) ?_;clear H a;intro a H
     refine aG H G G (fun _ S=>aH aE rfl (boxM.rd S (i:=0) G G)) ?_;clear H a;intro a H
     refine aG H G G (fun _ S=>aR G G (by unfold i64ok;omega)) ?_;clear H a;intro a H
     refine aG H G G (fun _ S=>aP dI G G) ?_;clear H a;intro a H
     refine aM rfl ?_
     refine aA H G G Tryz.func193 G G (fQ (fwd (⟨rates,pwn,ptn,pag⟩:Part) l (i.toNat+1)).1 (fwd (⟨rates,pwn,ptn,pag⟩:Part) l (i.toNat+1)).2 _ _ _) ?_;clear H a
     rintro _ _ a ⟨rfl,S2⟩ H
     replace S:=S.call S2;clear S2
     refine wpList_nil (And.intro (Or.inr (S.sel [0,1,2,3] G G)) ?_)
     refine aG H G G (fun _ S=>aL rfl) ?_;clear H a;intro a H
     refine aG H G G (fun _ S=>aO G G) ?_;clear H a;intro a H
     refine bG H G G (fun _=>aO G G) ?_;clear H a;intro a H
     refine aG H G G (fun _ S=>bR cW aQ G G (ownM.adr S (i:=2) rfl (by omega)) (by omega) (by omega)) ?_;clear H a;intro a H
     refine aM rfl ?_
     refine dN H S (i:=2) (kk:=i.toNat) G G G (by omega) aQ ?_
     clear H a S;intro _ a S H
     have e9:=dS (p:=(⟨rates,pwn,ptn,pag⟩:Part)) (l:=l) (k:=i.toNat) (by omega)
     have e8:i.toNat+1=(i+1).toNat:=by omega
     rw [e8] at e9
     replace S:=S.recell (i:=2) rfl (cell':=fcell (fun q=>if i-1<((q:Nat):Int) then bJ (⟨rates,pwn,ptn,pag⟩:Part) l q else fwd (⟨rates,pwn,ptn,pag⟩:Part) l (q+1))) (fun q j hq hj=>by
       unfold fcell;congr 1;(try dsimp only);by_cases h1:q=i.toNat
       · subst h1;rw [if_pos rfl,if_pos (by omega),e9,e8]
       · rw [if_neg h1];by_cases h2:i<(q:Int)
         · rw [if_pos h2,if_pos (by omega)]
         · rw [if_neg h2,if_neg (by omega)])
     refine wpList_nil (And.intro (Or.inl rfl) ?_)
     refine bC ?_
     refine k10 _ _ ?_
     replace H:=H.keep [1,2,6,8] rfl
     refine sO H<|sr 1 rfl<|sd (aR G G (by unfold i64ok;omega))<|sr 1 rfl<|sE ?_;clear H a;intro a H
     exact k7 (g1-1) (i-1) a _ (by omega) (⟨by omega,by omega,by omega⟩) (S.sel [2,3] G G) (H.keep [8,1,2,6] rfl)
   ·skip
    refine aI H rfl S bS ?_;clear H a S;intro b9 _ a hb9 hbw9 S H
    refine wpList_nil (And.intro (Or.inr (S.sel [1,2] G G)) ?_)
    refine dZ G G ?_ ?_
    ·skip
     refine aA H G G Tryz.func192 G G (fV rates pwn ptn pag RA rcp (l.getD (i+1).toNat Use.zero) _ (hr.now S) hrn hcls (by unfold i64ok;omega) (by unfold i64ok;omega)) ?_;clear H a
     rintro _ _ a ⟨rfl,S2⟩ H
     replace S:=S.call S2;clear S2
     refine wpList_nil (And.intro (Or.inr (S.sel [1,2] G G)) ?_)
     refine aM rfl ?_
     refine aI H rfl S bS ?_;clear H a S;intro b10 _ a hb10 hbw10 S H
     refine wpList_nil (And.intro (Or.inr (S.sel [2,3] G G)) ?_)
     refine aM rfl ?_
     refine aD H S (i:=1) G G G G aQ G G ?_
     clear H a S;intro _ a S H
     refine wpList_nil (And.intro (Or.inr (S.sel [2,3] G G)) ?_)
     refine aM rfl ?_
     refine aD H S (i:=0) G G G G aQ G G ?_
     clear H a S;intro _ a S H
     refine wpList_nil (And.intro (Or.inr (S.sel [2,3] G G)) ?_)
     refine bC ?_
     refine k11 _ _ ?_
     clear k11 K11
     have hbw:=iO hok (k:=(i+1).toNat) (by omega)
     replace H:=H.keep [1,2,6,8,9,10] rfl
     replace S:=S.drew
     refine one_wt 22 (.q 0 (.q 1 (.q 2 (.q 3 (.q 4 (.q 5 (.q 6 (.q 7 (.q 8 (.q 9 (.q 10 (.q 11 (.q 12 (.q 13 (.q 14 (.q 15 (.q 16 (.e 17 (.q 18 (.q 19 (.p 20 (.q 21 (.e 22 .nil))))))))))))))))))))))) (by kernel_rfl) (by kernel_rfl) (S.sel [0,1,2,3] G G) ?_
     refine aG H G G (fun _ S=>aL rfl) ?_;clear H a;intro a H
     refine aG H G G (fun _ S=>aL rfl) ?_;clear H a;intro a H
     refine aG H G G (fun _ S=>aL rfl) ?_;clear H a;intro a H
     refine aG H G G (fun _ S=>aL rfl) ?_;clear H a;intro a H
     refine aG H G G (fun _ S=>bR cW aQ G G (ownM.adr S (i:=2) rfl (by omega)) (by omega) (by omega)) ?_;clear H a;intro a H
     refine aG H G G (fun _ S=>cT (vs:=[.int .i64 (fwd (⟨rates,pwn,ptn,pag⟩:Part) l (i.toNat+1)).1,.int .i64 (fwd (⟨rates,pwn,ptn,pag⟩:Part) l (i.toNat+1)).2]) aZ aQ rfl (kR S (i:=2) rfl (by omega) (if_neg (by omega)))) ?_;clear H a;intro a H
     refine aG H G G (fun _ S=>(aC bE rfl)) ?_;clear H a;intro a H
     refine aG H G G (fun _ S=>aH aE rfl (boxM.rd S (i:=0) G G)) ?_;clear H a;intro a H
     refine aG H G G (fun _ S=>(aC bB rfl)) ?_;clear H a;intro a H
     refine aG H G G (fun _ S=>aH aE rfl (boxM.rd S (i:=1) G G)) ?_;clear H a;intro a H
     refine aG H G G (fun _ S=>aR G G (by unfold i64ok;omega)) ?_;clear H a;intro a H
     refine aG H G G (fun _ S=>(aC bB rfl)) ?_;clear H a;intro a H
     refine aG H G G (fun _ S=>aH aE rfl (boxM.rd S (i:=0) G G)) ?_;clear H a;intro a H
     refine aG H G G (fun _ S=>(aC bE rfl)) ?_;clear H a;intro a H
     refine aG H G G (fun _ S=>aH aE rfl (boxM.rd S (i:=1) G G)) ?_;clear H a;intro a H
     refine aG H G G (fun _ S=>aR G G (by unfold i64ok;omega)) ?_;clear H a;intro a H
     refine aG H G G (fun _ S=>aP dI G G) ?_;clear H a;intro a H
     refine aM rfl ?_
     refine aA H G G Tryz.func193 G G (fQ (fwd (⟨rates,pwn,ptn,pag⟩:Part) l (i.toNat+1)).1 (fwd (⟨rates,pwn,ptn,pag⟩:Part) l (i.toNat+1)).2 _ _ _) ?_;clear H a
     rintro _ _ a ⟨rfl,S2⟩ H
     replace S:=S.call S2;clear S2
     refine wpList_nil (And.intro (Or.inr (S.sel [0,1,2,3] G G)) ?_)
     refine aG H G G (fun _ S=>aL rfl) ?_;clear H a;intro a H
     refine aG H G G (fun _ S=>aO G G) ?_;clear H a;intro a H
     refine bG H G G (fun _=>aO G G) ?_;clear H a;intro a H
     refine aG H G G (fun _ S=>bR cW aQ G G (ownM.adr S (i:=2) rfl (by omega)) (by omega) (by omega)) ?_;clear H a;intro a H
     refine aM rfl ?_
     refine dN H S (i:=2) (kk:=i.toNat) G G G (by omega) aQ ?_
     clear H a S;intro _ a S H
     have e9:=dS (p:=(⟨rates,pwn,ptn,pag⟩:Part)) (l:=l) (k:=i.toNat) (by omega)
     have e8:i.toNat+1=(i+1).toNat:=by omega
     rw [e8] at e9
     replace S:=S.recell (i:=2) rfl (cell':=fcell (fun q=>if i-1<((q:Nat):Int) then bJ (⟨rates,pwn,ptn,pag⟩:Part) l q else fwd (⟨rates,pwn,ptn,pag⟩:Part) l (q+1))) (fun q j hq hj=>by
       unfold fcell;congr 1;(try dsimp only);by_cases h1:q=i.toNat
       · subst h1;rw [if_pos rfl,if_pos (by omega),e9,e8]
       · rw [if_neg h1];by_cases h2:i<(q:Int)
         · rw [if_pos h2,if_pos (by omega)]
         · rw [if_neg h2,if_neg (by omega)])
     refine wpList_nil (And.intro (Or.inl rfl) ?_)
     refine bC ?_
     refine k10 _ _ ?_
     replace H:=H.keep [1,2,6,8] rfl
     refine sO H<|sr 1 rfl<|sd (aR G G (by unfold i64ok;omega))<|sr 1 rfl<|sE ?_;clear H a;intro a H
     exact k7 (g1-1) (i-1) a _ (by omega) (⟨by omega,by omega,by omega⟩) (S.sel [2,3] G G) (H.keep [8,1,2,6] rfl)
    ·skip
     refine aI H rfl S bS ?_;clear H a S;intro b10 _ a hb10 hbw10 S H
     refine wpList_nil (And.intro (Or.inr (S.sel [2,3] G G)) ?_)
     refine aM rfl ?_
     refine aA H G G Tryz.func192 G G (fV rates pwn ptn pag RA rcp (l.getD (i+1).toNat Use.zero) _ (hr.now S) hrn hcls (by unfold i64ok;omega) (by unfold i64ok;omega)) ?_;clear H a
     rintro _ _ a ⟨rfl,S2⟩ H
     replace S:=S.call S2;clear S2
     refine wpList_nil (And.intro (Or.inr (S.sel [2,3] G G)) ?_)
     refine aM rfl ?_
     refine aD H S (i:=1) G G G G aQ G G ?_
     clear H a S;intro _ a S H
     refine wpList_nil (And.intro (Or.inr (S.sel [2,3] G G)) ?_)
     refine aM rfl ?_
     refine aD H S (i:=0) G G G G aQ G G ?_
     clear H a S;intro _ a S H
     refine wpList_nil (And.intro (Or.inr (S.sel [2,3] G G)) ?_)
     refine bC ?_
     refine k11 _ _ ?_
     clear k11 K11
     have hbw:=iO hok (k:=(i+1).toNat) (by omega)
     replace H:=H.keep [1,2,6,8,9,10] rfl
     replace S:=S.drew
     refine one_wt 22 (.q 0 (.q 1 (.q 2 (.q 3 (.q 4 (.q 5 (.q 6 (.q 7 (.q 8 (.q 9 (.q 10 (.q 11 (.q 12 (.q 13 (.q 14 (.q 15 (.q 16 (.e 17 (.q 18 (.q 19 (.p 20 (.q 21 (.e 22 .nil))))))))))))))))))))))) (by kernel_rfl) (by kernel_rfl) (S.sel [0,1,2,3] G G) ?_
     refine aG H G G (fun _ S=>aL rfl) ?_;clear H a;intro a H
     refine aG H G G (fun _ S=>aL rfl) ?_;clear H a;intro a H
     refine aG H G G (fun _ S=>aL rfl) ?_;clear H a;intro a H
     refine aG H G G (fun _ S=>aL rfl) ?_;clear H a;intro a H
     refine aG H G G (fun _ S=>bR cW aQ G G (ownM.adr S (i:=2) rfl (by omega)) (by omega) (by omega)) ?_;clear H a;intro a H
     refine aG H G G (fun _ S=>cT (vs:=[.int .i64 (fwd (⟨rates,pwn,ptn,pag⟩:Part) l (i.toNat+1)).1,.int .i64 (fwd (⟨rates,pwn,ptn,pag⟩:Part) l (i.toNat+1)).2]) aZ aQ rfl (kR S (i:=2) rfl (by omega) (if_neg (by omega)))) ?_;clear H a;intro a H
     refine aG H G G (fun _ S=>(aC bE rfl)) ?_;clear H a;intro a H
     refine aG H G G (fun _ S=>aH aE rfl (boxM.rd S (i:=0) G G)) ?_;clear H a;intro a H
     refine aG H G G (fun _ S=>(aC bB rfl)) ?_;clear H a;intro a H
     refine aG H G G (fun _ S=>aH aE rfl (boxM.rd S (i:=1) G G)) ?_;clear H a;intro a H
     refine aG H G G (fun _ S=>aR G G (by unfold i64ok;omega)) ?_;clear H a;intro a H
     refine aG H G G (fun _ S=>(aC bB rfl)) ?_;clear H a;intro a H
     refine aG H G G (fun _ S=>aH aE rfl (boxM.rd S (i:=0) G G)) ?_;clear H a;intro a H
     refine aG H G G (fun _ S=>(aC bE rfl)) ?_;clear H a;intro a H
     refine aG H G G (fun _ S=>aH aE rfl (boxM.rd S (i:=1) G G)) ?_;clear H a;intro a H
     refine aG H G G (fun _ S=>aR G G (by unfold i64ok;omega)) ?_;clear H a;intro a H
     refine aG H G G (fun _ S=>aP dI G G) ?_;clear H a;intro a H
     refine aM rfl ?_
     refine aA H G G Tryz.func193 G G (fQ (fwd (⟨rates,pwn,ptn,pag⟩:Part) l (i.toNat+1)).1 (fwd (⟨rates,pwn,ptn,pag⟩:Part) l (i.toNat+1)).2 _ _ _) ?_;clear H a
     rintro _ _ a ⟨rfl,S2⟩ H
     replace S:=S.call S2;clear S2
     refine wpList_nil (And.intro (Or.inr (S.sel [0,1,2,3] G G)) ?_)
     refine aG H G G (fun _ S=>aL rfl) ?_;clear H a;intro a H
     refine aG H G G (fun _ S=>aO G G) ?_;clear H a;intro a H
     refine bG H G G (fun _=>aO G G) ?_;clear H a;intro a H
     refine aG H G G (fun _ S=>bR cW aQ G G (ownM.adr S (i:=2) rfl (by omega)) (by omega) (by omega)) ?_;clear H a;intro a H
     refine aM rfl ?_
     refine dN H S (i:=2) (kk:=i.toNat) G G G (by omega) aQ ?_
     clear H a S;intro _ a S H
     have e9:=dS (p:=(⟨rates,pwn,ptn,pag⟩:Part)) (l:=l) (k:=i.toNat) (by omega)
     have e8:i.toNat+1=(i+1).toNat:=by omega
     rw [e8] at e9
     replace S:=S.recell (i:=2) rfl (cell':=fcell (fun q=>if i-1<((q:Nat):Int) then bJ (⟨rates,pwn,ptn,pag⟩:Part) l q else fwd (⟨rates,pwn,ptn,pag⟩:Part) l (q+1))) (fun q j hq hj=>by
       unfold fcell;congr 1;(try dsimp only);by_cases h1:q=i.toNat
       · subst h1;rw [if_pos rfl,if_pos (by omega),e9,e8]
       · rw [if_neg h1];by_cases h2:i<(q:Int)
         · rw [if_pos h2,if_pos (by omega)]
         · rw [if_neg h2,if_neg (by omega)])
     refine wpList_nil (And.intro (Or.inl rfl) ?_)
     refine bC ?_
     refine k10 _ _ ?_
     replace H:=H.keep [1,2,6,8] rfl
     refine sO H<|sr 1 rfl<|sd (aR G G (by unfold i64ok;omega))<|sr 1 rfl<|sE ?_;clear H a;intro a H
     exact k7 (g1-1) (i-1) a _ (by omega) (⟨by omega,by omega,by omega⟩) (S.sel [2,3] G G) (H.keep [8,1,2,6] rfl)
   ·skip
    refine aI H rfl S bS ?_;clear H a S;intro b10 _ a hb10 hbw10 S H
    refine wpList_nil (And.intro (Or.inr (S.sel [1,2] G G)) ?_)
    refine dZ G G ?_ ?_
    ·skip
     refine aA H G G Tryz.func192 G G (fV rates pwn ptn pag RA rcp (l.getD (i+1).toNat Use.zero) _ (hr.now S) hrn hcls (by unfold i64ok;omega) (by unfold i64ok;omega)) ?_;clear H a
     rintro _ _ a ⟨rfl,S2⟩ H
     replace S:=S.call S2;clear S2
     refine wpList_nil (And.intro (Or.inr (S.sel [1,2] G G)) ?_)
     refine aM rfl ?_
     refine aI H rfl S bS ?_;clear H a S;intro b9 _ a hb9 hbw9 S H
     refine wpList_nil (And.intro (Or.inr (S.sel [2,3] G G)) ?_)
     refine aM rfl ?_
     refine aD H S (i:=0) G G G G aQ G G ?_
     clear H a S;intro _ a S H
     refine wpList_nil (And.intro (Or.inr (S.sel [2,3] G G)) ?_)
     refine aM rfl ?_
     refine aD H S (i:=1) G G G G aQ G G ?_
     clear H a S;intro _ a S H
     refine wpList_nil (And.intro (Or.inr (S.sel [2,3] G G)) ?_)
     refine bC ?_
     refine k11 _ _ ?_
     clear k11 K11
     have hbw:=iO hok (k:=(i+1).toNat) (by omega)
     replace H:=H.keep [1,2,6,8,9,10] rfl
     replace S:=S.drew
     refine one_wt 22 (.q 0 (.q 1 (.q 2 (.q 3 (.q 4 (.q 5 (.q 6 (.q 7 (.q 8 (.q 9 (.q 10 (.q 11 (.q 12 (.q 13 (.q 14 (.q 15 (.q 16 (.e 17 (.q 18 (.q 19 (.p 20 (.q 21 (.e 22 .nil))))))))))))))))))))))) (by kernel_rfl) (by kernel_rfl) (S.sel [0,1,2,3] G G) ?_
     refine aG H G G (fun _ S=>aL rfl) ?_;clear H a;intro a H
     refine aG H G G (fun _ S=>aL rfl) ?_;clear H a;intro a H
     refine aG H G G (fun _ S=>aL rfl) ?_;clear H a;intro a H
     refine aG H G G (fun _ S=>aL rfl) ?_;clear H a;intro a H
     refine aG H G G (fun _ S=>bR cW aQ G G (ownM.adr S (i:=2) rfl (by omega)) (by omega) (by omega)) ?_;clear H a;intro a H
     refine aG H G G (fun _ S=>cT (vs:=[.int .i64 (fwd (⟨rates,pwn,ptn,pag⟩:Part) l (i.toNat+1)).1,.int .i64 (fwd (⟨rates,pwn,ptn,pag⟩:Part) l (i.toNat+1)).2]) aZ aQ rfl (kR S (i:=2) rfl (by omega) (if_neg (by omega)))) ?_;clear H a;intro a H
     refine aG H G G (fun _ S=>(aC bE rfl)) ?_;clear H a;intro a H
     refine aG H G G (fun _ S=>aH aE rfl (boxM.rd S (i:=1) G G)) ?_;clear H a;intro a H
     refine aG H G G (fun _ S=>(aC bB rfl)) ?_;clear H a;intro a H
     refine aG H G G (fun _ S=>aH aE rfl (boxM.rd S (i:=0) G G)) ?_;clear H a;intro a H
     refine aG H G G (fun _ S=>aR G G (by unfold i64ok;omega)) ?_;clear H a;intro a H
     refine aG H G G (fun _ S=>(aC bB rfl)) ?_;clear H a;intro a H
     refine aG H G G (fun _ S=>aH aE rfl (boxM.rd S (i:=1) G G)) ?_;clear H a;intro a H
     refine aG H G G (fun _ S=>(aC bE rfl)) ?_;clear H a;intro a H
     refine aG H G G (fun _ S=>aH aE rfl (boxM.rd S (i:=0) G G)) ?_;clear H a;intro a H
     refine aG H G G (fun _ S=>aR G G (by unfold i64ok;omega)) ?_;clear H a;intro a H
     refine aG H G G (fun _ S=>aP dI G G) ?_;clear H a;intro a H
     refine aM rfl ?_
     refine aA H G G Tryz.func193 G G (fQ (fwd (⟨rates,pwn,ptn,pag⟩:Part) l (i.toNat+1)).1 (fwd (⟨rates,pwn,ptn,pag⟩:Part) l (i.toNat+1)).2 _ _ _) ?_;clear H a
     rintro _ _ a ⟨rfl,S2⟩ H
     replace S:=S.call S2;clear S2
     refine wpList_nil (And.intro (Or.inr (S.sel [0,1,2,3] G G)) ?_)
     refine aG H G G (fun _ S=>aL rfl) ?_;clear H a;intro a H
     refine aG H G G (fun _ S=>aO G G) ?_;clear H a;intro a H
     refine bG H G G (fun _=>aO G G) ?_;clear H a;intro a H
     refine aG H G G (fun _ S=>bR cW aQ G G (ownM.adr S (i:=2) rfl (by omega)) (by omega) (by omega)) ?_;clear H a;intro a H
     refine aM rfl ?_
     refine dN H S (i:=2) (kk:=i.toNat) G G G (by omega) aQ ?_
     clear H a S;intro _ a S H
     have e9:=dS (p:=(⟨rates,pwn,ptn,pag⟩:Part)) (l:=l) (k:=i.toNat) (by omega)
     have e8:i.toNat+1=(i+1).toNat:=by omega
     rw [e8] at e9
     replace S:=S.recell (i:=2) rfl (cell':=fcell (fun q=>if i-1<((q:Nat):Int) then bJ (⟨rates,pwn,ptn,pag⟩:Part) l q else fwd (⟨rates,pwn,ptn,pag⟩:Part) l (q+1))) (fun q j hq hj=>by
       unfold fcell;congr 1;(try dsimp only);by_cases h1:q=i.toNat
       · subst h1;rw [if_pos rfl,if_pos (by omega),e9,e8]
       · rw [if_neg h1];by_cases h2:i<(q:Int)
         · rw [if_pos h2,if_pos (by omega)]
         · rw [if_neg h2,if_neg (by omega)])
     refine wpList_nil (And.intro (Or.inl rfl) ?_)
     refine bC ?_
     refine k10 _ _ ?_
     replace H:=H.keep [1,2,6,8] rfl
     refine sO H<|sr 1 rfl<|sd (aR G G (by unfold i64ok;omega))<|sr 1 rfl<|sE ?_;clear H a;intro a H
     exact k7 (g1-1) (i-1) a _ (by omega) (⟨by omega,by omega,by omega⟩) (S.sel [2,3] G G) (H.keep [8,1,2,6] rfl)
    ·skip
     refine aI H rfl S bS ?_;clear H a S;intro b9 _ a hb9 hbw9 S H
     refine wpList_nil (And.intro (Or.inr (S.sel [2,3] G G)) ?_)
     refine aM rfl ?_
     refine aA H G G Tryz.func192 G G (fV rates pwn ptn pag RA rcp (l.getD (i+1).toNat Use.zero) _ (hr.now S) hrn hcls (by unfold i64ok;omega) (by unfold i64ok;omega)) ?_;clear H a
     rintro _ _ a ⟨rfl,S2⟩ H
     replace S:=S.call S2;clear S2
     refine wpList_nil (And.intro (Or.inr (S.sel [2,3] G G)) ?_)
     refine aM rfl ?_
     refine aD H S (i:=0) G G G G aQ G G ?_
     clear H a S;intro _ a S H
     refine wpList_nil (And.intro (Or.inr (S.sel [2,3] G G)) ?_)
     refine aM rfl ?_
     refine aD H S (i:=1) G G G G aQ G G ?_
     clear H a S;intro _ a S H
     refine wpList_nil (And.intro (Or.inr (S.sel [2,3] G G)) ?_)
     refine bC ?_
     refine k11 _ _ ?_
     clear k11 K11
     have hbw:=iO hok (k:=(i+1).toNat) (by omega)
     replace H:=H.keep [1,2,6,8,9,10] rfl
     replace S:=S.drew
     refine one_wt 22 (.q 0 (.q 1 (.q 2 (.q 3 (.q 4 (.q 5 (.q 6 (.q 7 (.q 8 (.q 9 (.q 10 (.q 11 (.q 12 (.q 13 (.q 14 (.q 15 (.q 16 (.e 17 (.q 18 (.q 19 (.p 20 (.q 21 (.e 22 .nil))))))))))))))))))))))) (by kernel_rfl) (by kernel_rfl) (S.sel [0,1,2,3] G G) ?_
     refine aG H G G (fun _ S=>aL rfl) ?_;clear H a;intro a H
     refine aG H G G (fun _ S=>aL rfl) ?_;clear H a;intro a H
     refine aG H G G (fun _ S=>aL rfl) ?_;clear H a;intro a H
     refine aG H G G (fun _ S=>aL rfl) ?_;clear H a;intro a H
     refine aG H G G (fun _ S=>bR cW aQ G G (ownM.adr S (i:=2) rfl (by omega)) (by omega) (by omega)) ?_;clear H a;intro a H
     refine aG H G G (fun _ S=>cT (vs:=[.int .i64 (fwd (⟨rates,pwn,ptn,pag⟩:Part) l (i.toNat+1)).1,.int .i64 (fwd (⟨rates,pwn,ptn,pag⟩:Part) l (i.toNat+1)).2]) aZ aQ rfl (kR S (i:=2) rfl (by omega) (if_neg (by omega)))) ?_;clear H a;intro a H
     refine aG H G G (fun _ S=>(aC bE rfl)) ?_;clear H a;intro a H
     refine aG H G G (fun _ S=>aH aE rfl (boxM.rd S (i:=1) G G)) ?_;clear H a;intro a H
     refine aG H G G (fun _ S=>(aC bB rfl)) ?_;clear H a;intro a H
     refine aG H G G (fun _ S=>aH aE rfl (boxM.rd S (i:=0) G G)) ?_;clear H a;intro a H
     refine aG H G G (fun _ S=>aR G G (by unfold i64ok;omega)) ?_;clear H a;intro a H
     refine aG H G G (fun _ S=>(aC bB rfl)) ?_;clear H a;intro a H
     refine aG H G G (fun _ S=>aH aE rfl (boxM.rd S (i:=1) G G)) ?_;clear H a;intro a H
     refine aG H G G (fun _ S=>(aC bE rfl)) ?_;clear H a;intro a H
     refine aG H G G (fun _ S=>aH aE rfl (boxM.rd S (i:=0) G G)) ?_;clear H a;intro a H
     refine aG H G G (fun _ S=>aR G G (by unfold i64ok;omega)) ?_;clear H a;intro a H
     refine aG H G G (fun _ S=>aP dI G G) ?_;clear H a;intro a H
     refine aM rfl ?_
     refine aA H G G Tryz.func193 G G (fQ (fwd (⟨rates,pwn,ptn,pag⟩:Part) l (i.toNat+1)).1 (fwd (⟨rates,pwn,ptn,pag⟩:Part) l (i.toNat+1)).2 _ _ _) ?_;clear H a
     rintro _ _ a ⟨rfl,S2⟩ H
     replace S:=S.call S2;clear S2
     refine wpList_nil (And.intro (Or.inr (S.sel [0,1,2,3] G G)) ?_)
     refine aG H G G (fun _ S=>aL rfl) ?_;clear H a;intro a H
     refine aG H G G (fun _ S=>aO G G) ?_;clear H a;intro a H
     refine bG H G G (fun _=>aO G G) ?_;clear H a;intro a H
     refine aG H G G (fun _ S=>bR cW aQ G G (ownM.adr S (i:=2) rfl (by omega)) (by omega) (by omega)) ?_;clear H a;intro a H
     refine aM rfl ?_
     refine dN H S (i:=2) (kk:=i.toNat) G G G (by omega) aQ ?_
     clear H a S;intro _ a S H
     have e9:=dS (p:=(⟨rates,pwn,ptn,pag⟩:Part)) (l:=l) (k:=i.toNat) (by omega)
     have e8:i.toNat+1=(i+1).toNat:=by omega
     rw [e8] at e9
     replace S:=S.recell (i:=2) rfl (cell':=fcell (fun q=>if i-1<((q:Nat):Int) then bJ (⟨rates,pwn,ptn,pag⟩:Part) l q else fwd (⟨rates,pwn,ptn,pag⟩:Part) l (q+1))) (fun q j hq hj=>by
       unfold fcell;congr 1;(try dsimp only);by_cases h1:q=i.toNat
       · subst h1;rw [if_pos rfl,if_pos (by omega),e9,e8]
       · rw [if_neg h1];by_cases h2:i<(q:Int)
         · rw [if_pos h2,if_pos (by omega)]
         · rw [if_neg h2,if_neg (by omega)])
     refine wpList_nil (And.intro (Or.inl rfl) ?_)
     refine bC ?_
     refine k10 _ _ ?_
     replace H:=H.keep [1,2,6,8] rfl
     refine sO H<|sr 1 rfl<|sd (aR G G (by unfold i64ok;omega))<|sr 1 rfl<|sE ?_;clear H a;intro a H
     exact k7 (g1-1) (i-1) a _ (by omega) (⟨by omega,by omega,by omega⟩) (S.sel [2,3] G G) (H.keep [8,1,2,6] rfl)
  refine wp_exit ?_
  refine k5 _ _ ?_
  refine sS H fun K24 k24=>sr 3 rfl<|sE ?_;clear H a;intro a H
  refine k24 _ ?_;clear k24 K24
  refine wp_ret ?_
  refine ret2 (fn:=Tryz.f182) rfl H G G ?_
  refine .inl ⟨hA,A',c',rfl,?_⟩
  replace S:=S.recell (i:=0) rfl (cell':=fcell (bJ (⟨rates,pwn,ptn,pag⟩:Part) l)) (fun q j hq hj=>by unfold fcell;congr 1;exact if_pos (by omega))
  exact (S.sel [0] G G)
 replace H:=H.keep [1,2] rfl
 refine seq_list fun K25 k25=>?_
 refine ls 2 H<|sd ((aB eM gR rfl S (i:=0) G G))<|sr 1 rfl<|sE ?_;clear H a;intro a H
 refine aA H G G Tryz.func191 G G (pK rates pwn ptn pag RA rcp l A cp _ (hr.now S) hrn (hl.now S) hn hok) ?_;clear H a
 rintro _ _ a ⟨n,A',c',hn1,rfl,S2⟩ H
 replace S:=S.call S2;clear S2
 refine ls 5 H<|sr 5 rfl<|sE ?_;clear H a;intro a H
 refine k25 _ _ ?_;clear k25 K25
 refine wp_seq_k fun K26 k26=>?_
 try have hnl:=hn1.le
 replace H:=H.keep [1,2,6,7] rfl
 refine sS H fun K27 k27=>sr 2 rfl<|sL cX rfl<|sr 1 rfl<|sE ?_;clear H a;intro a H
 refine k27 _ ?_;clear k27 K27
 refine condL H rfl (fun hc3=>?_) (fun hc3=>?_)
 ·skip
  refine sS H fun K28 k28=>sr 2 rfl<|sE ?_;clear H a;intro a H
  refine k28 _ ?_;clear k28 K28
  refine wp_ret ?_
  refine ret2 (fn:=Tryz.f182) rfl H G G ?_
  exact .inr ⟨hA,rfl,(S.sel [] G G)⟩
 exfalso
 have hnn:n=l.length:=by omega
 exact hA (hnn ▸ hn1)
end
section
theorem Kh {w:World} {p:Part} {l:List Use} {v:Value} {w':World} (hA:IsAt p l l.length) (h:Worn w p l v w'):∃ A' c',v = .tuple #[.slice A' l.length c',.bool true]∧St w noF [ownM 88 2 A' l.length c' (fcell (bJ p l))] w':=by
  rcases h with ⟨_,h⟩|⟨h,_⟩
  · exact h
  · exact absurd hA h
theorem Nu {w:World} {p:Part} {l:List Use} {v:Value} {w':World} (hA:¬ IsAt p l l.length) (h:Worn w p l v w'):v = .tuple #[.slice none 0 0,.bool false]∧St w noF [] w':=by
  rcases h with ⟨h,_⟩|⟨_,h⟩
  · exact absurd h hA
  · exact h
end
section
theorem oD {n:Nat} {l:List Use}:∀ {k:Nat},dJ n l k=true→0≤prevD l k:=by
  intro k
  induction k with
  | zero=>intro _;exact Int.le_refl _
  | succ k ih=>
    intro h
    unfold dJ at h
    rw [gG (n:=0),Bool.and_eq_true] at h
    have h1:=ih h.1
    have h2:=h.2
    unfold useOk at h2
    simp only [decide_eq_true_eq] at h2
    show 0≤(l.getD k Use.zero).day
    omega
def FwdR (w:World) (p:Part) (l:List Use) (v:Value) (w':World):Prop:=
  (atN p l=l.length∧∃ A' c',v = .tuple #[.slice A' l.length c',.int .i64 (-1)]∧St w noF [ownM 88 2 A' l.length c' (fcell fun q=>fwd p l (q+1))] w')∨(atN p l<l.length∧v = .tuple #[.slice none 0 0,.int .i64 (atN p l:Int)]∧St w noF [] w')
theorem Ki {w:World} {p:Part} {l:List Use} {v:Value} {w':World} (hA:atN p l=l.length) (h:FwdR w p l v w'):∃ A' c',v = .tuple #[.slice A' l.length c',.int .i64 (-1)]∧St w noF [ownM 88 2 A' l.length c' (fcell fun q=>fwd p l (q+1))] w':=by
  rcases h with ⟨_,h⟩|⟨h,_⟩
  · exact h
  · omega
theorem Nv {w:World} {p:Part} {l:List Use} {v:Value} {w':World} (hA:atN p l<l.length) (h:FwdR w p l v w'):v = .tuple #[.slice none 0 0,.int .i64 (atN p l:Int)]∧St w noF [] w':=by
  rcases h with ⟨h,_⟩|⟨_,h⟩
  · omega
  · exact h
def WearR (w:World) (p:Part) (l:List Use) (v:Value) (w':World):Prop:=
  (wearE p l=0∧∃ A' c',v = .tuple #[.slice A' l.length c',.int .i64 0]∧St w noF [ownM 88 2 A' l.length c' (fcell (bJ p l))] w')∨(wearE p l≠0∧v = .tuple #[.slice none 0 0,.int .i64 (wearE p l)]∧St w noF [] w')
theorem Fs {w:World} {p:Part} {l:List Use} {v:Value} {w':World} (hA:wearE p l=0) (h:WearR w p l v w'):∃ A' c',v = .tuple #[.slice A' l.length c',.int .i64 0]∧St w noF [ownM 88 2 A' l.length c' (fcell (bJ p l))] w':=by
  rcases h with ⟨_,h⟩|⟨h,_⟩
  · exact h
  · exact absurd hA h
theorem Kj {w:World} {p:Part} {l:List Use} {v:Value} {w':World} (hA:wearE p l≠0) (h:WearR w p l v w'):v = .tuple #[.slice none 0 0,.int .i64 (wearE p l)]∧St w noF [] w':=by
  rcases h with ⟨h,_⟩|⟨_,h⟩
  · exact absurd h hA
  · exact h
theorem mM (rates:List (Int×Int)) (pwn ptn pag:Int) (RA:Option Addr) (rcp:Nat) (l:List Use) (A:Option Addr) (cp:Nat) (w:World) (hr:InS w noF 2 RA rates.length (scell rates)) (hrn:rates.length≤9223372036854775807) (hl:InS w noF 6 A l.length (ucell l)) (hn:l.length≤9223372036854775807) :
    Calls Tryz.prog 126 [.agg [.slice RA rates.length rcp,.int .i64 pwn,.int .i64 ptn,.int .i64 pag].toArray,.slice A l.length cp].toArray w (Ret (fun v w'=>v = .int .i64 (bX (⟨rates,pwn,ptn,pag⟩:Part) l)∧St w noF [] w')):=by
 refine enter Tryz.func126 rfl Tryz.ntmps126 rfl (fun a H=>?_)
 have S:=St.start w
 refine seq_list fun K1 k1=>?_
 refine aN H rfl S G G ?_;clear H a S;intro b2 _ a hb2 hbw2 S H
 refine ls 1 H<|sr 1 rfl<|sE ?_;clear H a;intro a H
 refine k1 _ _ ?_;clear k1 K1
 refine wp_seq_k fun K2 k2=>?_
 replace H:=H.keep [1,2] rfl
 refine sS H fun K3 k3=>sf eX rfl<|sl S 0 gU G G G<|sL cW rfl<|sc rfl Tryz.func158 G G (gJ _ _ _ _)<|sr 2 rfl<|sg 4 5 13 17 false G G (fun hg6=>by
     have hq6:=hg6;try simp only [o1,o2,o3,o4,o5,o6,o7,o8,o9,oa] at hq6
     exact sy hg6<|sf vF rfl<|sy hg6<|sl S 0 aE G G G<|sy hg6<|sc rfl Tryz.func158 G G (gJ _ _ _ _)<|sy hg6<|sr 1 rfl<|sz 4 G G G)<|so G G G<|sr 1 rfl<|sg 4 11 19 23 false G G (fun hg12=>by
     have hq12:=hg12;try simp only [o1,o2,o3,o4,o5,o6,o7,o8,o9,oa] at hq12
     exact sy hg12<|sf nM rfl<|sy hg12<|sl S 0 aE G G G<|sy hg12<|sc rfl Tryz.func158 G G (gJ _ _ _ _)<|sy hg12<|sr 1 rfl<|sz 4 G G G)<|so G G G<|sr 1 rfl<|sg 4 17 25 29 false G G (fun hg18=>by
     have hq18:=hg18;try simp only [o1,o2,o3,o4,o5,o6,o7,o8,o9,oa] at hq18
     exact sy hg18<|sf pU rfl<|sy hg18<|sl S 0 aE G G G<|sy hg18<|sc rfl Tryz.func158 G G (gJ _ _ _ _)<|sy hg18<|sr 1 rfl<|sz 4 G G G)<|so G G G<|sE ?_;clear H a;intro a H
 refine k3 _ ?_;clear k3 K3
 refine cond_ H rfl (fun hc1=>?_) (fun hc1=>?_)
 ·skip
  try simp only [o1,o2,o3,o4,o5,o6,o7,o8,o9,oa] at hc1
  replace H:=H.keep [] rfl
  refine sS H fun K4 k4=>sr 1 rfl<|sE ?_;clear H a;intro a H
  refine k4 _ ?_;clear k4 K4
  refine wp_ret ?_
  refine ret1 (fn:=Tryz.f126) rfl H rfl ?_
  refine ⟨?_,(S.sel [] G G)⟩;unfold bX;rw [if_neg (by unfold eZ;simp only [decide_eq_true_eq];omega)]
 try simp only [o1,o2,o3,o4,o5,o6,o7,o8,o9,oa] at hc1
 refine wp_skip ?_
 refine k2 _ _ ?_
 refine wp_seq_k fun K5 k5=>?_
 have hhd:eZ (⟨rates,pwn,ptn,pag⟩:Part)=true:=by unfold eZ;simp only [decide_eq_true_eq];omega
 refine sS H fun K6 k6=>sr 1 rfl<|sE ?_;clear H a;intro a H
 refine k6 _ ?_;clear k6 K6
 refine wp_block ?_
 refine loop_st (X:=Nat) (R0:=_) [1,2] H rfl (fun k=>[(5,.int .i64 (k:Int))]) (fun k=>[]) (fun g k=>k≤rates.length∧g+k=rates.length∧(rates.take k).all gH=true) (rates.length) 0 ?_ (S.sel [0] G G) (H.keep [5,1,2] rfl) ?_
 · exact ⟨by omega,by omega,by simp⟩
 clear H S a
 intro g1 x1 a w1 hp S H K7 k7
 obtain ⟨k,rfl⟩:∃ y,y=x1:=⟨_,rfl⟩
 refine wp_seq_k fun K8 k8=>?_
 refine sS H fun K9 k9=>sr 1 rfl<|sf eX rfl<|sl S 0 gU G G G<|sL cW rfl<|sr 1 rfl<|sE ?_;clear H a;intro a H
 refine k9 _ ?_;clear k9 K9
 refine condL H rfl (fun hc2=>?_) (fun hc2=>?_)
 ·skip
  refine wp_skip ?_
  refine k8 _ _ ?_
  refine wp_seq_k fun K10 k10=>?_
  refine wp_block ?_
  replace H:=H.keep [1,2,5] rfl
  replace S:=S.drew
  refine sD H fun K11 k11=>sf eX rfl<|sl S 0 gU G G G<|sr 1 rfl<|si cW aQ G G (hr.adr (by omega)) (by omega)<|sp bE rfl<|slm aE rfl (hr.rd S (by omega) (by omega))<|sf eX rfl<|sl S 0 gU G G G<|sr 1 rfl<|si cW aQ G G (hr.adr (by omega)) (by omega)<|sp bB rfl<|slm aE rfl (hr.rd S (by omega) (by omega))<|sc rfl Tryz.func158 G G (gJ _ _ _ _)<|sr 2 rfl<|sg 7 14 52 59 false G G (fun hg15=>by
      have hq15:=hg15;try simp only [o1,o2,o3,o4,o5,o6,o7,o8,o9,oa] at hq15
      exact sy hg15<|sf eX rfl<|sy hg15<|sl S 0 gU G G G<|sy hg15<|sr 1 rfl<|sy hg15<|si cW aQ G G (hr.adr (by omega)) (by omega)<|sy hg15<|sp bB rfl<|sy hg15<|slm aE rfl (hr.rd S (by omega) (by omega))<|sy hg15<|sr 1 rfl<|sz 7 G G G)<|so G G G<|sE ?_;clear H a;intro a H
  refine k11 _ ?_;clear k11 K11
  refine cond_ H rfl (fun hc3=>?_) (fun hc3=>?_)
  ·skip
   try simp only [o1,o2,o3,o4,o5,o6,o7,o8,o9,oa] at hc3
   replace H:=H.keep [] rfl
   refine sS H fun K12 k12=>sr 1 rfl<|sE ?_;clear H a;intro a H
   refine k12 _ ?_;clear k12 K12
   refine wp_ret ?_
   refine ret1 (fn:=Tryz.f126) rfl H rfl ?_
   refine ⟨?_,(S.sel [] G G)⟩;unfold bX;rw [if_pos hhd];(try dsimp only);rw [oZ (k:=k) (d:=(0,0)) (by omega) (by unfold gH;simp only [decide_eq_false_iff_not];omega)];rfl
  try simp only [o1,o2,o3,o4,o5,o6,o7,o8,o9,oa] at hc3
  refine wp_skip ?_
  refine k10 _ _ ?_
  refine sO H<|sr 1 rfl<|sd (aK G G (by unfold i64ok;omega))<|sr 1 rfl<|sE ?_;clear H a;intro a H
  exact k7 (g1-1) (k+1) a _ (by omega) (⟨by omega,by omega,rQ (d:=(0,0)) (by omega) hp.2.2 (by unfold gH;simp only [decide_eq_true_eq];omega)⟩) (S.sel [0] G G) (H.keep [5,1,2] rfl)
 refine wp_exit ?_
 refine k5 _ _ ?_
 refine wp_seq_k fun K14 k14=>?_
 have hrt:rates.all gH=true:=by have h9:=hp.2.2;rw [List.take_of_length_le (by omega)] at h9;exact h9
 refine sS H fun K15 k15=>sr 1 rfl<|sL cX rfl<|sr 1 rfl<|sE ?_;clear H a;intro a H
 refine k15 _ ?_;clear k15 K15
 refine condL H rfl (fun hc4=>?_) (fun hc4=>?_)
 ·skip
  refine sS H fun K16 k16=>sr 1 rfl<|sE ?_;clear H a;intro a H
  refine k16 _ ?_;clear k16 K16
  refine wp_ret ?_
  refine ret1 (fn:=Tryz.f126) rfl H rfl ?_
  refine ⟨?_,(S.sel [] G G)⟩;unfold bX;rw [if_pos hhd,if_pos hrt,if_neg (by omega)]
 refine wp_skip ?_
 refine k14 _ _ ?_
 refine wp_seq_k fun K17 k17=>?_
 refine sS H fun K18 k18=>sr 1 rfl<|sE ?_;clear H a;intro a H
 refine k18 _ ?_;clear k18 K18
 refine wp_block ?_
 refine loop_st (X:=Nat) (R0:=_) [1,2] H rfl (fun j=>[(6,.int .i64 (j:Int))]) (fun j=>[]) (fun g j=>j≤l.length∧g+j=l.length∧dJ rates.length l j=true) (l.length) 0 ?_ (S.sel [0] G G) (H.keep [6,1,2] rfl) ?_
 · exact ⟨by omega,by omega,rfl⟩
 clear H S a
 intro g2 x2 a w2 hp S H K19 k19
 obtain ⟨j,rfl⟩:∃ y,y=x2:=⟨_,rfl⟩
 refine wp_seq_k fun K20 k20=>?_
 refine sS H fun K21 k21=>sr 2 rfl<|sL cX rfl<|sr 1 rfl<|sE ?_;clear H a;intro a H
 refine k21 _ ?_;clear k21 K21
 refine condL H rfl (fun hc5=>?_) (fun hc5=>?_)
 ·skip
  refine wp_skip ?_
  refine k20 _ _ ?_
  refine wp_seq_k fun K22 k22=>?_
  refine wp_block ?_
  replace H:=H.keep [1,2,6] rfl
  refine seq_list fun K23 k23=>?_
  refine ls 4 H<|sr 2 rfl<|si cX cS G G (hl.adr (by omega)) (by omega)<|sd ((aV jG cS rfl S hl (by omega) (by omega)))<|sE ?_;clear H a;intro a H
  refine aI H rfl S jM ?_;clear H a S;intro b7 _ a hb7 hbw7 S H
  refine aD H S (i:=0) G G G G cS G G ?_
  clear H a S;intro _ a S H
  refine k23 _ _ ?_;clear k23 K23
  refine wp_seq_k fun K24 k24=>?_
  have hpd:prevD l j=if 0<j then (l.getD (j-1) Use.zero).day else 0:=by cases j with|zero=>rfl|succ q=>rfl
  have hj9:((j:Int)-1).toNat=j-1:=by omega
  have hpn:=oD hp.2.2
  replace H:=H.keep [1,2,6,7] rfl
  replace S:=S.drew
  refine sD H fun K25 k25=>sf gE rfl<|sl S 0 aE G G G<|sc rfl Tryz.func158 G G (gJ _ _ _ _)<|sr 2 rfl<|sg 13 4 78 91 false G G (fun hg5=>by
      have hq5:=hg5;try simp only [o1,o2,o3,o4,o5,o6,o7,o8,o9,oa] at hq5
      exact sy hg5<|sr 1 rfl<|sy hg5<|sr 1 rfl<|sy hg5<|sr 1 rfl<|sg 9 7 81 90 true G G (fun hg8=>by
           have hq8:=hg8;try simp only [o1,o2,o3,o4,o5,o6,o7,o8,o9,oa] at hq8
           exact sy hg8<|sf gE rfl<|sy hg8<|sl S 0 aE G G G<|sy hg8<|sr 1 rfl<|sy hg8<|sr 1 rfl<|sy hg8<|sd (aR G G (by unfold i64ok;omega))<|sy hg8<|sI cX cS G G (hl.adr (by omega)) (by omega) (by omega)<|sy hg8<|sp gE rfl<|sy hg8<|slm aE rfl (hl.rd S (by omega) (by omega))<|sy hg8<|sr 1 rfl<|sz 9 G G G)<|sy hg5<|sa G G G<|sz 5 G G G)<|so G G G<|sr 1 rfl<|sg 4 19 93 97 false G G (fun hg20=>by
      have hq20:=hg20;try simp only [o1,o2,o3,o4,o5,o6,o7,o8,o9,oa] at hq20
      exact sy hg20<|sf jA rfl<|sy hg20<|sl S 0 aE G G G<|sy hg20<|sc rfl Tryz.func158 G G (gJ _ _ _ _)<|sy hg20<|sr 1 rfl<|sz 4 G G G)<|so G G G<|sr 1 rfl<|sg 8 25 99 107 false G G (fun hg26=>by
      have hq26:=hg26;try simp only [o1,o2,o3,o4,o5,o6,o7,o8,o9,oa] at hq26
      exact sy hg26<|sf nS rfl<|sy hg26<|sl S 0 aE G G G<|sy hg26<|sf eX rfl<|sy hg26<|sl S 1 gU G G G<|sy hg26<|sL cW rfl<|sy hg26<|sd (aR G G (by unfold i64ok;omega))<|sy hg26<|sc rfl Tryz.func158 G G (gJ _ _ _ _)<|sy hg26<|sr 1 rfl<|sz 8 G G G)<|so G G G<|sE ?_;clear H a;intro a H
  refine k25 _ ?_;clear k25 K25
  refine cond_ H rfl (fun hc6=>?_) (fun hc6=>?_)
  ·skip
   try simp only [o1,o2,o3,o4,o5,o6,o7,o8,o9,oa] at hc6
   rw [hj9] at hc6
   replace H:=H.keep [] rfl
   refine sS H fun K26 k26=>sr 1 rfl<|sE ?_;clear H a;intro a H
   refine k26 _ ?_;clear k26 K26
   refine wp_ret ?_
   refine ret1 (fn:=Tryz.f126) rfl H rfl ?_
   refine ⟨?_,(S.sel [] G G)⟩;unfold bX;rw [if_pos hhd,if_pos hrt,if_pos (by omega)];unfold dJ;rw [fI (k:=j) (by omega) (by unfold useOk;simp only [decide_eq_false_iff_not];rw [hpd];omega)];rfl
  try simp only [o1,o2,o3,o4,o5,o6,o7,o8,o9,oa] at hc6
  rw [hj9] at hc6
  refine wp_skip ?_
  refine k24 _ _ ?_
  replace H:=H.keep [1,2,6,7] rfl
  refine sS H fun K27 k27=>sf lH rfl<|sl S 0 jE G G G<|sr 1 rfl<|sg 14 2 111 125 true G G (fun hg3=>by
      have hq3:=hg3;try simp only [o1,o2,o3,o4,o5,o6,o7,o8,o9,oa] at hq3
      exact sy hg3<|sf eJ rfl<|sy hg3<|sf bE rfl<|sy hg3<|sl S 0 aE G G G<|sy hg3<|sf eJ rfl<|sy hg3<|sf bB rfl<|sy hg3<|sl S 0 aE G G G<|sy hg3<|sc rfl Tryz.func158 G G (gJ _ _ _ _)<|sy hg3<|sr 1 rfl<|sy hg3<|sr 1 rfl<|sg 4 11 120 124 false G G (fun hg12=>by
           have hq12:=hg12;try simp only [o1,o2,o3,o4,o5,o6,o7,o8,o9,oa] at hq12
           exact sy hg12<|sf eJ rfl<|sy hg12<|sf bB rfl<|sy hg12<|sl S 0 aE G G G<|sy hg12<|sr 1 rfl<|sz 4 G G G)<|sy hg3<|so G G G<|sz 11 G G G)<|sa G G G<|sr 1 rfl<|sg 9 18 127 136 false G G (fun hg19=>by
      have hq19:=hg19;try simp only [o1,o2,o3,o4,o5,o6,o7,o8,o9,oa] at hq19
      exact sy hg19<|sf lH rfl<|sy hg19<|sl S 0 jE G G G<|sy hg19<|sr 1 rfl<|sy hg19<|sr 1 rfl<|sg 4 22 131 135 true G G (fun hg23=>by
           have hq23:=hg23;try simp only [o1,o2,o3,o4,o5,o6,o7,o8,o9,oa] at hq23
           exact sy hg23<|sf eJ rfl<|sy hg23<|sd ((aB aZ aQ rfl S (i:=0) G G))<|sy hg23<|sd (aP dI G G)<|sy hg23<|sd (mL G G)<|sz 4 G G G)<|sy hg19<|sa G G G<|sz 6 G G G)<|so G G G<|sE ?_;clear H a;intro a H
  refine k27 _ ?_;clear k27 K27
  refine cond_ H rfl (fun hc7=>?_) (fun hc7=>?_)
  ·skip
   try simp only [o1,o2,o3,o4,o5,o6,o7,o8,o9,oa] at hc7
   replace H:=H.keep [] rfl
   refine sS H fun K28 k28=>sr 1 rfl<|sE ?_;clear H a;intro a H
   refine k28 _ ?_;clear k28 K28
   refine wp_ret ?_
   refine ret1 (fn:=Tryz.f126) rfl H rfl ?_
   refine ⟨?_,(S.sel [] rfl rfl)⟩;unfold bX;rw [if_pos hhd,if_pos hrt,if_pos (by omega)];unfold dJ;rw [fI (k:=j) (by omega) (by unfold useOk;simp only [decide_eq_false_iff_not];generalize l.getD j Use.zero=u at hc6 hc7 ⊢;rintro ⟨_,_,_,_,hm⟩;cases hq:u.meas <;> simp [hq] at hc7 hm <;> omega)];rfl
  try simp only [o1,o2,o3,o4,o5,o6,o7,o8,o9,oa] at hc7
  refine wp_skip ?_
  refine k22 _ _ ?_
  refine sO H<|sr 1 rfl<|sd (aK G G (by unfold i64ok;omega))<|sr 1 rfl<|sE ?_;clear H a;intro a H
  exact k19 (g2-1) (j+1) a _ (by omega) (⟨by omega,by omega,by unfold dJ;rw [gG (n:=0)];have h9:=hp.2.2;unfold dJ at h9;rw [h9];simp only [Bool.true_and];unfold useOk;simp only [decide_eq_true_eq];rw [hpd] at hpn ⊢;generalize (l.getD (j-1) Use.zero).day=pd at hc6 hpn ⊢;generalize l.getD j Use.zero=u at hc6 hc7 ⊢;cases hq:u.meas <;> simp [hq] at hc7 ⊢ <;> omega⟩) (S.sel [1] G G) (H.keep [6,1,2] rfl)
 refine wp_exit ?_
 refine k17 _ _ ?_
 refine sS H fun K30 k30=>sr 1 rfl<|sE ?_;clear H a;intro a H
 refine k30 _ ?_;clear k30 K30
 refine wp_ret ?_
 refine ret1 (fn:=Tryz.f126) rfl H rfl ?_
 refine ⟨?_,(S.sel [] G G)⟩;have hj9:j=l.length:=by omega
 unfold bX;rw [if_pos hhd,if_pos hrt,if_pos (by omega)];rw [hj9] at hp;dsimp only;rw [if_pos hp.2.2]
theorem Ft (rates:List (Int×Int)) (pwn ptn pag:Int) (RA:Option Addr) (rcp:Nat) (s1 s2:Int) (u:Use) (w:World) (hr:InS w noF 2 RA rates.length (scell rates)) (hrn:rates.length≤9223372036854775807) (hcl:0≤u.cls∧u.cls<rates.length) (hg1:i64ok (cF (⟨rates,pwn,ptn,pag⟩:Part) u).1) (hg2:i64ok (cF (⟨rates,pwn,ptn,pag⟩:Part) u).2) (hg3:i64ok (s1+(cF (⟨rates,pwn,ptn,pag⟩:Part) u).1)) (hg4:i64ok (s2+(cF (⟨rates,pwn,ptn,pag⟩:Part) u).2)) :
    Calls Tryz.prog 184 [.agg [.slice RA rates.length rcp,.int .i64 pwn,.int .i64 ptn,.int .i64 pag].toArray,.agg [.int .i64 s1,.int .i64 s2].toArray,.agg [.int .i64 u.day,.int .i64 u.turns,.int .i64 u.cls,.bool u.meas,.int .i64 u.lo,.int .i64 u.hi].toArray].toArray w (Ret (fun v w'=>v = .agg [.int .i64 (fstep (⟨rates,pwn,ptn,pag⟩:Part) (s1,s2) u).1,.int .i64 (fstep (⟨rates,pwn,ptn,pag⟩:Part) (s1,s2) u).2].toArray∧St w noF [] w')):=by
 refine enter Tryz.func184 rfl Tryz.ntmps184 rfl (fun a H=>?_)
 have S:=St.start w
 refine seq_list fun K1 k1=>?_
 refine aN H rfl S G G ?_;clear H a S;intro b3 _ a hb3 hbw3 S H
 refine aN H rfl S G G ?_;clear H a S;intro b4 _ a hb4 hbw4 S H
 refine aN H rfl S G G ?_;clear H a S;intro b5 _ a hb5 hbw5 S H
 refine aI H rfl S bS ?_;clear H a S;intro b6 _ a hb6 hbw6 S H
 refine k1 _ _ ?_;clear k1 K1
 replace H:=H.keep [3,4,5,6] rfl
 refine seq_list fun K2 k2=>?_
 refine ls 6 H<|sf eX rfl<|sl S 3 gU G G G<|sf nS rfl<|sl S 1 aE G G G<|sI cW aQ G G (hr.adr (by omega)) (by omega) (by omega)<|sd ((aV aZ aQ rfl S hr (by omega) (by omega)))<|sE ?_;clear H a;intro a H
 refine aI H rfl S bS ?_;clear H a S;intro b7 _ a hb7 hbw7 S H
 refine aD H S (i:=0) G G G G aQ G G ?_
 clear H a S;intro _ a S H
 refine k2 _ _ ?_;clear k2 K2
 replace H:=H.keep [4,5,6,7] rfl
 refine seq_list fun K3 k3=>?_
 refine ls 17 H<|sf bE rfl<|sl S 3 aE G G G<|sf jA rfl<|sl S 2 aE G G G<|sf bE rfl<|sl S 0 aE G G G<|sd (iP G G (by exact hg1))<|sd (aK G G (by exact hg3))<|sf bB rfl<|sl S 3 aE G G G<|sf jA rfl<|sl S 2 aE G G G<|sf bB rfl<|sl S 0 aE G G G<|sd (iP G G (by exact hg2))<|sd (aK G G (by exact hg4))<|sd (aP dI G G)<|sE ?_;clear H a;intro a H
 refine aI H rfl S bS ?_;clear H a S;intro b8 _ a hb8 hbw8 S H
 refine aD H S (i:=0) G G G G aQ G G ?_
 clear H a S;intro _ a S H
 refine k3 _ _ ?_;clear k3 K3
 have SR:=(S.sel [1,2,3,4,5] G G)
 refine meet_sr (X:=Unit) [6,8] H rfl (fun x=>[]) (fun x=>[boxM b8 88 [.int .i64 (fstep (⟨rates,pwn,ptn,pag⟩:Part) (s1,s2) u).1,.int .i64 (fstep (⟨rates,pwn,ptn,pag⟩:Part) (s1,s2) u).2]]) (fun x=>True) SR (fun K5 k5=>?_) ?_
 ·skip
  replace H:=H.keep [5,6,8] rfl
  refine sS H fun K6 k6=>sf lH rfl<|sl S 3 jE G G G<|sE ?_;clear H a;intro a H
  refine k6 _ ?_;clear k6 K6
  refine cond_ H rfl (fun hc1=>?_) (fun hc1=>?_)
  ·skip
   try simp only [o1,o2,o3,o4,o5,o6,o7,o8,o9,oa] at hc1
   replace H:=H.keep [5,6,8] rfl
   refine one_list ?_
   refine ls 13 H<|sf bE rfl<|sl S 0 aE G G G<|sf eJ rfl<|sf bE rfl<|sl S 3 aE G G G<|sd (kX G G)<|sf bB rfl<|sl S 0 aE G G G<|sf eJ rfl<|sf bB rfl<|sl S 3 aE G G G<|sd (wX G G)<|sd (aP dI G G)<|sE ?_;clear H a;intro a H
   refine aD H S (i:=0) G G G G aQ G G ?_
   clear H a S;intro _ a S H
   have e9:fstep (⟨rates,pwn,ptn,pag⟩:Part) (s1,s2) u=meetS (addS (s1,s2) (cF (⟨rates,pwn,ptn,pag⟩:Part) u)) (u.lo,u.hi):=by unfold fstep;rw [if_pos hc1]
   replace S:=boxM.same S (i:=0) (cs':=[.int .i64 (fstep (⟨rates,pwn,ptn,pag⟩:Part) (s1,s2) u).1,.int .i64 (fstep (⟨rates,pwn,ptn,pag⟩:Part) (s1,s2) u).2]) rfl (by rw [e9];rfl)
   exact k5 () a _ (trivial) (S.sel [0,1,2,3,4,5] G G) (H.keep [6,8] rfl)
  try simp only [o1,o2,o3,o4,o5,o6,o7,o8,o9,oa] at hc1
  refine wp_skip ?_
  have e9:fstep (⟨rates,pwn,ptn,pag⟩:Part) (s1,s2) u=addS (s1,s2) (cF (⟨rates,pwn,ptn,pag⟩:Part) u):=by unfold fstep;rw [if_neg (by rw [hc1];simp)]
  replace S:=boxM.same S (i:=0) (cs':=[.int .i64 (fstep (⟨rates,pwn,ptn,pag⟩:Part) (s1,s2) u).1,.int .i64 (fstep (⟨rates,pwn,ptn,pag⟩:Part) (s1,s2) u).2]) rfl (by rw [e9];rfl)
  exact k5 () a _ (trivial) (S.sel [0,1,2,3,4,5] G G) (H.keep [6,8] rfl)
 clear SR H S a
 intro xm a wm hp S H
 obtain ⟨x,rfl⟩:∃ y,y=xm:=⟨_,rfl⟩
 replace H:=H.keep [6,8] rfl
 refine seq_list fun K8 k8=>?_
 refine ls 1 H<|sd ((aB aZ aQ rfl S (i:=0) G G))<|sE ?_;clear H a;intro a H
 refine aD H S (i:=2) G G G G aQ G G ?_
 clear H a S;intro _ a S H
 refine k8 _ _ ?_;clear k8 K8
 refine wp_ret ?_
 refine retA (fn:=Tryz.f184) rfl H rfl aZ (by exact aQ) (cQ S (i:=2) rfl) ?_
 exact ⟨rfl,(S.sel [] G G)⟩
theorem pL (rates:List (Int×Int)) (pwn ptn pag:Int) (RA:Option Addr) (rcp:Nat) (l:List Use) (A:Option Addr) (cp:Nat) (w:World) (hr:InS w noF 2 RA rates.length (scell rates)) (hrn:rates.length≤9223372036854775807) (hl:InS w noF 6 A l.length (ucell l)) (hn:l.length≤9223372036854775807) (hok:PartOk (⟨rates,pwn,ptn,pag⟩:Part) l) :
    Calls Tryz.prog 159 [.agg [.slice RA rates.length rcp,.int .i64 pwn,.int .i64 ptn,.int .i64 pag].toArray,.slice A l.length cp].toArray w (Ret (FwdR w (⟨rates,pwn,ptn,pag⟩:Part) l)):=by
 refine enter Tryz.func159 rfl Tryz.ntmps159 rfl (fun a H=>?_)
 have S:=St.start w
 refine seq_list fun K1 k1=>?_
 refine aN H rfl S G G ?_;clear H a S;intro b2 _ a hb2 hbw2 S H
 refine ls 2 H<|sr 2 rfl<|sE ?_;clear H a;intro a H
 refine k1 _ _ ?_;clear k1 K1
 refine sS H fun K2 k2=>sr 1 rfl<|sE ?_;clear H a;intro a H
 refine k2 _ ?_;clear k2 K2
 refine seq_list fun K3 k3=>?_
 refine ls 1 H<|sd (aP dI G G)<|sE ?_;clear H a;intro a H
 refine aI H rfl S bS ?_;clear H a S;intro b7 _ a hb7 hbw7 S H
 refine aD H S (i:=0) G G G G aQ G G ?_
 clear H a S;intro _ a S H
 refine k3 _ _ ?_;clear k3 K3
 refine wp_seq_k fun K4 k4=>?_
 refine sS H fun K5 k5=>sr 1 rfl<|sE ?_;clear H a;intro a H
 refine k5 _ ?_;clear k5 K5
 refine wp_block ?_
 replace S:=S.newNil 88 2 (fcell (fun q=>fwd (⟨rates,pwn,ptn,pag⟩:Part) l (q+1)))
 refine loop_st (X:=Nat×Option Addr×Nat) (R0:=_) [1,2,7] H rfl (fun ⟨k,A',c'⟩=>[(6,.slice A' k c'),(8,.int .i64 (k:Int))]) (fun ⟨k,A',c'⟩=>[boxM b7 88 [.int .i64 (fwd (⟨rates,pwn,ptn,pag⟩:Part) l k).1,.int .i64 (fwd (⟨rates,pwn,ptn,pag⟩:Part) l k).2],ownM 88 2 A' k c' (fcell (fun q=>fwd (⟨rates,pwn,ptn,pag⟩:Part) l (q+1)))]) (fun g ⟨k,A',c'⟩=>k≤l.length∧g+k=l.length∧∀ q,q<k→fits (⟨rates,pwn,ptn,pag⟩:Part) l q) (l.length) (0,none,0) ?_ (S.sel [1,0,2] G G) (H.keep [6,8,1,2,7] rfl) ?_
 · exact ⟨by omega,by omega,fun q hq=>by omega⟩
 clear H S a
 intro g1 x1 a w1 hp S H K6 k6
 obtain ⟨k,A',c'⟩:=x1
 dsimp only at hp S H
 refine wp_seq_k fun K7 k7=>?_
 refine sS H fun K8 k8=>sr 2 rfl<|sL cX rfl<|sr 1 rfl<|sE ?_;clear H a;intro a H
 refine k8 _ ?_;clear k8 K8
 refine condL H rfl (fun hc1=>?_) (fun hc1=>?_)
 ·skip
  refine wp_skip ?_
  refine k7 _ _ ?_
  refine wp_seq_k fun K9 k9=>?_
  refine wp_block ?_
  have hu:=hok.use (k:=k) (by omega);unfold useOk at hu;simp only [decide_eq_true_eq] at hu
  have hgb:=kB hok (k:=k) (by omega)
  have hcls:0≤(l.getD k Use.zero).cls∧(l.getD k Use.zero).cls<rates.length:=by
    have:((⟨rates,pwn,ptn,pag⟩:Part).rates.length:Int)=rates.length:=rfl
    omega
  have hll:=hok.len
  have hfb:=vU hok k (by omega)
  replace H:=H.keep [1,2,6,7,8] rfl
  refine wZ 6 (by kernel_rfl) (by kernel_rfl) fun K10 k10=>?_
  replace S:=S.drew
  refine sF H<|sd ((aB eM gR rfl S (i:=2) G G))<|sd ((aB aZ aQ rfl S (i:=0) G G))<|sr 2 rfl<|si cX cS G G (hl.adr (by omega)) (by omega)<|sd ((aV jG cS rfl S hl (by omega) (by omega)))<|sE ?_;clear H a;intro a H
  refine aA H G G Tryz.func184 G G (Ft rates pwn ptn pag RA rcp (fwd (⟨rates,pwn,ptn,pag⟩:Part) l k).1 (fwd (⟨rates,pwn,ptn,pag⟩:Part) l k).2 (l.getD k Use.zero) _ (hr.now S) hrn hcls (by unfold i64ok;omega) (by unfold i64ok;omega) (by unfold i64ok;omega) (by unfold i64ok;omega)) ?_;clear H a
  rintro _ _ a ⟨rfl,S2⟩ H
  replace S:=S.call S2;clear S2
  refine aD H S (i:=0) G G G G aQ G G ?_
  clear H a S;intro _ a S H
  refine k10 _ _ ?_;clear k10 K10
  refine wp_seq_k fun K11 k11=>?_
  replace H:=H.keep [1,2,6,7,8] rfl
  refine sS H fun K12 k12=>sf bE rfl<|sl S 0 aE G G G<|sf bB rfl<|sl S 0 aE G G G<|sr 1 rfl<|sE ?_;clear H a;intro a H
  refine k12 _ ?_;clear k12 K12
  refine condL H rfl (fun hc2=>?_) (fun hc2=>?_)
  ·skip
   replace hc2:(fwd (⟨rates,pwn,ptn,pag⟩:Part) l (k+1)).2<(fwd (⟨rates,pwn,ptn,pag⟩:Part) l (k+1)).1:=hc2
   refine sS H fun K13 k13=>sr 3 rfl<|sE ?_;clear H a;intro a H
   refine k13 _ ?_;clear k13 K13
   refine wp_ret ?_
   refine ret2 (fn:=Tryz.f159) rfl H G G ?_
   have e9:atN (⟨rates,pwn,ptn,pag⟩:Part) l=k:=vX ⟨by omega,hp.2.2,fun _ hf=>absurd ((yB hok (by omega) hp.2.2).1 hf) (Int.not_le.2 hc2)⟩
   exact .inr ⟨by omega,by rw [e9],(S.sel [] G G)⟩
  replace hc2:(fwd (⟨rates,pwn,ptn,pag⟩:Part) l (k+1)).1≤(fwd (⟨rates,pwn,ptn,pag⟩:Part) l (k+1)).2:=hc2
  refine wp_skip ?_
  refine k11 _ _ ?_
  replace H:=H.keep [1,2,6,7,8] rfl
  refine one_list ?_
  refine ls 2 H<|sr 1 rfl<|sd ((aB aZ aQ rfl S (i:=0) G G))<|sE ?_;clear H a;intro a H
  refine aY H rfl S cW aQ bS G G G G G G G G G ?_;clear H a S;intro A1 _ a hA1 S H
  refine cB H rfl S cW aQ bS Hl G G (i:=2) G G G (ownM.inS S (i:=0) rfl) (iD (two G G)) (by omega) (by omega) ?_;clear H a S;intro A2 c2 _ a S H
  replace S:=S.recell (i:=2) rfl (cell':=fcell (fun q=>fwd (⟨rates,pwn,ptn,pag⟩:Part) l (q+1))) (rK (two G G))
  refine ls 1 H<|sr 1 rfl<|sE ?_;clear H a;intro a H
  refine k9 _ _ ?_
  refine sO H<|sr 1 rfl<|sd (aK G G (by unfold i64ok;omega))<|sr 1 rfl<|sE ?_;clear H a;intro a H
  exact k6 (g1-1) (k+1,_,_) a _ (by omega) (⟨by omega,by omega,fun q hq=>by
    by_cases h:q=k
    · subst h;exact (yB hok (by omega) hp.2.2).2 hc2
    · exact hp.2.2 q (by omega)⟩) (S.sel [1,2,3] G G) (H.keep [6,8,1,2,7] rfl)
 refine wp_exit ?_
 refine k4 _ _ ?_
 replace H:=H.keep [6] rfl
 refine sS H fun K16 k16=>sr 3 rfl<|sE ?_;clear H a;intro a H
 refine k16 _ ?_;clear k16 K16
 refine wp_ret ?_
 refine ret2 (fn:=Tryz.f159) rfl H G G ?_
 have hk9:k=l.length:=by omega
 subst hk9
 exact .inl ⟨vX ⟨Nat.le_refl _,hp.2.2,fun h=>absurd h (Nat.lt_irrefl _)⟩,A',c',rfl,(S.sel [1] G G)⟩
end
section
theorem mX (rates:List (Int×Int)) (pwn ptn pag:Int) (RA:Option Addr) (rcp:Nat) (l:List Use) (A:Option Addr) (cp:Nat) (w:World) (hr:InS w noF 2 RA rates.length (scell rates)) (hrn:rates.length≤9223372036854775807) (hl:InS w noF 6 A l.length (ucell l)) (hn:l.length≤9223372036854775807) :
    Calls Tryz.prog 156 [.agg [.slice RA rates.length rcp,.int .i64 pwn,.int .i64 ptn,.int .i64 pag].toArray,.slice A l.length cp].toArray w (Ret (WearR w (⟨rates,pwn,ptn,pag⟩:Part) l)):=by
 refine enter Tryz.func156 rfl Tryz.ntmps156 rfl (fun a H=>?_)
 have S:=St.start w
 refine seq_list fun K1 k1=>?_
 refine aN H rfl S G G ?_;clear H a S;intro b2 _ a hb2 hbw2 S H
 refine ls 2 H<|sr 2 rfl<|sE ?_;clear H a;intro a H
 refine k1 _ _ ?_;clear k1 K1
 refine wp_seq_k fun K2 k2=>?_
 refine seq_list fun K3 k3=>?_
 refine ls 2 H<|sd ((aB eM gR rfl S (i:=0) G G))<|sr 1 rfl<|sE ?_;clear H a;intro a H
 refine aA H G G Tryz.func181 G G (pP rates pwn ptn pag RA rcp l A cp _ (hr.now S) hrn (hl.now S) hn) ?_;clear H a
 rintro _ _ a ⟨rfl,S2⟩ H
 replace S:=S.call S2;clear S2
 refine ls 1 H<|sr 1 rfl<|sE ?_;clear H a;intro a H
 refine k3 _ _ ?_;clear k3 K3
 refine sS H fun K4 k4=>sr 2 rfl<|sE ?_;clear H a;intro a H
 refine k4 _ ?_;clear k4 K4
 refine condN H rfl (fun hc1=>?_) (fun hc1=>?_)
 ·skip
  replace H:=H.keep [6] rfl
  refine sS H fun K5 k5=>sr 3 rfl<|sE ?_;clear H a;intro a H
  refine k5 _ ?_;clear k5 K5
  refine wp_ret ?_
  refine ret2 (fn:=Tryz.f156) rfl H G G ?_
  have e9:=Ek (p:=(⟨rates,pwn,ptn,pag⟩:Part)) (l:=l) (by omega)
  exact .inr ⟨by omega,by rw [e9],(S.sel [] G G)⟩
 refine wp_skip ?_
 refine k2 _ _ ?_
 have h0:bX (⟨rates,pwn,ptn,pag⟩:Part) l=0:=by omega
 have hok:=kA h0
 by_cases hA:IsAt (⟨rates,pwn,ptn,pag⟩:Part) l l.length
 ·skip
  replace H:=H.keep [1,2] rfl
  refine seq_list fun K6 k6=>?_
  refine ls 2 H<|sd ((aB eM gR rfl S (i:=0) G G))<|sr 1 rfl<|sE ?_;clear H a;intro a H
  refine aA H G G Tryz.func182 G G (fJ (sQ rates pwn ptn pag RA rcp l A cp _ (hr.now S) hrn (hl.now S) hn hok) (fun _ _=>Kh hA)) ?_;clear H a
  rintro _ _ a ⟨A',c',rfl,S2⟩ H
  replace S:=S.call S2;clear S2
  refine ls 5 H<|sr 5 rfl<|sE ?_;clear H a;intro a H
  refine k6 _ _ ?_;clear k6 K6
  refine wp_seq_k fun K7 k7=>?_
  replace H:=H.keep [7,8] rfl
  refine sS H fun K8 k8=>sr 2 rfl<|sE ?_;clear H a;intro a H
  refine k8 _ ?_;clear k8 K8
  refine cond_ H rfl (fun hc2=>?_) (fun hc2=>?_)
  ·skip
   skip
   cases hc2
  skip
  refine wp_skip ?_
  refine k7 _ _ ?_
  refine sS H fun K9 k9=>sr 3 rfl<|sE ?_;clear H a;intro a H
  refine k9 _ ?_;clear k9 K9
  refine wp_ret ?_
  refine ret2 (fn:=Tryz.f156) rfl H G G ?_
  exact .inl ⟨nX h0 hA,A',c',rfl,(S.sel [0] G G)⟩
 replace H:=H.keep [1,2] rfl
 refine seq_list fun K10 k10=>?_
 refine ls 2 H<|sd ((aB eM gR rfl S (i:=0) G G))<|sr 1 rfl<|sE ?_;clear H a;intro a H
 refine aA H G G Tryz.func182 G G (fJ (sQ rates pwn ptn pag RA rcp l A cp _ (hr.now S) hrn (hl.now S) hn hok) (fun _ _=>Nu hA)) ?_;clear H a
 rintro _ _ a ⟨rfl,S2⟩ H
 replace S:=S.call S2;clear S2
 refine ls 5 H<|sr 5 rfl<|sE ?_;clear H a;intro a H
 refine k10 _ _ ?_;clear k10 K10
 refine wp_seq_k fun K11 k11=>?_
 replace H:=H.keep [7,8] rfl
 refine sS H fun K12 k12=>sr 2 rfl<|sE ?_;clear H a;intro a H
 refine k12 _ ?_;clear k12 K12
 refine cond_ H rfl (fun hc3=>?_) (fun hc3=>?_)
 ·skip
  skip
  refine sS H fun K13 k13=>sr 2 rfl<|sE ?_;clear H a;intro a H
  refine k13 _ ?_;clear k13 K13
  refine wp_ret ?_
  refine ret2 (fn:=Tryz.f156) rfl H G G ?_
  have e9:=Ak h0 hA
  exact .inr ⟨by omega,by rw [e9],(S.sel [] G G)⟩
 skip
 cases hc3
theorem yZ (rates:List (Int×Int)) (pwn ptn pag:Int) (RA:Option Addr) (rcp:Nat) (l:List Use) (A:Option Addr) (cp:Nat) (w:World) (hr:InS w noF 2 RA rates.length (scell rates)) (hrn:rates.length≤9223372036854775807) (hl:InS w noF 6 A l.length (ucell l)) (hn:l.length≤9223372036854775807) :
    Calls Tryz.prog 127 [.agg [.slice RA rates.length rcp,.int .i64 pwn,.int .i64 ptn,.int .i64 pag].toArray,.slice A l.length cp].toArray w (Ret (fun v w'=>v = .tuple #[.int .i64 (refO (⟨rates,pwn,ptn,pag⟩:Part) l).1,.bool (refO (⟨rates,pwn,ptn,pag⟩:Part) l).2.1,.int .i64 (refO (⟨rates,pwn,ptn,pag⟩:Part) l).2.2]∧St w noF [] w')):=by
 refine enter Tryz.func127 rfl Tryz.ntmps127 rfl (fun a H=>?_)
 have S:=St.start w
 refine seq_list fun K1 k1=>?_
 refine aN H rfl S G G ?_;clear H a S;intro b2 _ a hb2 hbw2 S H
 refine ls 3 H<|sr 3 rfl<|sE ?_;clear H a;intro a H
 refine k1 _ _ ?_;clear k1 K1
 refine seq_list fun K2 k2=>?_
 refine ls 2 H<|sd ((aB eM gR rfl S (i:=0) G G))<|sr 1 rfl<|sE ?_;clear H a;intro a H
 refine aA H G G Tryz.func126 G G (mM rates pwn ptn pag RA rcp l A cp _ (hr.now S) hrn (hl.now S) hn) ?_;clear H a
 rintro _ _ a ⟨rfl,S2⟩ H
 replace S:=S.call S2;clear S2
 refine ls 1 H<|sr 1 rfl<|sE ?_;clear H a;intro a H
 refine k2 _ _ ?_;clear k2 K2
 refine wp_seq_k fun K3 k3=>?_
 replace H:=H.keep [1,2,7] rfl
 refine sS H fun K4 k4=>sr 2 rfl<|sE ?_;clear H a;intro a H
 refine k4 _ ?_;clear k4 K4
 refine condN H rfl (fun hc1=>?_) (fun hc1=>?_)
 ·skip
  refine sS H fun K5 k5=>sr 4 rfl<|sE ?_;clear H a;intro a H
  refine k5 _ ?_;clear k5 K5
  refine wp_ret ?_
  refine ret3 (fn:=Tryz.f127) rfl H G G G ?_
  unfold refO;rw [if_pos (by omega)];exact ⟨rfl,(S.sel [] G G)⟩
 refine wp_skip ?_
 refine k3 _ _ ?_
 have h0:bX (⟨rates,pwn,ptn,pag⟩:Part) l=0:=by omega
 have hok:=kA h0
 rcases (show atN (⟨rates,pwn,ptn,pag⟩:Part) l=l.length∨atN (⟨rates,pwn,ptn,pag⟩:Part) l<l.length from by have:=(vW (⟨rates,pwn,ptn,pag⟩:Part) l).le;omega) with hA|hA
 ·skip
  replace H:=H.keep [1,2] rfl
  refine seq_list fun K6 k6=>?_
  refine ls 2 H<|sd ((aB eM gR rfl S (i:=0) G G))<|sr 1 rfl<|sE ?_;clear H a;intro a H
  refine aA H G G Tryz.func159 G G (fJ (pL rates pwn ptn pag RA rcp l A cp _ (hr.now S) hrn (hl.now S) hn hok) (fun _ _=>Ki hA)) ?_;clear H a
  rintro _ _ a ⟨A',c',rfl,S2⟩ H
  replace S:=S.call S2;clear S2
  refine ls 5 H<|sr 5 rfl<|sE ?_;clear H a;intro a H
  refine k6 _ _ ?_;clear k6 K6
  replace H:=H.keep [9] rfl
  refine sS H fun K7 k7=>sr 1 rfl<|sd (kX G G)<|sr 5 rfl<|sE ?_;clear H a;intro a H
  refine k7 _ ?_;clear k7 K7
  refine wp_ret ?_
  refine ret3 (fn:=Tryz.f127) rfl H G G G ?_
  unfold refO;rw [if_neg (by omega),if_neg (by omega)];exact ⟨rfl,(S.sel [] G G)⟩
 replace H:=H.keep [1,2] rfl
 refine seq_list fun K8 k8=>?_
 refine ls 2 H<|sd ((aB eM gR rfl S (i:=0) G G))<|sr 1 rfl<|sE ?_;clear H a;intro a H
 refine aA H G G Tryz.func159 G G (fJ (pL rates pwn ptn pag RA rcp l A cp _ (hr.now S) hrn (hl.now S) hn hok) (fun _ _=>Nv hA)) ?_;clear H a
 rintro _ _ a ⟨rfl,S2⟩ H
 replace S:=S.call S2;clear S2
 refine ls 5 H<|sr 5 rfl<|sE ?_;clear H a;intro a H
 refine k8 _ _ ?_;clear k8 K8
 replace H:=H.keep [9] rfl
 refine sS H fun K9 k9=>sr 1 rfl<|sd (kX G G)<|sr 5 rfl<|sE ?_;clear H a;intro a H
 refine k9 _ ?_;clear k9 K9
 refine wp_ret ?_
 refine ret3 (fn:=Tryz.f127) rfl H G G G ?_
 unfold refO;rw [if_neg (by omega),if_pos hA];refine ⟨?_,(S.sel [] G G)⟩
 have e1:max 0 ((atN (⟨rates,pwn,ptn,pag⟩:Part) l:Nat):Int)=atN (⟨rates,pwn,ptn,pag⟩:Part) l:=by omega
 rw [e1];rw [decide_eq_true (show (0:Int)≤(atN (⟨rates,pwn,ptn,pag⟩:Part) l:Int) by omega)]
theorem sR (a b:Int) (w:World) :
    Calls Tryz.prog 195 [.agg [.int .i64 a,.int .i64 b].toArray].toArray w (Ret (fun v w'=>v = .int .i64 (Prod.snd (a,b))∧St w noF [] w')):=by
 refine enter Tryz.func195 rfl Tryz.ntmps195 rfl (fun a H=>?_)
 have S:=St.start w
 refine seq_list fun K1 k1=>?_
 refine aN H rfl S G G ?_;clear H a S;intro b1 _ a hb1 hbw1 S H
 refine ls 1 H<|sr 1 rfl<|sE ?_;clear H a;intro a H
 refine k1 _ _ ?_;clear k1 K1
 refine sS H fun K2 k2=>sf bB rfl<|sl S 0 aE G G G<|sr 1 rfl<|sE ?_;clear H a;intro a H
 refine k2 _ ?_;clear k2 K2
 refine wp_ret ?_
 refine ret1 (fn:=Tryz.f195) rfl H rfl ?_
 exact ⟨rfl,(S.sel [] G G)⟩
theorem sT {P:Program} {w:World} {L:List (Nat×Value)} {ty:TypeId} {pos:String} {af:Array Edge} {dd:Option Nat} {g:Option (Nat×Bool)} {x y:Operand} {xt yt:TypeId} {m n:Int} (hx:ev L x=some (.int .i64 m)) (hy:ev L y=some (.int .i64 n)) (h:n<m):Does P L ⟨dd,.binOp .gtr xt x y yt,ty,pos,af,g⟩ w (.bool true):=by
  have h1:=bU (P:=P) (d:=dd) (w:=w) (ty:=ty) (pos:=pos) (af:=af) (g:=g) (xt:=xt) (yt:=yt) hx hy
  rw [decide_eq_true h] at h1
  exact h1
theorem mY {P:Program} {w:World} {L:List (Nat×Value)} {ty:TypeId} {pos:String} {af:Array Edge} {dd:Option Nat} {g:Option (Nat×Bool)} {x y:Operand} {xt yt:TypeId} {m n:Int} (hx:ev L x=some (.int .i64 m)) (hy:ev L y=some (.int .i64 n)) (h:¬ n<m):Does P L ⟨dd,.binOp .gtr xt x y yt,ty,pos,af,g⟩ w (.bool false):=by
  have h1:=bU (P:=P) (d:=dd) (w:=w) (ty:=ty) (pos:=pos) (af:=af) (g:=g) (xt:=xt) (yt:=yt) hx hy
  rw [decide_eq_false h] at h1
  exact h1
theorem zA (rates : List (Int × Int)) (pwn ptn pag : Int) (RA : Option Addr) (rcp : Nat) (l : List Use) (A : Option Addr) (cp : Nat) (f : Nat) (fn : Func) (e : Int × Int → Int) (w : World) (hr : InS w noF 2 RA rates.length (scell rates)) (hrn : rates.length ≤ 9223372036854775807) (hl : InS w noF 6 A l.length (ucell l)) (hn : l.length ≤ 9223372036854775807) (hf : Tryz.prog.funcs[f]? = some fn) (hfb : fn.body.isNone = false) (hfn : (fn.name == "runtime.NumGoroutine") = false) (hcall : ∀ (a b : Int) (w' : World), Calls Tryz.prog f [.agg [.int .i64 a, .int .i64 b].toArray].toArray w' (Ret fun v w'' => v = .int .i64 (e (a, b)) ∧ St w' noF [] w'')) :
    Calls Tryz.prog 194 [.agg [.slice RA rates.length rcp,.int .i64 pwn,.int .i64 ptn,.int .i64 pag].toArray,.slice A l.length cp,.func (.func f) [].toArray [].toArray].toArray w (Ret (fun v w'=>v = .tuple #[.int .i64 (dE (⟨rates,pwn,ptn,pag⟩:Part) l e).1,.int .i64 (dE (⟨rates,pwn,ptn,pag⟩:Part) l e).2]∧St w noF [] w')):=by
 refine enter Tryz.func194 rfl Tryz.ntmps194 rfl (fun a H=>?_)
 have S:=St.start w
 refine seq_list fun K1 k1=>?_
 refine aN H rfl S G G ?_;clear H a S;intro b3 _ a hb3 hbw3 S H
 refine ls 2 H<|sr 2 rfl<|sE ?_;clear H a;intro a H
 refine k1 _ _ ?_;clear k1 K1
 by_cases hA:wearE (⟨rates,pwn,ptn,pag⟩:Part) l=0
 ·skip
  have h0:=kS hA;have hok:=kA h0.1
  have hh:=hok.hdr;unfold eZ at hh;simp only [decide_eq_true_eq] at hh;have hll:=hok.len
  replace H:=H.keep [1,2,3] rfl
  refine seq_list fun K2 k2=>?_
  refine ls 2 H<|sd ((aB eM gR rfl S (i:=0) G G))<|sr 1 rfl<|sE ?_;clear H a;intro a H
  refine aA H G G Tryz.func156 G G (fJ (mX rates pwn ptn pag RA rcp l A cp _ (hr.now S) hrn (hl.now S) hn) (fun _ _=>Fs hA)) ?_;clear H a
  rintro _ _ a ⟨A',c',rfl,S2⟩ H
  replace S:=S.call S2;clear S2
  refine ls 5 H<|sr 5 rfl<|sE ?_;clear H a;intro a H
  refine k2 _ _ ?_;clear k2 K2
  refine wp_seq_k fun K3 k3=>?_
  replace H:=H.keep [1,2,3,8,9] rfl
  refine sS H fun K4 k4=>sr 2 rfl<|sE ?_;clear H a;intro a H
  refine k4 _ ?_;clear k4 K4
  refine condN H rfl (fun hc1=>?_) (fun hc1=>?_)
  ·skip
   all_goals first|(exfalso;omega)|(simp at hc1)
  refine wp_skip ?_
  refine k3 _ _ ?_
  refine sS H fun K5 k5=>sr 1 rfl<|sE ?_;clear H a;intro a H
  refine k5 _ ?_;clear k5 K5
  refine wp_seq_k fun K6 k6=>?_
  refine sS H fun K7 k7=>sr 1 rfl<|sL cX rfl<|sr 1 rfl<|sE ?_;clear H a;intro a H
  refine k7 _ ?_;clear k7 K7
  refine wp_block ?_
  refine loop_st (X:=Nat) (R0:=_) [2,3,8,22,23] H rfl (fun k=>[(10,.int .i64 (sumT l k)),(24,.int .i64 (k:Int))]) (fun k=>[]) (fun g k=>k≤l.length∧g+k=l.length∧∀ q,q<k→(fun k=>wornB (⟨rates,pwn,ptn,pag⟩:Part) l k (e (bJ (⟨rates,pwn,ptn,pag⟩:Part) l k))) q=false) (l.length) 0 ?_ (S.sel [0,1] G G) (H.keep [10,24,2,3,8,22,23] rfl) ?_
  · exact ⟨by omega,by omega,fun q hq=>absurd hq (Nat.not_lt_zero _)⟩
  clear H S a
  intro g1 x1 a w1 hp S H K8 k8
  obtain ⟨k,rfl⟩:∃ y,y=x1:=⟨_,rfl⟩
  refine sS H fun K9 k9=>sr 1 rfl<|sE ?_;clear H a;intro a H
  refine k9 _ ?_;clear k9 K9
  refine wp_seq_k fun K10 k10=>?_
  refine condL H rfl (fun hc2=>?_) (fun hc2=>?_)
  ·skip
   refine wp_skip ?_
   refine k10 _ _ ?_
   refine wp_seq_k fun K11 k11=>?_
   refine wp_block ?_
   refine seq_list fun K12 k12=>?_
   refine ls 3 H<|sr 1 rfl<|si cX cS G G (hl.adr (by omega)) (by omega)<|sd ((aV jG cS rfl S hl (by omega) (by omega)))<|sE ?_;clear H a;intro a H
   refine aI H rfl S jM ?_;clear H a S;intro b12 _ a hb12 hbw12 S H
   refine ls 1 H<|sr 1 rfl<|sE ?_;clear H a;intro a H
   refine aD H S (i:=0) G G G G cS G G ?_
   clear H a S;intro _ a S H
   refine k12 _ _ ?_;clear k12 K12
   have hsb:=Mp hok k (by omega)
   have hu:=hok.use (k:=k) (by omega);unfold useOk at hu;simp only [decide_eq_true_eq] at hu
   replace H:=H.keep [2,3,8,10,11,12,22,23,24] rfl
   refine sS H fun K13 k13=>sr 1 rfl<|sf jA rfl<|sl S 0 aE G G G<|sd (aK G G (by unfold i64ok;omega))<|sr 1 rfl<|sE ?_;clear H a;intro a H
   refine k13 _ ?_;clear k13 K13
   rcases (show ptn<sumT l (k+1)∨(¬ ptn<sumT l (k+1)∧pag<(l.getD k Use.zero).day)∨(¬ ptn<sumT l (k+1)∧¬ pag<(l.getD k Use.zero).day) from by omega) with hB|hB|hB
   ·skip
    replace H:=H.keep [2,3,8,10,11,12,22,23,24] rfl
    replace S:=S.drew
    refine seq_wq [(0,true),(1,true),(2,true),(3,true),(4,true),(5,true),(6,true),(7,true),(8,true),(9,true),(10,true),(11,true),(12,true),(13,true),(14,true),(15,true),(16,true),(17,true),(18,true),(19,true),(20,true),(21,true),(22,true)] (by kernel_rfl) (by kernel_rfl) (S.sel [0,1,2] G G) fun K14 k14=>?_
    refine qF H<|qr 1 rfl<|qd rfl (fun _ S=>(aC nM rfl))<|qd rfl (fun _ S=>aH aE rfl (boxM.rd S (i:=2) G G))<|qd rfl (fun _ S=>sT G G hB)<|qr 1 rfl<|qK ?_;clear H a;intro a H
    refine aJ H G G G G G ?_;clear H a;intro a H
    refine aJ H G G G G G ?_;clear H a;intro a H
    refine aJ H G G G G G ?_;clear H a;intro a H
    refine aJ H G G G G G ?_;clear H a;intro a H
    refine aJ H G G G G G ?_;clear H a;intro a H
    refine qF H<|qd rfl (fun _ S=>(aU G G G))<|qr 1 rfl<|qK ?_;clear H a;intro a H
    refine aJ H G G G G G ?_;clear H a;intro a H
    refine aJ H G G G G G ?_;clear H a;intro a H
    refine aJ H G G G G G ?_;clear H a;intro a H
    refine aJ H G G G G G ?_;clear H a;intro a H
    refine aJ H G G G G G ?_;clear H a;intro a H
    refine aJ H G G G G G ?_;clear H a;intro a H
    refine aJ H G G G G G ?_;clear H a;intro a H
    refine aJ H G G G G G ?_;clear H a;intro a H
    refine aJ H G G G G G ?_;clear H a;intro a H
    refine aJ H G G G G G ?_;clear H a;intro a H
    refine qF H<|qd rfl (fun _ S=>(aU G G G))<|qK ?_;clear H a;intro a H
    refine bN ?_
    refine k14 _ _ ?_
    clear k14 K14
    refine cond_ H rfl (fun hc3=>?_) (fun hc3=>?_)
    ·skip
     skip
     replace H:=H.keep [11] rfl
     refine sS H fun K15 k15=>sr 3 rfl<|sE ?_;clear H a;intro a H
     refine k15 _ ?_;clear k15 K15
     refine wp_ret ?_
     refine ret2 (fn:=Tryz.f194) rfl H G G ?_
     have e9:iE (fun k=>wornB (⟨rates,pwn,ptn,pag⟩:Part) l k (e (bJ (⟨rates,pwn,ptn,pag⟩:Part) l k))) l.length=k:=mB (by omega) (by show wornB _ _ _ _=true;unfold wornB;rw [decide_eq_true hB];simp) hp.2.2
     unfold dE;rw [if_neg (by omega),e9];exact ⟨rfl,(S.sel [] G G)⟩
    skip
    cases hc3
   ·skip
    replace H:=H.keep [2,3,8,10,11,12,22,23,24] rfl
    replace S:=S.drew
    refine seq_wq [(0,true),(1,true),(2,true),(3,true),(4,true),(5,true),(6,true),(7,true),(8,true),(9,true),(10,true),(11,true),(12,true),(13,true),(14,true),(15,true),(16,true),(17,true),(18,true),(19,true),(20,true),(21,true),(22,true)] (by kernel_rfl) (by kernel_rfl) (S.sel [0,1,2] G G) fun K16 k16=>?_
    refine qF H<|qr 1 rfl<|qd rfl (fun _ S=>(aC nM rfl))<|qd rfl (fun _ S=>aH aE rfl (boxM.rd S (i:=2) G G))<|qd rfl (fun _ S=>mY G G hB.1)<|qr 1 rfl<|qK ?_;clear H a;intro a H
    refine aF H G G G G (fun _ S=>(aC gE rfl)) ?_;clear H a;intro a H
    refine aF H G G G G (fun _ S=>aH aE rfl (boxM.rd S (i:=0) G G)) ?_;clear H a;intro a H
    refine aF H G G G G (fun _ S=>(aC pU rfl)) ?_;clear H a;intro a H
    refine aF H G G G G (fun _ S=>aH aE rfl (boxM.rd S (i:=2) G G)) ?_;clear H a;intro a H
    refine aF H G G G G (fun _ S=>sT G G hB.2) ?_;clear H a;intro a H
    refine qF H<|qd rfl (fun _ S=>(aW G G G))<|qr 1 rfl<|qK ?_;clear H a;intro a H
    refine aJ H G G G G G ?_;clear H a;intro a H
    refine aJ H G G G G G ?_;clear H a;intro a H
    refine aJ H G G G G G ?_;clear H a;intro a H
    refine aJ H G G G G G ?_;clear H a;intro a H
    refine aJ H G G G G G ?_;clear H a;intro a H
    refine aJ H G G G G G ?_;clear H a;intro a H
    refine aJ H G G G G G ?_;clear H a;intro a H
    refine aJ H G G G G G ?_;clear H a;intro a H
    refine aJ H G G G G G ?_;clear H a;intro a H
    refine aJ H G G G G G ?_;clear H a;intro a H
    refine qF H<|qd rfl (fun _ S=>(aU G G G))<|qK ?_;clear H a;intro a H
    refine bN ?_
    refine k16 _ _ ?_
    clear k16 K16
    refine cond_ H rfl (fun hc4=>?_) (fun hc4=>?_)
    ·skip
     skip
     replace H:=H.keep [11] rfl
     refine sS H fun K17 k17=>sr 3 rfl<|sE ?_;clear H a;intro a H
     refine k17 _ ?_;clear k17 K17
     refine wp_ret ?_
     refine ret2 (fn:=Tryz.f194) rfl H G G ?_
     have e9:iE (fun k=>wornB (⟨rates,pwn,ptn,pag⟩:Part) l k (e (bJ (⟨rates,pwn,ptn,pag⟩:Part) l k))) l.length=k:=mB (by omega) (by show wornB _ _ _ _=true;unfold wornB;rw [decide_eq_true hB.2];simp) hp.2.2
     unfold dE;rw [if_neg (by omega),e9];exact ⟨rfl,(S.sel [] G G)⟩
    skip
    cases hc4
   replace H:=H.keep [2,3,8,10,11,12,22,23,24] rfl
   replace S:=S.drew
   refine seq_wq [(0,true),(1,true),(2,true),(3,true),(4,true),(5,true),(6,true),(7,true),(8,true),(9,true),(10,true),(11,true),(12,true),(13,true),(14,true),(15,true),(16,true),(18,true),(19,true),(20,true),(17,false),(21,true),(22,true)] (by kernel_rfl) (by kernel_rfl) (S.sel [0,1,2] G G) fun K18 k18=>?_
   refine qF H<|qr 1 rfl<|qd rfl (fun _ S=>(aC nM rfl))<|qd rfl (fun _ S=>aH aE rfl (boxM.rd S (i:=2) G G))<|qd rfl (fun _ S=>mY G G hB.1)<|qr 1 rfl<|qK ?_;clear H a;intro a H
   refine aF H G G G G (fun _ S=>(aC gE rfl)) ?_;clear H a;intro a H
   refine aF H G G G G (fun _ S=>aH aE rfl (boxM.rd S (i:=0) G G)) ?_;clear H a;intro a H
   refine aF H G G G G (fun _ S=>(aC pU rfl)) ?_;clear H a;intro a H
   refine aF H G G G G (fun _ S=>aH aE rfl (boxM.rd S (i:=2) G G)) ?_;clear H a;intro a H
   refine aF H G G G G (fun _ S=>mY G G hB.2) ?_;clear H a;intro a H
   refine qF H<|qd rfl (fun _ S=>(aW G G G))<|qr 1 rfl<|qK ?_;clear H a;intro a H
   refine aF H G G G G (fun _ S=>aL rfl) ?_;clear H a;intro a H
   refine aF H G G G G (fun _ S=>aL rfl) ?_;clear H a;intro a H
   refine aF H G G G G (fun _ S=>aL rfl) ?_;clear H a;intro a H
   refine aF H G G G G (fun _ S=>bM cW aQ G G (ownM.adr S (i:=1) rfl (by omega)) (by omega)) ?_;clear H a;intro a H
   refine aF H G G G G (fun _ S=>(uQ aZ aQ rfl S (i:=1) rfl (by omega) (by omega))) ?_;clear H a;intro a H
   refine aF H G G G G (fun _ S=>(aC vF rfl)) ?_;clear H a;intro a H
   refine aF H G G G G (fun _ S=>aH aE rfl (boxM.rd S (i:=2) G G)) ?_;clear H a;intro a H
   refine aF H G G G G (fun _ S=>iP G G (by unfold i64ok;omega)) ?_;clear H a;intro a H
   refine aT rfl ?_
   refine aX H G G ?_
   refine mN (fs:=[]) (cs:=[]) (vs:=[.agg [.int .i64 (bJ (⟨rates,pwn,ptn,pag⟩:Part) l k).1,.int .i64 (bJ (⟨rates,pwn,ptn,pag⟩:Part) l k).2].toArray]) H G G G (hf) (hfb) (hfn) (by exact hcall (bJ (⟨rates,pwn,ptn,pag⟩:Part) l k).1 (bJ (⟨rates,pwn,ptn,pag⟩:Part) l k).2 _) ?_;clear H a
   rintro _ _ a ⟨rfl,S2⟩ H
   replace S:=S.call S2;clear S2
   refine wpList_nil (And.intro (S.sel [0,1,2] G G) ?_)
   refine aF H G G G G (fun _ S=>bU G G) ?_;clear H a;intro a H
   refine qF H<|qd rfl (fun _ S=>(aW G G G))<|qK ?_;clear H a;intro a H
   refine bN ?_
   refine k18 _ _ ?_
   clear k18 K18
   refine cond_ H rfl (fun hc5=>?_) (fun hc5=>?_)
   ·skip
    skip
    replace H:=H.keep [11] rfl
    refine sS H fun K19 k19=>sr 3 rfl<|sE ?_;clear H a;intro a H
    refine k19 _ ?_;clear k19 K19
    refine wp_ret ?_
    refine ret2 (fn:=Tryz.f194) rfl H G G ?_
    have e9:iE (fun k=>wornB (⟨rates,pwn,ptn,pag⟩:Part) l k (e (bJ (⟨rates,pwn,ptn,pag⟩:Part) l k))) l.length=k:=mB (by omega) (by show wornB _ _ _ _=true;unfold wornB;rw [decide_eq_false hB.1,decide_eq_false hB.2];exact hc5) hp.2.2
    unfold dE;rw [if_neg (by omega),e9];exact ⟨rfl,(S.sel [] G G)⟩
   skip
   refine wp_skip ?_
   refine k11 _ _ ?_
   refine sO H<|sd (aK G G (by unfold i64ok;omega))<|sr 1 rfl<|sE ?_;clear H a;intro a H
   exact k8 (g1-1) (k+1) a _ (by omega) (⟨by omega,by omega,fun q hq=>by
     by_cases h:q=k
     · subst h;show wornB _ _ _ _=false;unfold wornB;rw [decide_eq_false hB.1,decide_eq_false hB.2];exact hc5
     · exact hp.2.2 q (by omega)⟩) (S.sel [1,2] G G) (H.keep [10,24,2,3,8,22,23] rfl)
  refine wp_exit ?_
  refine k6 _ _ ?_
  refine sS H fun K21 k21=>sr 2 rfl<|sE ?_;clear H a;intro a H
  refine k21 _ ?_;clear k21 K21
  refine wp_ret ?_
  refine ret2 (fn:=Tryz.f194) rfl H G G ?_
  have hk9:k=l.length:=by omega
  subst hk9
  unfold dE;rw [if_neg (by omega),lM hp.2.2];exact ⟨rfl,(S.sel [] G G)⟩
 skip
 replace H:=H.keep [1,2,3] rfl
 refine seq_list fun K22 k22=>?_
 refine ls 2 H<|sd ((aB eM gR rfl S (i:=0) G G))<|sr 1 rfl<|sE ?_;clear H a;intro a H
 refine aA H G G Tryz.func156 G G (fJ (mX rates pwn ptn pag RA rcp l A cp _ (hr.now S) hrn (hl.now S) hn) (fun _ _=>Kj hA)) ?_;clear H a
 rintro _ _ a ⟨rfl,S2⟩ H
 replace S:=S.call S2;clear S2
 refine ls 5 H<|sr 5 rfl<|sE ?_;clear H a;intro a H
 refine k22 _ _ ?_;clear k22 K22
 refine wp_seq_k fun K23 k23=>?_
 replace H:=H.keep [1,2,3,8,9] rfl
 refine sS H fun K24 k24=>sr 2 rfl<|sE ?_;clear H a;intro a H
 refine k24 _ ?_;clear k24 K24
 refine condN H rfl (fun hc6=>?_) (fun hc6=>?_)
 ·skip
  refine sS H fun K25 k25=>sr 3 rfl<|sE ?_;clear H a;intro a H
  refine k25 _ ?_;clear k25 K25
  refine wp_ret ?_
  refine ret2 (fn:=Tryz.f194) rfl H G G ?_
  unfold dE;rw [if_pos hA];exact ⟨rfl,(S.sel [] G G)⟩
 all_goals (exfalso;omega)
theorem wE (rates:List (Int×Int)) (pwn ptn pag:Int) (RA:Option Addr) (rcp:Nat) (l:List Use) (A:Option Addr) (cp:Nat) (w:World) (hr:InS w noF 2 RA rates.length (scell rates)) (hrn:rates.length≤9223372036854775807) (hl:InS w noF 6 A l.length (ucell l)) (hn:l.length≤9223372036854775807) :
    Calls Tryz.prog 183 [.agg [.slice RA rates.length rcp,.int .i64 pwn,.int .i64 ptn,.int .i64 pag].toArray,.slice A l.length cp].toArray w (Ret (fun v w'=>v = .tuple #[.int .i64 (dE (⟨rates,pwn,ptn,pag⟩:Part) l Prod.snd).1,.int .i64 (dE (⟨rates,pwn,ptn,pag⟩:Part) l Prod.snd).2]∧St w noF [] w')):=by
 refine enter Tryz.func183 rfl Tryz.ntmps183 rfl (fun a H=>?_)
 have S:=St.start w
 refine seq_list fun K1 k1=>?_
 refine aN H rfl S G G ?_;clear H a S;intro b2 _ a hb2 hbw2 S H
 refine ls 2 H<|sr 2 rfl<|sE ?_;clear H a;intro a H
 refine k1 _ _ ?_;clear k1 K1
 replace H:=H.keep [1,2] rfl
 refine seq_list fun K2 k2=>?_
 refine ls 2 H<|sd ((aB eM gR rfl S (i:=0) G G))<|sr 1 rfl<|sE ?_;clear H a;intro a H
 refine aA H G G Tryz.func194 G G (zA rates pwn ptn pag RA rcp l A cp 195 _ Prod.snd _ (hr.now S) hrn (hl.now S) hn Tryz.func195 G G (fun a b w'=>sR a b w')) ?_;clear H a
 rintro _ _ a ⟨rfl,S2⟩ H
 replace S:=S.call S2;clear S2
 refine ls 4 H<|sr 4 rfl<|sE ?_;clear H a;intro a H
 refine k2 _ _ ?_;clear k2 K2
 refine wp_ret ?_
 refine ret2 (fn:=Tryz.f183) rfl H G G ?_
 exact ⟨rfl,(S.sel [] G G)⟩
end
section
theorem Kk {w:World} {p:Part} {l:List Use} {v:Value} {w':World} (h:WearR w p l v w'):∃ A n c,v = .tuple #[.slice A n c,.int .i64 (wearE p l)]∧St w noF [] w':=by
  rcases h with ⟨h0,A,c,rfl,S⟩|⟨_,rfl,S⟩
  · exact ⟨A,_,c,by rw [h0],S.sel [] rfl rfl⟩
  · exact ⟨none,0,0,rfl,S⟩
theorem mZ {l:List Use} {k:Nat} (h:k+1=l.length):(l.getD k Use.zero).day=prevD l l.length:=by rw [←h];rfl
theorem sU {p:Part} {l:List Use} (h:wearE p l=0):0≤prevD l l.length∧p.rates.length≤4:=by
  have h1:=kA (kS h).1
  have h2:=h1.hdr
  unfold eZ at h2
  simp only [decide_eq_true_eq] at h2
  exact ⟨oD h1.uses,h2.2.1⟩
theorem zB {P:Int} {ps:List Psg} {xs:List Int} (V:StV P ps xs) {n:Nat} (hn:n<ps.length):(∀ j,j<n→0≤(ps.getD n Psg.zero).mach→(ps.getD j Psg.zero).mach≠(ps.getD n Psg.zero).mach)∧∀ j,j<n→(ps.getD n Psg.zero).mach<0→(ps.getD j Psg.zero).mach=(ps.getD n Psg.zero).mach→(ps.getD j Psg.zero).mach<0:=
  ⟨fun j hj h0=>V.mach n hn h0 j hj,fun j _ h0 e=>by omega⟩
theorem Nw {pl:Int} {ps:List Psg} {xs:List Int} {day:List Hq} {l:List Prm} (h:keptE pl ps xs day l=0):StV pl ps xs:=nT (vS (xY h).1).1
theorem Nx {pl:Int} {ps:List Psg} {xs:List Int} {day:List Hq} {l:List Prm}:(keptV pl ps xs day l).2.2.2=keptE pl ps xs day l:=by
  unfold keptV
  split
  · rfl
  · split
    · dsimp only;omega
    · dsimp only;omega
theorem oE {days:Int} {s:Spr}:sprB days s=true↔((0≤s.day∧s.day≤days-1)∧(0≤s.kind∧s.kind≤3)∧(1≤s.many∧s.many≤8)):=by unfold sprB;rw [decide_eq_true_eq]
theorem Kl {pe:List Int} {k:Nat} (h:∀ q,q<k→0≤pe.getD q 0∧pe.getD q 0≤1000) (hk:0≤pe.getD k 0∧pe.getD k 0≤1000):∀ q,q<k+1→0≤pe.getD q 0∧pe.getD q 0≤1000:=fun q hq=>by
  by_cases e:q=k
  · subst e;exact hk
  · exact h q (by omega)
theorem eK {f:Nat→Bool} {k:Nat} (h:∀ q,q<k→f q=true) (hk:f k=true):∀ q,q<k+1→f q=true:=fun q hq=>by
  by_cases e:q=k
  · subst e;exact hk
  · exact h q (by omega)
theorem bK (n lo hi:Int) (w:World) :
    Calls Tryz.prog 82 [.int .i64 n,.int .i64 lo,.int .i64 hi].toArray w (Ret (fun v w'=>v = .bool (decide (lo≤n)&&decide (n≤hi))∧w'=w)):=by
 refine enter Tryz.func82 rfl Tryz.ntmps82 rfl (fun a H=>?_)
 have S:=St.start w
 refine sS H fun K1 k1=>sr 1 rfl<|sE ?_;clear H a;intro a H
 refine k1 _ ?_;clear k1 K1
 replace H:=H.keep [0,1,2] rfl
 refine sS H fun K2 k2=>sr 4 rfl<|sg 3 3 10 13 true G G (fun hg4=>sy hg4<|sr 1 rfl<|sy hg4<|sr 1 rfl<|sy hg4<|sr 1 rfl<|sz 3 G G G)<|sa G G G<|sr 1 rfl<|sE ?_;clear H a;intro a H
 refine k2 _ ?_;clear k2 K2
 refine wp_ret ?_
 refine ret1 (fn:=Tryz.f82) rfl H rfl ?_
 exact ⟨rfl,rfl⟩
theorem Ny (u:Unt) (ps:List Psg) (us:List Unt) (i mb:Nat) (w:World) (F:Nat→Prop) (S:St w F [mapK (fun n:Int=>Value.int .i64 n) mb (macP ps us ps.length i)] w) (hur:InS w F 2 u.RA u.rates.length (scell u.rates)) (hurn:u.rates.length≤9223372036854775807) (huu:InS w F 6 u.UA u.uses.length (ucell u.uses)) (huun:u.uses.length≤9223372036854775807) :
    Calls Tryz.prog 124 [.agg [.int .i64 u.mach,.int .i64 u.every,.int .i64 u.seen,.slice u.RA u.rates.length u.rc,.int .i64 u.worn,.int .i64 u.turns,.int .i64 u.age,.slice u.UA u.uses.length u.uc,.int .i64 u.old,.int .i64 u.tn,.int .i64 u.cl,.int .i64 u.kind].toArray,.map (some mb)].toArray w (Ret (fun v w'=>v = .bool (untU ps us i u)∧St w F [mapK (fun n:Int=>Value.int .i64 n) mb (macP ps us ps.length i)] w')):=by
 refine enter Tryz.func124 rfl Tryz.ntmps124 rfl (fun a H=>?_)
 skip
 refine seq_list fun K1 k1=>?_
 refine aN H rfl S G G ?_;clear H a S;intro b2 _ a hb2 hbw2 S H
 refine ls 1 H<|sr 1 rfl<|sE ?_;clear H a;intro a H
 refine k1 _ _ ?_;clear k1 K1
 refine wp_seq_k fun K2 k2=>?_
 replace H:=H.keep [1,2] rfl
 refine sS H fun K3 k3=>sr 1 rfl<|sf kO rfl<|sl S 0 aE G G G<|sd ((vY S (i:=1) rfl Ae (iN rfl) G G G (fun h hh=>hh u.mach):Does _ _ _ _ (.bool (freeM ps us i u.mach))))<|sr 2 rfl<|sg 4 5 14 18 false G G (fun hg6=>sy hg6<|sf pV rfl<|sy hg6<|sl S 0 aE G G G<|sy hg6<|sc rfl Tryz.func82 G G (bK _ _ _ _)<|sy hg6<|sr 1 rfl<|sz 4 G G G)<|so G G G<|sr 1 rfl<|sg 4 11 20 24 false G G (fun hg12=>sy hg12<|sf vG rfl<|sy hg12<|sl S 0 aE G G G<|sy hg12<|sc rfl Tryz.func82 G G (bK _ _ _ _)<|sy hg12<|sr 1 rfl<|sz 4 G G G)<|so G G G<|sr 1 rfl<|sg 4 17 26 30 false G G (fun hg18=>sy hg18<|sf Bo rfl<|sy hg18<|sl S 0 aE G G G<|sy hg18<|sc rfl Tryz.func82 G G (bK _ _ _ _)<|sy hg18<|sr 1 rfl<|sz 4 G G G)<|so G G G<|sE ?_;clear H a;intro a H
 refine k3 _ ?_;clear k3 K3
 refine cond_ H rfl (fun hc1=>?_) (fun hc1=>?_)
 ·skip
  try simp only [o1,o2,o3,o4,o5,o6,o7,o8,o9,oa] at hc1
  replace H:=H.keep [] rfl
  refine sS H fun K4 k4=>sr 1 rfl<|sE ?_;clear H a;intro a H
  refine k4 _ ?_;clear k4 K4
  refine wp_ret ?_
  refine ret1 (fn:=Tryz.f124) rfl H rfl ?_
  rw [yH (ps:=ps) (us:=us) (i:=i) (u:=u) (fun h=>by have h1:=h.free;have h2:=h.i;unfold untI at h2;rw [h1] at hc1;simp only [Bool.true_eq_false,Bool.not_true,Bool.false_eq_true,not_true_eq_false,false_or] at hc1;omega)];exact ⟨rfl,(S.sel [1] G G)⟩
 try simp only [o1,o2,o3,o4,o5,o6,o7,o8,o9,oa] at hc1
 refine wp_skip ?_
 refine k2 _ _ ?_
 refine wp_seq_k fun K5 k5=>?_
 replace H:=H.keep [2] rfl
 refine seq_list fun K6 k6=>?_
 refine ls 4 H<|sf lX rfl<|sd ((aB eM gR rfl S (i:=0) G G))<|sf fZ rfl<|sl S 0 iT G G G<|sE ?_;clear H a;intro a H
 refine aA H G G Tryz.func156 G G (fJ (mX u.rates u.worn u.turns u.age u.RA u.rc u.uses u.UA u.uc _ (hur.now S) hurn (huu.now S) huun) (fun _ _ h=>Kk h)) ?_;clear H a
 rintro _ _ a ⟨WA,wn,wc,rfl,S2⟩ H
 replace S:=S.call S2;clear S2
 refine ls 5 H<|sr 5 rfl<|sE ?_;clear H a;intro a H
 refine k6 _ _ ?_;clear k6 K6
 replace H:=H.keep [2,6] rfl
 refine sS H fun K7 k7=>sr 3 rfl<|sg 4 2 42 46 false G G (fun hg3=>sy hg3<|sf fZ rfl<|sy hg3<|sl S 0 iT G G G<|sy hg3<|sL cX rfl<|sy hg3<|sr 1 rfl<|sz 4 G G G)<|so G G G<|sE ?_;clear H a;intro a H
 refine k7 _ ?_;clear k7 K7
 refine cond_ H rfl (fun hc2=>?_) (fun hc2=>?_)
 ·skip
  try simp only [o1,o2,o3,o4,o5,o6,o7,o8,o9,oa] at hc2
  refine sS H fun K8 k8=>sr 1 rfl<|sE ?_;clear H a;intro a H
  refine k8 _ ?_;clear k8 K8
  refine wp_ret ?_
  refine ret1 (fn:=Tryz.f124) rfl H rfl ?_
  rw [yH (ps:=ps) (us:=us) (i:=i) (u:=u) (fun h=>by have h1:=h.wear;have h2:=h.i;unfold untI at h2;rcases hc2 with h9|h9;exact h9 h1;omega)];exact ⟨rfl,(S.sel [1] rfl rfl)⟩
 try simp only [o1,o2,o3,o4,o5,o6,o7,o8,o9,oa] at hc2
 have hwe:wearE u.part u.uses=0:=by have h9:=hc2;show wearE ⟨u.rates,u.worn,u.turns,u.age⟩ u.uses=0;omega
 have hpv:=sU hwe
 refine wp_skip ?_
 refine k5 _ _ ?_
 replace H:=H.keep [2] rfl
 refine sS H fun K9 k9=>sr 1 rfl<|sE ?_;clear H a;intro a H
 refine k9 _ ?_;clear k9 K9
 have SR:=(S.sel [0,1] G G)
 refine meet_sr (X:=Int) [2] H rfl (fun x=>[(7,.int .i64 x)]) (fun x=>[]) (fun x=>x=prevD u.uses u.uses.length) SR (fun K11 k11=>?_) ?_
 ·skip
  refine sS H fun K12 k12=>sf fZ rfl<|sl S 0 iT G G G<|sL cX rfl<|sr 1 rfl<|sE ?_;clear H a;intro a H
  refine k12 _ ?_;clear k12 K12
  refine sS H fun K13 k13=>sr 2 rfl<|sE ?_;clear H a;intro a H
  refine k13 _ ?_;clear k13 K13
  refine condL H rfl (fun hc3=>?_) (fun hc3=>?_)
  ·skip
   replace H:=H.keep [2,8] rfl
   refine sO H<|sf fZ rfl<|sl S 0 iT G G G<|sr 1 rfl<|sd (aR G G (by unfold i64ok;omega))<|sI cX cS G G (huu.adr (by omega)) (by omega) (by omega)<|sp gE rfl<|slm aE rfl (huu.rd S (by omega) (by omega))<|sr 1 rfl<|sE ?_;clear H a;intro a H
   exact k11 _ a _ (mZ (k:=((u.uses.length:Int)-1).toNat) (by omega)) (S.sel [0,1] G G) (H.keep [7,2] rfl)
  refine wp_skip ?_
  exact k11 _ a _ (by rw [show u.uses.length=0 by omega];rfl) (S.sel [0,1] G G) (H.keep [7,2] rfl)
 clear SR H S a
 intro xm a wm hp S H
 obtain ⟨x,rfl⟩:∃ y,y=xm:=⟨_,rfl⟩
 replace H:=H.keep [2,7] rfl
 refine sS H fun K15 k15=>sf pW rfl<|sl S 0 aE G G G<|sr 1 rfl<|sc rfl Tryz.func82 G G (bK _ _ _ _)<|sr 1 rfl<|sg 3 4 64 67 true G G (fun hg5=>sy hg5<|sf pX rfl<|sy hg5<|sl S 0 aE G G G<|sy hg5<|sc rfl Tryz.func82 G G (bK _ _ _ _)<|sz 3 G G G)<|sa G G G<|sr 1 rfl<|sg 8 9 69 77 true G G (fun hg10=>sy hg10<|sf pY rfl<|sy hg10<|sl S 0 aE G G G<|sy hg10<|sf lX rfl<|sy hg10<|sf eX rfl<|sy hg10<|sl S 0 gU G G G<|sy hg10<|sL cW rfl<|sy hg10<|sd (aR G G (by unfold i64ok;omega))<|sy hg10<|sc rfl Tryz.func82 G G (bK _ _ _ _)<|sz 8 G G G)<|sa G G G<|sr 1 rfl<|sE ?_;clear H a;intro a H
 refine k15 _ ?_;clear k15 K15
 refine wp_ret ?_
 refine ret1 (fn:=Tryz.f124) rfl H rfl ?_
 refine ⟨congrArg Value.bool ?_,(S.sel [1] G G)⟩
 rw [Bool.eq_iff_iff,rW]
 simp only [Bool.and_eq_true,decide_eq_true_eq]
 constructor
 · intro h9
   refine ⟨?_,?_,hwe⟩
   · rcases hc1 with ⟨⟨⟨h1,_⟩,_⟩,_⟩;exact h1
   · unfold untI;omega
 · intro h9
   have h2:=h9.i
   unfold untI at h2
   omega
theorem Nz (y:Yr) (w:World) (hy:YIn w noF y) (hyb:YBd y) :
    Calls Tryz.prog 81 [.agg [.int .i64 y.days,.int .i64 y.pl,.slice y.PA y.ps.length y.pc,.slice y.XA y.xs.length y.xc,.slice y.BA y.pe.length y.bc,.int .i64 y.limit,.bool y.help,.slice y.QA y.prs.length y.qc,.slice y.VA y.us.length y.vc,.int .i64 y.crew,.slice y.SA y.sps.length y.sc].toArray].toArray w (Ret (fun v w'=>v = .int .i64 (yearE y)∧St w noF [] w')):=by
 have hn1:=hyb.psn;have hn2:=hyb.pen;have hn3:=hyb.usn;have hn4:=hyb.spn
 refine enter Tryz.func81 rfl Tryz.ntmps81 rfl (fun a H=>?_)
 have S:=St.start w
 refine seq_list fun K1 k1=>?_
 refine aN H rfl S G G ?_;clear H a S;intro b1 _ a hb1 hbw1 S H
 refine ls 1 H<|sr 1 rfl<|sE ?_;clear H a;intro a H
 refine k1 _ _ ?_;clear k1 K1
 refine wp_seq_k fun K2 k2=>?_
 replace H:=H.keep [1] rfl
 refine seq_list fun K3 k3=>?_
 refine ls 4 H<|sf jI rfl<|sd ((aB eQ hX rfl S (i:=0) G G))<|sf pT rfl<|sl S 0 oO G G G<|sE ?_;clear H a;intro a H
 refine aA H G G Tryz.func70 G G (Fq y.pl y.ps y.PA y.pc y.xs y.XA y.xc ([]:List Hq) none 0 (fun _=>none) (fun _=>0) y.prs y.QA y.qc _ (hy.ps.now S) hyb.psn (hy.xs.now S) hyb.xsn InS.nil (by decide) (fun k hk=>absurd hk (Nat.not_lt_zero k)) (fun k hk=>absurd hk (Nat.not_lt_zero k)) (hy.prs.now S) hyb.prn) ?_;clear H a
 rintro _ _ a ⟨rfl,S2⟩ H
 replace S:=S.call S2;clear S2
 rw [Nx] at H
 refine ls 9 H<|sr 9 rfl<|sE ?_;clear H a;intro a H
 refine k3 _ _ ?_;clear k3 K3
 replace H:=H.keep [1,6] rfl
 refine sS H fun K4 k4=>sr 2 rfl<|sE ?_;clear H a;intro a H
 refine k4 _ ?_;clear k4 K4
 refine condN H rfl (fun hc1=>?_) (fun hc1=>?_)
 ·skip
  refine sS H fun K5 k5=>sr 2 rfl<|sE ?_;clear H a;intro a H
  refine k5 _ ?_;clear k5 K5
  refine wp_ret ?_
  refine ret1 (fn:=Tryz.f81) rfl H rfl ?_
  exact ⟨congrArg _ (mU hc1).symm,(S.sel [] G G)⟩
 have hke:keptE y.pl y.ps y.xs [] y.prs=0:=by omega
 have hV:=Nw hke
 refine wp_skip ?_
 refine k2 _ _ ?_
 refine wp_seq_k fun K6 k6=>?_
 replace H:=H.keep [1] rfl
 refine sS H fun K7 k7=>sf dK rfl<|sl S 0 aE G G G<|sc rfl Tryz.func82 G G (bK _ _ _ _)<|sr 2 rfl<|sg 7 4 33 40 false G G (fun hg5=>by
     have hq5:=hg5;try simp only [o1,o2,o3,o4,o5,o6,o7,o8,o9,oa] at hq5
     exact sy hg5<|sf vE rfl<|sy hg5<|sl S 0 bD G G G<|sy hg5<|sL aS rfl<|sy hg5<|sf jI rfl<|sy hg5<|sf eG rfl<|sy hg5<|sl S 0 aE G G G<|sy hg5<|sr 1 rfl<|sz 7 G G G)<|so G G G<|sr 1 rfl<|sg 4 13 42 46 false G G (fun hg14=>by
     have hq14:=hg14;try simp only [o1,o2,o3,o4,o5,o6,o7,o8,o9,oa] at hq14
     exact sy hg14<|sf Bm rfl<|sy hg14<|sl S 0 aE G G G<|sy hg14<|sc rfl Tryz.func82 G G (bK _ _ _ _)<|sy hg14<|sr 1 rfl<|sz 4 G G G)<|so G G G<|sr 1 rfl<|sg 4 19 48 52 false G G (fun hg20=>by
     have hq20:=hg20;try simp only [o1,o2,o3,o4,o5,o6,o7,o8,o9,oa] at hq20
     exact sy hg20<|sf Bn rfl<|sy hg20<|sl S 0 aE G G G<|sy hg20<|sc rfl Tryz.func82 G G (bK _ _ _ _)<|sy hg20<|sr 1 rfl<|sz 4 G G G)<|so G G G<|sr 1 rfl<|sg 4 25 54 58 false G G (fun hg26=>by
     have hq26:=hg26;try simp only [o1,o2,o3,o4,o5,o6,o7,o8,o9,oa] at hq26
     exact sy hg26<|sf nL rfl<|sy hg26<|sl S 0 qX G G G<|sy hg26<|sL tQ rfl<|sy hg26<|sr 1 rfl<|sz 4 G G G)<|so G G G<|sE ?_;clear H a;intro a H
 refine k7 _ ?_;clear k7 K7
 refine cond_ H rfl (fun hc2=>?_) (fun hc2=>?_)
 ·skip
  try simp only [o1,o2,o3,o4,o5,o6,o7,o8,o9,oa] at hc2
  replace H:=H.keep [] rfl
  refine sS H fun K8 k8=>sr 1 rfl<|sE ?_;clear H a;intro a H
  refine k8 _ ?_;clear k8 K8
  refine wp_ret ?_
  refine ret1 (fn:=Tryz.f81) rfl H rfl ?_
  rw [nZ hke (fun h=>by unfold yrI at h;omega)];exact ⟨rfl,(S.sel [] G G)⟩
 try simp only [o1,o2,o3,o4,o5,o6,o7,o8,o9,oa] at hc2
 refine wp_skip ?_
 refine k6 _ _ ?_
 refine wp_seq_k fun K9 k9=>?_
 refine sS H fun K10 k10=>sf vE rfl<|sl S 0 bD G G G<|sL aS rfl<|sr 1 rfl<|sE ?_;clear H a;intro a H
 refine k10 _ ?_;clear k10 K10
 refine wp_block ?_
 refine loop_st (X:=Nat) (R0:=_) [1,61,62] H rfl (fun k=>[(63,.int .i64 (k:Int))]) (fun k=>[]) (fun g k=>k≤y.pe.length∧g+k=y.pe.length∧∀ q,q<k→0≤y.pe.getD q 0∧y.pe.getD q 0≤1000) (y.pe.length) 0 ?_ (S.sel [0] G G) (H.keep [63,1,61,62] rfl) ?_
 · exact ⟨by omega,by omega,fun q hq=>absurd hq (Nat.not_lt_zero q)⟩
 clear H S a
 intro g1 x1 a w1 hp S H K11 k11
 obtain ⟨k,rfl⟩:∃ y,y=x1:=⟨_,rfl⟩
 refine sS H fun K12 k12=>sr 1 rfl<|sE ?_;clear H a;intro a H
 refine k12 _ ?_;clear k12 K12
 refine wp_seq_k fun K13 k13=>?_
 refine condL H rfl (fun hc3=>?_) (fun hc3=>?_)
 ·skip
  refine wp_skip ?_
  refine k13 _ _ ?_
  refine wp_seq_k fun K14 k14=>?_
  refine wp_block ?_
  refine sS H fun K15 k15=>si aS bA G G (hy.pe.adr (by omega)) (by omega)<|slm aE rfl (hy.pe.rd S (by omega) (by omega))<|sr 1 rfl<|sE ?_;clear H a;intro a H
  refine k15 _ ?_;clear k15 K15
  refine sS H fun K16 k16=>sr 1 rfl<|sc rfl Tryz.func82 G G (bK _ _ _ _)<|sr 1 rfl<|sE ?_;clear H a;intro a H
  refine k16 _ ?_;clear k16 K16
  refine cond_ H rfl (fun hc4=>?_) (fun hc4=>?_)
  ·skip
   try simp only [o1,o2,o3,o4,o5,o6,o7,o8,o9,oa] at hc4
   refine sS H fun K17 k17=>sr 1 rfl<|sE ?_;clear H a;intro a H
   refine k17 _ ?_;clear k17 K17
   refine wp_ret ?_
   refine ret1 (fn:=Tryz.f81) rfl H rfl ?_
   rw [nZ hke (fun h=>by have h9:=h.2.1.2 k (by omega);omega)];exact ⟨rfl,(S.sel [] G G)⟩
  try simp only [o1,o2,o3,o4,o5,o6,o7,o8,o9,oa] at hc4
  refine wp_skip ?_
  refine k14 _ _ ?_
  replace H:=H.keep [1,61,62,63] rfl
  refine sO H<|sd (aK G G (by unfold i64ok;omega))<|sr 1 rfl<|sE ?_;clear H a;intro a H
  exact k11 (g1-1) (k+1) a _ (by omega) (⟨by omega,by omega,Kl hp.2.2 (by omega)⟩) (S.sel [0] G G) (H.keep [63,1,61,62] rfl)
 refine wp_exit ?_
 refine k9 _ _ ?_
 refine wp_seq_k fun K19 k19=>?_
 refine sS H fun K20 k20=>sf nL rfl<|sl S 0 qX G G G<|sL tQ rfl<|sr 1 rfl<|sE ?_;clear H a;intro a H
 refine k20 _ ?_;clear k20 K20
 refine wp_block ?_
 have hpe9:∀ q,q<y.pe.length→0≤y.pe.getD q 0∧y.pe.getD q 0≤1000:=fun q hq=>hp.2.2 q (by omega)
 refine loop_st (X:=Nat) (R0:=_) [1,72,73] H rfl (fun k=>[(74,.int .i64 (k:Int))]) (fun k=>[]) (fun g k=>k≤y.sps.length∧g+k=y.sps.length∧∀ q,q<k→sprB y.days (y.sps.getD q Spr.zero)=true) (y.sps.length) 0 ?_ (S.sel [0] G G) (H.keep [74,1,72,73] rfl) ?_
 · exact ⟨by omega,by omega,fun q hq=>absurd hq (Nat.not_lt_zero q)⟩
 clear H S a
 intro g2 x2 a w2 hp S H K21 k21
 obtain ⟨k,rfl⟩:∃ y,y=x2:=⟨_,rfl⟩
 refine sS H fun K22 k22=>sr 1 rfl<|sE ?_;clear H a;intro a H
 refine k22 _ ?_;clear k22 K22
 refine wp_seq_k fun K23 k23=>?_
 refine condL H rfl (fun hc5=>?_) (fun hc5=>?_)
 ·skip
  refine wp_skip ?_
  refine k23 _ _ ?_
  refine wp_seq_k fun K24 k24=>?_
  refine wp_block ?_
  refine seq_list fun K25 k25=>?_
  refine ls 2 H<|si tQ oS G G (hy.sps.adr (by omega)) (by omega)<|sd ((aV Bl oS rfl S hy.sps (by omega) (by omega)))<|sE ?_;clear H a;intro a H
  refine aI H rfl S Ht ?_;clear H a S;intro b10 _ a hb10 hbw10 S H
  refine aD H S (i:=0) G G G G oS G G ?_
  clear H a S;intro _ a S H
  refine k25 _ _ ?_;clear k25 K25
  replace H:=H.keep [1,10,72,73,74] rfl
  refine sS H fun K26 k26=>sf xO rfl<|sl S 0 aE G G G<|sf dK rfl<|sl S 1 aE G G G<|sd (aR G G (by unfold i64ok;omega))<|sc rfl Tryz.func82 G G (bK _ _ _ _)<|sr 2 rfl<|sg 4 7 85 89 false G G (fun hg8=>by
      have hq8:=hg8;try simp only [o1,o2,o3,o4,o5,o6,o7,o8,o9,oa] at hq8
      exact sy hg8<|sf xP rfl<|sy hg8<|sl S 0 aE G G G<|sy hg8<|sc rfl Tryz.func82 G G (bK _ _ _ _)<|sy hg8<|sr 1 rfl<|sz 4 G G G)<|so G G G<|sr 1 rfl<|sg 4 13 91 95 false G G (fun hg14=>by
      have hq14:=hg14;try simp only [o1,o2,o3,o4,o5,o6,o7,o8,o9,oa] at hq14
      exact sy hg14<|sf xQ rfl<|sy hg14<|sl S 0 aE G G G<|sy hg14<|sc rfl Tryz.func82 G G (bK _ _ _ _)<|sy hg14<|sr 1 rfl<|sz 4 G G G)<|so G G G<|sE ?_;clear H a;intro a H
  refine k26 _ ?_;clear k26 K26
  refine cond_ H rfl (fun hc6=>?_) (fun hc6=>?_)
  ·skip
   try simp only [o1,o2,o3,o4,o5,o6,o7,o8,o9,oa] at hc6
   replace H:=H.keep [] rfl
   refine sS H fun K27 k27=>sr 1 rfl<|sE ?_;clear H a;intro a H
   refine k27 _ ?_;clear k27 K27
   refine wp_ret ?_
   refine ret1 (fn:=Tryz.f81) rfl H rfl ?_
   rw [nZ hke (fun h=>by have h9:=oE.1 (h.2.2.2.2.2 k (by omega));omega)];exact ⟨rfl,(S.sel [] G G)⟩
  try simp only [o1,o2,o3,o4,o5,o6,o7,o8,o9,oa] at hc6
  refine wp_skip ?_
  refine k24 _ _ ?_
  refine sO H<|sd (aK G G (by unfold i64ok;omega))<|sr 1 rfl<|sE ?_;clear H a;intro a H
  exact k21 (g2-1) (k+1) a _ (by omega) (⟨by omega,by omega,eK (f:=fun q=>sprB y.days (y.sps.getD q Spr.zero)) hp.2.2 (oE.2 (by omega))⟩) (S.sel [1] G G) (H.keep [74,1,72,73] rfl)
 refine wp_exit ?_
 refine k19 _ _ ?_
 refine wp_seq_k fun K29 k29=>?_
 refine sS H fun K30 k30=>sf cM rfl<|sl S 0 dL G G G<|sL eI rfl<|sr 1 rfl<|sE ?_;clear H a;intro a H
 refine k30 _ ?_;clear k30 K30
 refine condL H rfl (fun hc7=>?_) (fun hc7=>?_)
 ·skip
  refine sS H fun K31 k31=>sr 1 rfl<|sE ?_;clear H a;intro a H
  refine k31 _ ?_;clear k31 K31
  refine wp_ret ?_
  refine ret1 (fn:=Tryz.f81) rfl H rfl ?_
  rw [rS hke (by
    unfold yrI
    have h9:=hp.2.2
    exact ⟨by omega,⟨by omega,hpe9⟩,by omega,by omega,by omega,fun q hq=>h9 q (by omega)⟩) (by omega)];exact ⟨rfl,(S.sel [] G G)⟩
 refine wp_skip ?_
 refine k29 _ _ ?_
 replace H:=H.keep [1] rfl
 refine seq_list fun K32 k32=>?_
 refine hO (fun n:Int=>Value.int .i64 n) (macP y.ps y.us 0 0) Er H rfl S ?_;clear H a S;intro mb _ a hmb S H
 refine ls 1 H<|sr 1 rfl<|sE ?_;clear H a;intro a H
 refine k32 _ _ ?_;clear k32 K32
 refine wp_seq_k fun K33 k33=>?_
 refine sS H fun K34 k34=>sf jI rfl<|sf iJ rfl<|sl S 1 kI G G G<|sL kW rfl<|sr 1 rfl<|sE ?_;clear H a;intro a H
 refine k34 _ ?_;clear k34 K34
 refine wp_block ?_
 have hyi:yrI y:=by
   unfold yrI
   have h9:=hp.2.2
   exact ⟨by omega,⟨by omega,hpe9⟩,by omega,by omega,by omega,fun q hq=>h9 q (by omega)⟩
 refine loop_st (X:=Nat) (R0:=_) [1,11,105,106] H rfl (fun k=>[(107,.int .i64 (k:Int))]) (fun k=>[mapK (fun n:Int=>Value.int .i64 n) mb (macP y.ps y.us k 0)]) (fun g k=>k≤y.ps.length∧g+k=y.ps.length) (y.ps.length) 0 ?_ (S.sel [0,1] G G) (H.keep [107,1,11,105,106] rfl) ?_
 · exact ⟨by omega,by omega⟩
 clear H S a
 intro g3 x3 a w3 hp S H K35 k35
 obtain ⟨k,rfl⟩:∃ y,y=x3:=⟨_,rfl⟩
 refine sS H fun K36 k36=>sr 1 rfl<|sE ?_;clear H a;intro a H
 refine k36 _ ?_;clear k36 K36
 refine wp_seq_k fun K37 k37=>?_
 refine condL H rfl (fun hc8=>?_) (fun hc8=>?_)
 ·skip
  refine wp_skip ?_
  refine k37 _ _ ?_
  refine wp_seq_k fun K38 k38=>?_
  refine wp_block ?_
  refine seq_list fun K39 k39=>?_
  refine ls 2 H<|si kW eR G G (hy.ps.adr (by omega)) (by omega)<|sd ((aV kJ eR rfl S hy.ps (by omega) (by omega)))<|sE ?_;clear H a;intro a H
  refine aI H rfl S rH ?_;clear H a S;intro b13 _ a hb13 hbw13 S H
  refine aD H S (i:=0) G G G G eR G G ?_
  clear H a S;intro _ a S H
  refine k39 _ _ ?_;clear k39 K39
  replace H:=H.keep [1,11,13,105,106,107] rfl
  refine one_list ?_
  refine ls 6 H<|sr 1 rfl<|sf dH rfl<|sl S 0 aE G G G<|sf dH rfl<|sl S 0 aE G G G<|sr 1 rfl<|sE ?_;clear H a;intro a H
  refine iF (k:=(y.ps.getD k Psg.zero).mach) (macP y.ps y.us (k+1) 0) H S (i:=1) rfl Ae (iN rfl) G G G (Mz (zB hV (by omega)).1 (zB hV (by omega)).2) ?_;clear H a S;intro _ a S H
  refine k38 _ _ ?_
  refine sO H<|sd (aK G G (by unfold i64ok;omega))<|sr 1 rfl<|sE ?_;clear H a;intro a H
  exact k35 (g3-1) (k+1) a _ (by omega) (⟨by omega,by omega⟩) (S.sel [1,2] G G) (H.keep [107,1,11,105,106] rfl)
 refine wp_exit ?_
 refine k33 _ _ ?_
 refine wp_seq_k fun K42 k42=>?_
 replace H:=H.keep [1,11] rfl
 refine sS H fun K43 k43=>sf cM rfl<|sl S 1 dL G G G<|sL eI rfl<|sr 1 rfl<|sE ?_;clear H a;intro a H
 refine k43 _ ?_;clear k43 K43
 refine wp_block ?_
 obtain rfl:k=y.ps.length:=by omega
 refine loop_st (X:=Nat) (R0:=_) [11,119,120] H rfl (fun k=>[(121,.int .i64 (k:Int))]) (fun k=>[mapK (fun n:Int=>Value.int .i64 n) mb (macP y.ps y.us y.ps.length k)]) (fun g k=>k≤y.us.length∧g+k=y.us.length∧∀ q,q<k→untB y.ps y.us q=true) (y.us.length) 0 ?_ (S.sel [0,1] G G) (H.keep [121,11,119,120] rfl) ?_
 · exact ⟨by omega,by omega,fun q hq=>absurd hq (Nat.not_lt_zero q)⟩
 clear H S a
 intro g4 x4 a w4 hp S H K44 k44
 obtain ⟨k,rfl⟩:∃ y,y=x4:=⟨_,rfl⟩
 refine sS H fun K45 k45=>sr 1 rfl<|sE ?_;clear H a;intro a H
 refine k45 _ ?_;clear k45 K45
 refine wp_seq_k fun K46 k46=>?_
 refine condL H rfl (fun hc9=>?_) (fun hc9=>?_)
 ·skip
  refine wp_skip ?_
  refine k46 _ _ ?_
  refine wp_seq_k fun K47 k47=>?_
  refine wp_block ?_
  refine seq_list fun K48 k48=>?_
  refine ls 2 H<|si eI hY G G (hy.us.adr (by omega)) (by omega)<|sd ((aV oP hY rfl S hy.us (by omega) (by omega)))<|sE ?_;clear H a;intro a H
  refine aI H rfl S tR ?_;clear H a S;intro b15 _ a hb15 hbw15 S H
  refine aD H S (i:=0) G G G G hY G G ?_
  clear H a S;intro _ a S H
  refine k48 _ _ ?_;clear k48 K48
  refine wp_seq_k fun K49 k49=>?_
  refine seq_list fun K50 k50=>?_
  refine ls 2 H<|sd ((aB oP hY rfl S (i:=0) G G))<|sr 1 rfl<|sE ?_;clear H a;intro a H
  refine aA H G G Tryz.func124 G G (Ny (y.u k) y.ps y.us k mb _ _ ((S.sel [1] G G).startR) ((hy.rt k (by omega)).nowR (S.sel [1] G G)) (hyb.rtn (by omega)) ((hy.ul k (by omega)).nowR (S.sel [1] G G)) (hyb.uln (by omega))) ?_;clear H a
  rintro _ _ a ⟨rfl,S2⟩ H
  replace S:=St.callR (M:=[_]) (S.sel [1,0,2] G G) S2;clear S2
  refine ls 1 H<|sr 1 rfl<|sE ?_;clear H a;intro a H
  refine k50 _ _ ?_;clear k50 K50
  refine cond_ H rfl (fun hc10=>?_) (fun hc10=>?_)
  ·skip
   try simp only [o1,o2,o3,o4,o5,o6,o7,o8,o9,oa] at hc10
   replace H:=H.keep [] rfl
   refine sS H fun K51 k51=>sr 1 rfl<|sE ?_;clear H a;intro a H
   refine k51 _ ?_;clear k51 K51
   refine wp_ret ?_
   refine ret1 (fn:=Tryz.f81) rfl H rfl ?_
   rw [rT hke hyi (by omega) (show k<y.us.length by omega) hc10];exact ⟨rfl,(S.sel [] G G)⟩
  try simp only [o1,o2,o3,o4,o5,o6,o7,o8,o9,oa] at hc10
  refine wp_skip ?_
  refine k49 _ _ ?_
  refine one_list ?_
  refine ls 3 H<|sr 1 rfl<|sf kO rfl<|sl S 1 aE G G G<|sE ?_;clear H a;intro a H
  refine iF (k:=(y.us.getD k Unt.zero).mach) (macP y.ps y.us y.ps.length (k+1)) H S (i:=0) rfl Ae (iN rfl) G G G Na ?_;clear H a S;intro _ a S H
  refine k47 _ _ ?_
  refine sO H<|sd (aK G G (by unfold i64ok;omega))<|sr 1 rfl<|sE ?_;clear H a;intro a H
  exact k44 (g4-1) (k+1) a _ (by omega) (⟨by omega,by omega,eK (f:=untB y.ps y.us) hp.2.2 hc10⟩) (S.sel [0,2] G G) (H.keep [121,11,119,120] rfl)
 refine wp_exit ?_
 refine k42 _ _ ?_
 refine sS H fun K54 k54=>sr 1 rfl<|sE ?_;clear H a;intro a H
 refine k54 _ ?_;clear k54 K54
 refine wp_ret ?_
 refine ret1 (fn:=Tryz.f81) rfl H rfl ?_
 rw [yF hke hyi (by omega) (bI.2 fun q hq=>hp.2.2 q (by omega))];exact ⟨rfl,(S.sel [] G G)⟩
end
section
theorem chk5 (A B C:Prop) [Decidable A] [Decidable B] [Decidable C] (k:Nat):¬ A∨(A∧¬ B)∨(A∧B∧¬ C)∨(A∧B∧C∧k=0)∨(A∧B∧C∧0<k):=by
  by_cases hA:A <;> by_cases hB:B <;> by_cases hC:C <;> by_cases hk:k=0 <;> simp [hA,hB,hC,hk] <;> omega
section
variable {P:Program} {w:World} {L:List (Nat×Value)} {ty:TypeId} {pos:String} {af:Array Edge} {dd:Option Nat} {g:Option (Nat×Bool)}
theorem fW {x:Operand} {xt:TypeId} {lo n hi:Int} (hx:ev L x=some (.bool (decide (lo≤n)&&decide (n≤hi)))) (h:¬ (lo≤n∧n≤hi)):Does P L ⟨dd,.unOp .not xt x,ty,pos,af,g⟩ w (.bool true):=by
  have h1:=cJ (P:=P) (d:=dd) (w:=w) (ty:=ty) (pos:=pos) (af:=af) (g:=g) (xt:=xt) hx
  have e:(!(decide (lo≤n)&&decide (n≤hi)))=true:=by simp only [Bool.not_eq_true',Bool.and_eq_false_iff,decide_eq_false_iff_not];omega
  rw [e] at h1
  exact h1
theorem bQ {x:Operand} {xt:TypeId} {lo n hi:Int} (hx:ev L x=some (.bool (decide (lo≤n)&&decide (n≤hi)))) (h:lo≤n∧n≤hi):Does P L ⟨dd,.unOp .not xt x,ty,pos,af,g⟩ w (.bool false):=by
  have h1:=cJ (P:=P) (d:=dd) (w:=w) (ty:=ty) (pos:=pos) (af:=af) (g:=g) (xt:=xt) hx
  rw [decide_eq_true h.1,decide_eq_true h.2] at h1
  exact h1
end
section
variable {y:Yr} {l:List Tsk} {k:Nat}
def tskI (y:Yr) (t:Tsk):Prop:=(0≤t.day∧t.day≤y.days-1)∧(0≤t.unit∧t.unit≤(y.us.length:Int)-1)∧(1≤t.kind∧t.kind≤2)
theorem kC (h:¬ ((0≤(l.getD k Tsk.zero).day∧(l.getD k Tsk.zero).day≤y.days-1)∧(0≤(l.getD k Tsk.zero).unit∧(l.getD k Tsk.zero).unit≤(y.us.length:Int)-1)∧(1≤(l.getD k Tsk.zero).kind∧(l.getD k Tsk.zero).kind≤2))):tskB y l k=false:=by
  unfold tskB;rw [decide_eq_false h,Bool.false_and]
theorem zC (hB:(0≤(l.getD k Tsk.zero).day∧(l.getD k Tsk.zero).day≤y.days-1)∧(0≤(l.getD k Tsk.zero).unit∧(l.getD k Tsk.zero).unit≤(y.us.length:Int)-1)∧(1≤(l.getD k Tsk.zero).kind∧(l.getD k Tsk.zero).kind≤2)∧0<k) (h:befB (l.getD ((k:Int)-1).toNat Tsk.zero) (l.getD k Tsk.zero)=false):tskB y l k=false:=by
  rw [show ((k:Int)-1).toNat=k-1 by omega] at h
  unfold tskB;rw [h,decide_eq_false (show ¬ k=0 by omega),Bool.or_self,Bool.and_false]
theorem mE (hB:(0≤(l.getD k Tsk.zero).day∧(l.getD k Tsk.zero).day≤y.days-1)∧(0≤(l.getD k Tsk.zero).unit∧(l.getD k Tsk.zero).unit≤(y.us.length:Int)-1)∧(1≤(l.getD k Tsk.zero).kind∧(l.getD k Tsk.zero).kind≤2)∧k=0):tskB y l k=true:=by
  unfold tskB;rw [decide_eq_true ⟨hB.1,hB.2.1,hB.2.2.1⟩,decide_eq_true hB.2.2.2];rfl
theorem mF (hB:(0≤(l.getD k Tsk.zero).day∧(l.getD k Tsk.zero).day≤y.days-1)∧(0≤(l.getD k Tsk.zero).unit∧(l.getD k Tsk.zero).unit≤(y.us.length:Int)-1)∧(1≤(l.getD k Tsk.zero).kind∧(l.getD k Tsk.zero).kind≤2)∧0<k) (h:befB (l.getD ((k:Int)-1).toNat Tsk.zero) (l.getD k Tsk.zero)=true):tskB y l k=true:=by
  rw [show ((k:Int)-1).toNat=k-1 by omega] at h
  unfold tskB;rw [decide_eq_true ⟨hB.1,hB.2.1,hB.2.2.1⟩,h,Bool.or_true];rfl
end
theorem Fu (a b:Tsk) (w:World) :
    Calls Tryz.prog 83 [.agg [.int .i64 a.day,.int .i64 a.unit,.int .i64 a.kind].toArray,.agg [.int .i64 b.day,.int .i64 b.unit,.int .i64 b.kind].toArray].toArray w (Ret (fun v w'=>v = .bool (befB a b)∧St w noF [] w')):=by
 refine enter Tryz.func83 rfl Tryz.ntmps83 rfl (fun a H=>?_)
 have S:=St.start w
 refine seq_list fun K1 k1=>?_
 refine aN H rfl S G G ?_;clear H a S;intro b2 _ a hb2 hbw2 S H
 refine aN H rfl S G G ?_;clear H a S;intro b3 _ a hb3 hbw3 S H
 refine ls 1 H<|sr 1 rfl<|sE ?_;clear H a;intro a H
 refine k1 _ _ ?_;clear k1 K1
 refine wp_seq_k fun K2 k2=>?_
 refine sS H fun K3 k3=>sf dD rfl<|sl S 1 aE G G G<|sf dD rfl<|sl S 0 aE G G G<|sr 1 rfl<|sE ?_;clear H a;intro a H
 refine k3 _ ?_;clear k3 K3
 refine condN H rfl (fun hc1=>?_) (fun hc1=>?_)
 ·skip
  replace H:=H.keep [2,3] rfl
  refine sS H fun K4 k4=>sf dD rfl<|sl S 1 aE G G G<|sf dD rfl<|sl S 0 aE G G G<|sr 2 rfl<|sE ?_;clear H a;intro a H
  refine k4 _ ?_;clear k4 K4
  refine wp_ret ?_
  refine ret1 (fn:=Tryz.f83) rfl H rfl ?_
  refine ⟨?_,(S.sel [] G G)⟩;unfold befB;rw [if_pos hc1]
 refine wp_skip ?_
 refine k2 _ _ ?_
 refine wp_seq_k fun K5 k5=>?_
 replace H:=H.keep [2,3] rfl
 refine sS H fun K6 k6=>sf dP rfl<|sl S 1 aE G G G<|sf dP rfl<|sl S 0 aE G G G<|sr 1 rfl<|sE ?_;clear H a;intro a H
 refine k6 _ ?_;clear k6 K6
 refine condN H rfl (fun hc2=>?_) (fun hc2=>?_)
 ·skip
  replace H:=H.keep [2,3] rfl
  refine sS H fun K7 k7=>sf dP rfl<|sl S 1 aE G G G<|sf dP rfl<|sl S 0 aE G G G<|sr 2 rfl<|sE ?_;clear H a;intro a H
  refine k7 _ ?_;clear k7 K7
  refine wp_ret ?_
  refine ret1 (fn:=Tryz.f83) rfl H rfl ?_
  refine ⟨?_,(S.sel [] G G)⟩;unfold befB;rw [if_neg (fun h=>h (by omega)),if_pos hc2]
 refine wp_skip ?_
 refine k5 _ _ ?_
 replace H:=H.keep [2,3] rfl
 refine sS H fun K8 k8=>sf gA rfl<|sl S 1 aE G G G<|sf gA rfl<|sl S 0 aE G G G<|sr 2 rfl<|sE ?_;clear H a;intro a H
 refine k8 _ ?_;clear k8 K8
 refine wp_ret ?_
 refine ret1 (fn:=Tryz.f83) rfl H rfl ?_
 refine ⟨?_,(S.sel [] G G)⟩;unfold befB;rw [if_neg (fun h=>h (by omega)),if_neg (fun h=>h (by omega))]
theorem zD (y:Yr) (l:List Tsk) (LA:Option Addr) (lc:Nat) (w:World) (hy:YIn w noF y) (hyb:YBd y) (hl:InS w noF 3 LA l.length (dX l)) (hln:l.length≤9223372036854775807) :
    Calls Tryz.prog 39 [.agg [.int .i64 y.days,.int .i64 y.pl,.slice y.PA y.ps.length y.pc,.slice y.XA y.xs.length y.xc,.slice y.BA y.pe.length y.bc,.int .i64 y.limit,.bool y.help,.slice y.QA y.prs.length y.qc,.slice y.VA y.us.length y.vc,.int .i64 y.crew,.slice y.SA y.sps.length y.sc].toArray,.slice LA l.length lc].toArray w (Ret (fun v w'=>v = .int .i64 (taskE y l)∧St w noF [] w')):=by
 have hn3:=hyb.usn
 refine enter Tryz.func39 rfl Tryz.ntmps39 rfl (fun a H=>?_)
 have S:=St.start w
 refine seq_list fun K1 k1=>?_
 refine aN H rfl S G G ?_;clear H a S;intro b2 _ a hb2 hbw2 S H
 refine ls 1 H<|sr 1 rfl<|sE ?_;clear H a;intro a H
 refine k1 _ _ ?_;clear k1 K1
 refine wp_seq_k fun K2 k2=>?_
 refine seq_list fun K3 k3=>?_
 refine ls 1 H<|sd ((aB fL gQ rfl S (i:=0) G G))<|sE ?_;clear H a;intro a H
 refine aA H G G Tryz.func81 G G (Nz y _ (hy.now S) hyb) ?_;clear H a
 rintro _ _ a ⟨rfl,S2⟩ H
 replace S:=S.call S2;clear S2
 refine ls 1 H<|sr 1 rfl<|sE ?_;clear H a;intro a H
 refine k3 _ _ ?_;clear k3 K3
 refine sS H fun K4 k4=>sr 2 rfl<|sE ?_;clear H a;intro a H
 refine k4 _ ?_;clear k4 K4
 refine condN H rfl (fun hc1=>?_) (fun hc1=>?_)
 ·skip
  refine sS H fun K5 k5=>sr 2 rfl<|sE ?_;clear H a;intro a H
  refine k5 _ ?_;clear k5 K5
  refine wp_ret ?_
  refine ret1 (fn:=Tryz.f39) rfl H rfl ?_
  exact ⟨congrArg _ (rU hc1).symm,(S.sel [] G G)⟩
 have hye:yearE y=0:=by omega
 have hyi:=(mC hye).yr
 unfold yrI at hyi
 refine wp_skip ?_
 refine k2 _ _ ?_
 refine wp_seq_k fun K6 k6=>?_
 replace H:=H.keep [1,2] rfl
 refine sS H fun K7 k7=>sr 1 rfl<|sL eN rfl<|sr 1 rfl<|sE ?_;clear H a;intro a H
 refine k7 _ ?_;clear k7 K7
 refine condL H rfl (fun hc2=>?_) (fun hc2=>?_)
 ·skip
  refine sS H fun K8 k8=>sr 1 rfl<|sE ?_;clear H a;intro a H
  refine k8 _ ?_;clear k8 K8
  refine wp_ret ?_
  refine ret1 (fn:=Tryz.f39) rfl H rfl ?_
  rw [rV hye (by omega)];exact ⟨rfl,(S.sel [] G G)⟩
 refine wp_skip ?_
 refine k6 _ _ ?_
 refine wp_seq_k fun K9 k9=>?_
 refine sS H fun K10 k10=>sr 1 rfl<|sL eN rfl<|sr 1 rfl<|sE ?_;clear H a;intro a H
 refine k10 _ ?_;clear k10 K10
 refine wp_block ?_
 refine loop_st (X:=Nat) (R0:=_) [1,2,16,17] H rfl (fun k=>[(18,.int .i64 (k:Int))]) (fun k=>[]) (fun g k=>k≤l.length∧g+k=l.length∧∀ q,q<k→tskB y l q=true) (l.length) 0 ?_ (S.sel [0] G G) (H.keep [18,1,2,16,17] rfl) ?_
 · exact ⟨by omega,by omega,fun q hq=>absurd hq (Nat.not_lt_zero q)⟩
 clear H S a
 intro g1 x1 a w1 hp S H K11 k11
 obtain ⟨k,rfl⟩:∃ y,y=x1:=⟨_,rfl⟩
 refine sS H fun K12 k12=>sr 1 rfl<|sE ?_;clear H a;intro a H
 refine k12 _ ?_;clear k12 K12
 refine wp_seq_k fun K13 k13=>?_
 refine condL H rfl (fun hc3=>?_) (fun hc3=>?_)
 ·skip
  refine wp_skip ?_
  refine k13 _ _ ?_
  refine wp_seq_k fun K14 k14=>?_
  refine wp_block ?_
  refine seq_list fun K15 k15=>?_
  refine ls 3 H<|sr 1 rfl<|si eN eB G G (hl.adr (by omega)) (by omega)<|sd ((aV oQ eB rfl S hl (by omega) (by omega)))<|sE ?_;clear H a;intro a H
  refine aI H rfl S xT ?_;clear H a S;intro b7 _ a hb7 hbw7 S H
  refine ls 1 H<|sr 1 rfl<|sE ?_;clear H a;intro a H
  refine aD H S (i:=0) G G G G eB G G ?_
  clear H a S;intro _ a S H
  refine k15 _ _ ?_;clear k15 K15
  rcases chk5 (0≤(l.getD k Tsk.zero).day∧(l.getD k Tsk.zero).day≤y.days-1) (0≤(l.getD k Tsk.zero).unit∧(l.getD k Tsk.zero).unit≤(y.us.length:Int)-1) (1≤(l.getD k Tsk.zero).kind∧(l.getD k Tsk.zero).kind≤2) k with hB|hB|hB|hB|hB
  ·skip
   skip
   replace H:=H.keep [1,2,6,7,16,17,18] rfl
   replace S:=S.drew
   refine seq_wq [(0,true),(1,true),(2,true),(3,true),(4,true),(5,false),(6,true),(7,true),(8,true),(9,true),(10,true),(11,true),(12,true),(13,true),(14,true),(15,true),(16,true),(17,true),(18,true),(19,true),(20,true),(21,true),(22,true),(23,true),(24,true),(25,true),(26,true),(27,true),(28,true),(29,true),(30,true),(31,true),(32,true),(33,true),(34,true),(35,true),(36,true)] (by kernel_rfl) (by kernel_rfl) (S.sel [0,1] G G) fun K16 k16=>?_
   refine qF H<|qd rfl (fun _ S=>(aC dD rfl))<|qd rfl (fun _ S=>aH aE rfl (boxM.rd S (i:=0) G G))<|qd rfl (fun _ S=>(aC dK rfl))<|qd rfl (fun _ S=>aH aE rfl (boxM.rd S (i:=1) G G))<|qd rfl (fun _ S=>aR G G (by unfold i64ok;omega))<|qK ?_;clear H a;intro a H
   refine aT rfl ?_
   refine aA H G G Tryz.func82 G G (bK _ _ _ _) ?_;clear H a
   rintro _ _ a ⟨rfl,rfl⟩ H
   refine wpList_nil (And.intro (S.sel [0,1] G G) ?_)
   refine qF H<|qd rfl (fun _ S=>fW rfl (by omega))<|qr 1 rfl<|qK ?_;clear H a;intro a H
   refine aJ H G G G G G ?_;clear H a;intro a H
   refine aJ H G G G G G ?_;clear H a;intro a H
   refine aJ H G G G G G ?_;clear H a;intro a H
   refine aJ H G G G G G ?_;clear H a;intro a H
   refine aJ H G G G G G ?_;clear H a;intro a H
   refine aJ H G G G G G ?_;clear H a;intro a H
   refine aJ H G G G G G ?_;clear H a;intro a H
   refine aJ H G G G G G ?_;clear H a;intro a H
   refine qF H<|qd rfl (fun _ S=>(aU G G G))<|qr 1 rfl<|qK ?_;clear H a;intro a H
   refine aJ H G G G G G ?_;clear H a;intro a H
   refine aJ H G G G G G ?_;clear H a;intro a H
   refine aJ H G G G G G ?_;clear H a;intro a H
   refine aJ H G G G G G ?_;clear H a;intro a H
   refine qF H<|qd rfl (fun _ S=>(aU G G G))<|qr 1 rfl<|qK ?_;clear H a;intro a H
   refine aJ H G G G G G ?_;clear H a;intro a H
   refine aJ H G G G G G ?_;clear H a;intro a H
   refine aJ H G G G G G ?_;clear H a;intro a H
   refine bO H G G G G ?_;clear H a;intro a H
   refine bO H G G G G ?_;clear H a;intro a H
   refine bO H G G G G ?_;clear H a;intro a H
   refine bO H G G G G ?_;clear H a;intro a H
   refine bO H G G G G ?_;clear H a;intro a H
   refine bO H G G G G ?_;clear H a;intro a H
   refine bO H G G G G ?_;clear H a;intro a H
   refine bO H G G G G ?_;clear H a;intro a H
   refine aJ H G G G G G ?_;clear H a;intro a H
   refine qF H<|qd rfl (fun _ S=>(aU G G G))<|qK ?_;clear H a;intro a H
   refine bN ?_
   refine k16 _ _ ?_
   clear k16 K16
   refine cond_ H rfl (fun hc4=>?_) (fun hc4=>?_)
   ·skip
    skip
    replace H:=H.keep [] rfl
    refine sS H fun K17 k17=>sr 1 rfl<|sE ?_;clear H a;intro a H
    refine k17 _ ?_;clear k17 K17
    refine wp_ret ?_
    refine ret1 (fn:=Tryz.f39) rfl H rfl ?_
    rw [fT hye (by omega) (show k<l.length by omega) (kC (by omega))];exact ⟨rfl,(S.sel [] G G)⟩
   skip
   cases hc4
  ·skip
   skip
   replace H:=H.keep [1,2,6,7,16,17,18] rfl
   replace S:=S.drew
   refine seq_wq [(0,true),(1,true),(2,true),(3,true),(4,true),(5,false),(6,true),(7,true),(8,true),(9,true),(10,true),(11,true),(12,true),(13,true),(14,false),(15,true),(16,true),(17,true),(18,true),(19,true),(20,true),(21,true),(22,true),(23,true),(24,true),(25,true),(26,true),(27,true),(28,true),(29,true),(30,true),(31,true),(32,true),(33,true),(34,true),(35,true),(36,true)] (by kernel_rfl) (by kernel_rfl) (S.sel [0,1] G G) fun K18 k18=>?_
   refine qF H<|qd rfl (fun _ S=>(aC dD rfl))<|qd rfl (fun _ S=>aH aE rfl (boxM.rd S (i:=0) G G))<|qd rfl (fun _ S=>(aC dK rfl))<|qd rfl (fun _ S=>aH aE rfl (boxM.rd S (i:=1) G G))<|qd rfl (fun _ S=>aR G G (by unfold i64ok;omega))<|qK ?_;clear H a;intro a H
   refine aT rfl ?_
   refine aA H G G Tryz.func82 G G (bK _ _ _ _) ?_;clear H a
   rintro _ _ a ⟨rfl,rfl⟩ H
   refine wpList_nil (And.intro (S.sel [0,1] G G) ?_)
   refine qF H<|qd rfl (fun _ S=>bQ rfl (by omega))<|qr 1 rfl<|qK ?_;clear H a;intro a H
   refine aF H G G G G (fun _ S=>(aC dP rfl)) ?_;clear H a;intro a H
   refine aF H G G G G (fun _ S=>aH aE rfl (boxM.rd S (i:=0) G G)) ?_;clear H a;intro a H
   refine aF H G G G G (fun _ S=>(aC cM rfl)) ?_;clear H a;intro a H
   refine aF H G G G G (fun _ S=>aH dL rfl (boxM.rd S (i:=1) G G)) ?_;clear H a;intro a H
   refine aF H G G G G (fun _ S=>cD eI rfl) ?_;clear H a;intro a H
   refine aF H G G G G (fun _ S=>aR G G (by unfold i64ok;omega)) ?_;clear H a;intro a H
   refine aT rfl ?_
   refine aX H G G ?_
   refine aA H G G Tryz.func82 G G (bK _ _ _ _) ?_;clear H a
   rintro _ _ a ⟨rfl,rfl⟩ H
   refine wpList_nil (And.intro (S.sel [0,1] G G) ?_)
   refine aF H G G G G (fun _ S=>fW rfl (by omega)) ?_;clear H a;intro a H
   refine qF H<|qd rfl (fun _ S=>(aW G G G))<|qr 1 rfl<|qK ?_;clear H a;intro a H
   refine aJ H G G G G G ?_;clear H a;intro a H
   refine aJ H G G G G G ?_;clear H a;intro a H
   refine aJ H G G G G G ?_;clear H a;intro a H
   refine aJ H G G G G G ?_;clear H a;intro a H
   refine qF H<|qd rfl (fun _ S=>(aU G G G))<|qr 1 rfl<|qK ?_;clear H a;intro a H
   refine aJ H G G G G G ?_;clear H a;intro a H
   refine aJ H G G G G G ?_;clear H a;intro a H
   refine aJ H G G G G G ?_;clear H a;intro a H
   refine bO H G G G G ?_;clear H a;intro a H
   refine bO H G G G G ?_;clear H a;intro a H
   refine bO H G G G G ?_;clear H a;intro a H
   refine bO H G G G G ?_;clear H a;intro a H
   refine bO H G G G G ?_;clear H a;intro a H
   refine bO H G G G G ?_;clear H a;intro a H
   refine bO H G G G G ?_;clear H a;intro a H
   refine bO H G G G G ?_;clear H a;intro a H
   refine aJ H G G G G G ?_;clear H a;intro a H
   refine qF H<|qd rfl (fun _ S=>(aU G G G))<|qK ?_;clear H a;intro a H
   refine bN ?_
   refine k18 _ _ ?_
   clear k18 K18
   refine cond_ H rfl (fun hc5=>?_) (fun hc5=>?_)
   ·skip
    skip
    replace H:=H.keep [] rfl
    refine sS H fun K19 k19=>sr 1 rfl<|sE ?_;clear H a;intro a H
    refine k19 _ ?_;clear k19 K19
    refine wp_ret ?_
    refine ret1 (fn:=Tryz.f39) rfl H rfl ?_
    rw [fT hye (by omega) (show k<l.length by omega) (kC (by omega))];exact ⟨rfl,(S.sel [] G G)⟩
   skip
   cases hc5
  ·skip
   skip
   replace H:=H.keep [1,2,6,7,16,17,18] rfl
   replace S:=S.drew
   refine seq_wq [(0,true),(1,true),(2,true),(3,true),(4,true),(5,false),(6,true),(7,true),(8,true),(9,true),(10,true),(11,true),(12,true),(13,true),(14,false),(15,true),(16,true),(17,true),(18,true),(19,true),(20,false),(21,true),(22,true),(23,true),(24,true),(25,true),(26,true),(27,true),(28,true),(29,true),(30,true),(31,true),(32,true),(33,true),(34,true),(35,true),(36,true)] (by kernel_rfl) (by kernel_rfl) (S.sel [0,1] G G) fun K20 k20=>?_
   refine qF H<|qd rfl (fun _ S=>(aC dD rfl))<|qd rfl (fun _ S=>aH aE rfl (boxM.rd S (i:=0) G G))<|qd rfl (fun _ S=>(aC dK rfl))<|qd rfl (fun _ S=>aH aE rfl (boxM.rd S (i:=1) G G))<|qd rfl (fun _ S=>aR G G (by unfold i64ok;omega))<|qK ?_;clear H a;intro a H
   refine aT rfl ?_
   refine aA H G G Tryz.func82 G G (bK _ _ _ _) ?_;clear H a
   rintro _ _ a ⟨rfl,rfl⟩ H
   refine wpList_nil (And.intro (S.sel [0,1] G G) ?_)
   refine qF H<|qd rfl (fun _ S=>bQ rfl (by omega))<|qr 1 rfl<|qK ?_;clear H a;intro a H
   refine aF H G G G G (fun _ S=>(aC dP rfl)) ?_;clear H a;intro a H
   refine aF H G G G G (fun _ S=>aH aE rfl (boxM.rd S (i:=0) G G)) ?_;clear H a;intro a H
   refine aF H G G G G (fun _ S=>(aC cM rfl)) ?_;clear H a;intro a H
   refine aF H G G G G (fun _ S=>aH dL rfl (boxM.rd S (i:=1) G G)) ?_;clear H a;intro a H
   refine aF H G G G G (fun _ S=>cD eI rfl) ?_;clear H a;intro a H
   refine aF H G G G G (fun _ S=>aR G G (by unfold i64ok;omega)) ?_;clear H a;intro a H
   refine aT rfl ?_
   refine aX H G G ?_
   refine aA H G G Tryz.func82 G G (bK _ _ _ _) ?_;clear H a
   rintro _ _ a ⟨rfl,rfl⟩ H
   refine wpList_nil (And.intro (S.sel [0,1] G G) ?_)
   refine aF H G G G G (fun _ S=>bQ rfl (by omega)) ?_;clear H a;intro a H
   refine qF H<|qd rfl (fun _ S=>(aW G G G))<|qr 1 rfl<|qK ?_;clear H a;intro a H
   refine aF H G G G G (fun _ S=>(aC gA rfl)) ?_;clear H a;intro a H
   refine aF H G G G G (fun _ S=>aH aE rfl (boxM.rd S (i:=0) G G)) ?_;clear H a;intro a H
   refine aT rfl ?_
   refine aX H G G ?_
   refine aA H G G Tryz.func82 G G (bK _ _ _ _) ?_;clear H a
   rintro _ _ a ⟨rfl,rfl⟩ H
   refine wpList_nil (And.intro (S.sel [0,1] G G) ?_)
   refine aF H G G G G (fun _ S=>fW rfl (by omega)) ?_;clear H a;intro a H
   refine qF H<|qd rfl (fun _ S=>(aW G G G))<|qr 1 rfl<|qK ?_;clear H a;intro a H
   refine aJ H G G G G G ?_;clear H a;intro a H
   refine aJ H G G G G G ?_;clear H a;intro a H
   refine aJ H G G G G G ?_;clear H a;intro a H
   refine bO H G G G G ?_;clear H a;intro a H
   refine bO H G G G G ?_;clear H a;intro a H
   refine bO H G G G G ?_;clear H a;intro a H
   refine bO H G G G G ?_;clear H a;intro a H
   refine bO H G G G G ?_;clear H a;intro a H
   refine bO H G G G G ?_;clear H a;intro a H
   refine bO H G G G G ?_;clear H a;intro a H
   refine bO H G G G G ?_;clear H a;intro a H
   refine aJ H G G G G G ?_;clear H a;intro a H
   refine qF H<|qd rfl (fun _ S=>(aU G G G))<|qK ?_;clear H a;intro a H
   refine bN ?_
   refine k20 _ _ ?_
   clear k20 K20
   refine cond_ H rfl (fun hc6=>?_) (fun hc6=>?_)
   ·skip
    skip
    replace H:=H.keep [] rfl
    refine sS H fun K21 k21=>sr 1 rfl<|sE ?_;clear H a;intro a H
    refine k21 _ ?_;clear k21 K21
    refine wp_ret ?_
    refine ret1 (fn:=Tryz.f39) rfl H rfl ?_
    rw [fT hye (by omega) (show k<l.length by omega) (kC (by omega))];exact ⟨rfl,(S.sel [] G G)⟩
   skip
   cases hc6
  ·skip
   skip
   replace H:=H.keep [1,2,6,7,16,17,18] rfl
   replace S:=S.drew
   refine seq_wq [(0,true),(1,true),(2,true),(3,true),(4,true),(5,false),(6,true),(7,true),(8,true),(9,true),(10,true),(11,true),(12,true),(13,true),(14,false),(15,true),(16,true),(17,true),(18,true),(19,true),(20,false),(21,true),(22,true),(23,true),(24,true),(25,true),(26,true),(27,true),(28,true),(29,true),(30,true),(31,true),(32,true),(33,true),(34,true),(35,true),(36,true)] (by kernel_rfl) (by kernel_rfl) (S.sel [0,1] G G) fun K22 k22=>?_
   refine qF H<|qd rfl (fun _ S=>(aC dD rfl))<|qd rfl (fun _ S=>aH aE rfl (boxM.rd S (i:=0) G G))<|qd rfl (fun _ S=>(aC dK rfl))<|qd rfl (fun _ S=>aH aE rfl (boxM.rd S (i:=1) G G))<|qd rfl (fun _ S=>aR G G (by unfold i64ok;omega))<|qK ?_;clear H a;intro a H
   refine aT rfl ?_
   refine aA H G G Tryz.func82 G G (bK _ _ _ _) ?_;clear H a
   rintro _ _ a ⟨rfl,rfl⟩ H
   refine wpList_nil (And.intro (S.sel [0,1] G G) ?_)
   refine qF H<|qd rfl (fun _ S=>bQ rfl (by omega))<|qr 1 rfl<|qK ?_;clear H a;intro a H
   refine aF H G G G G (fun _ S=>(aC dP rfl)) ?_;clear H a;intro a H
   refine aF H G G G G (fun _ S=>aH aE rfl (boxM.rd S (i:=0) G G)) ?_;clear H a;intro a H
   refine aF H G G G G (fun _ S=>(aC cM rfl)) ?_;clear H a;intro a H
   refine aF H G G G G (fun _ S=>aH dL rfl (boxM.rd S (i:=1) G G)) ?_;clear H a;intro a H
   refine aF H G G G G (fun _ S=>cD eI rfl) ?_;clear H a;intro a H
   refine aF H G G G G (fun _ S=>aR G G (by unfold i64ok;omega)) ?_;clear H a;intro a H
   refine aT rfl ?_
   refine aX H G G ?_
   refine aA H G G Tryz.func82 G G (bK _ _ _ _) ?_;clear H a
   rintro _ _ a ⟨rfl,rfl⟩ H
   refine wpList_nil (And.intro (S.sel [0,1] G G) ?_)
   refine aF H G G G G (fun _ S=>bQ rfl (by omega)) ?_;clear H a;intro a H
   refine qF H<|qd rfl (fun _ S=>(aW G G G))<|qr 1 rfl<|qK ?_;clear H a;intro a H
   refine aF H G G G G (fun _ S=>(aC gA rfl)) ?_;clear H a;intro a H
   refine aF H G G G G (fun _ S=>aH aE rfl (boxM.rd S (i:=0) G G)) ?_;clear H a;intro a H
   refine aT rfl ?_
   refine aX H G G ?_
   refine aA H G G Tryz.func82 G G (bK _ _ _ _) ?_;clear H a
   rintro _ _ a ⟨rfl,rfl⟩ H
   refine wpList_nil (And.intro (S.sel [0,1] G G) ?_)
   refine aF H G G G G (fun _ S=>bQ rfl (by omega)) ?_;clear H a;intro a H
   refine qF H<|qd rfl (fun _ S=>(aW G G G))<|qr 1 rfl<|qK ?_;clear H a;intro a H
   refine aF H G G G G (fun _ S=>aL rfl) ?_;clear H a;intro a H
   refine aF H G G G G (fun _ S=>tN G G (by omega)) ?_;clear H a;intro a H
   refine aF H G G G G (fun _ S=>aL rfl) ?_;clear H a;intro a H
   refine aJ H G G G G G ?_;clear H a;intro a H
   refine aJ H G G G G G ?_;clear H a;intro a H
   refine aJ H G G G G G ?_;clear H a;intro a H
   refine aJ H G G G G G ?_;clear H a;intro a H
   refine aJ H G G G G G ?_;clear H a;intro a H
   refine aJ H G G G G G ?_;clear H a;intro a H
   refine aJ H G G G G G ?_;clear H a;intro a H
   refine aJ H G G G G G ?_;clear H a;intro a H
   refine aF H G G G G (fun _ S=>(aU G G G)) ?_;clear H a;intro a H
   refine qF H<|qd rfl (fun _ S=>(aW G G G))<|qK ?_;clear H a;intro a H
   refine bN ?_
   refine k22 _ _ ?_
   clear k22 K22
   refine cond_ H rfl (fun hc7=>?_) (fun hc7=>?_)
   ·skip
    skip
    cases hc7
   skip
   refine wp_skip ?_
   refine k14 _ _ ?_
   replace H:=H.keep [1,2,16,17,18] rfl
   refine sO H<|sd (aK G G (by unfold i64ok;omega))<|sr 1 rfl<|sE ?_;clear H a;intro a H
   exact k11 (g1-1) (k+1) a _ (by omega) (by first|exact ⟨by omega,by omega,eK (f:=tskB y l) hp.2.2 (mE hB)⟩|exact ⟨by omega,by omega,eK (f:=tskB y l) hp.2.2 (mF hB hc8)⟩) (S.sel [1] G G) (H.keep [18,1,2,16,17] rfl)
  skip
  replace H:=H.keep [1,2,6,7,16,17,18] rfl
  replace S:=S.drew
  refine seq_wq [(0,true),(1,true),(2,true),(3,true),(4,true),(5,false),(6,true),(7,true),(8,true),(9,true),(10,true),(11,true),(12,true),(13,true),(14,false),(15,true),(16,true),(17,true),(18,true),(19,true),(20,false),(21,true),(22,true),(23,true),(24,true),(25,true),(26,true),(27,true),(28,true),(29,true),(30,true),(31,true),(32,true),(33,false),(34,true),(35,true),(36,true)] (by kernel_rfl) (by kernel_rfl) (S.sel [0,1] G G) fun K24 k24=>?_
  refine qF H<|qd rfl (fun _ S=>(aC dD rfl))<|qd rfl (fun _ S=>aH aE rfl (boxM.rd S (i:=0) G G))<|qd rfl (fun _ S=>(aC dK rfl))<|qd rfl (fun _ S=>aH aE rfl (boxM.rd S (i:=1) G G))<|qd rfl (fun _ S=>aR G G (by unfold i64ok;omega))<|qK ?_;clear H a;intro a H
  refine aT rfl ?_
  refine aA H G G Tryz.func82 G G (bK _ _ _ _) ?_;clear H a
  rintro _ _ a ⟨rfl,rfl⟩ H
  refine wpList_nil (And.intro (S.sel [0,1] G G) ?_)
  refine qF H<|qd rfl (fun _ S=>bQ rfl (by omega))<|qr 1 rfl<|qK ?_;clear H a;intro a H
  refine aF H G G G G (fun _ S=>(aC dP rfl)) ?_;clear H a;intro a H
  refine aF H G G G G (fun _ S=>aH aE rfl (boxM.rd S (i:=0) G G)) ?_;clear H a;intro a H
  refine aF H G G G G (fun _ S=>(aC cM rfl)) ?_;clear H a;intro a H
  refine aF H G G G G (fun _ S=>aH dL rfl (boxM.rd S (i:=1) G G)) ?_;clear H a;intro a H
  refine aF H G G G G (fun _ S=>cD eI rfl) ?_;clear H a;intro a H
  refine aF H G G G G (fun _ S=>aR G G (by unfold i64ok;omega)) ?_;clear H a;intro a H
  refine aT rfl ?_
  refine aX H G G ?_
  refine aA H G G Tryz.func82 G G (bK _ _ _ _) ?_;clear H a
  rintro _ _ a ⟨rfl,rfl⟩ H
  refine wpList_nil (And.intro (S.sel [0,1] G G) ?_)
  refine aF H G G G G (fun _ S=>bQ rfl (by omega)) ?_;clear H a;intro a H
  refine qF H<|qd rfl (fun _ S=>(aW G G G))<|qr 1 rfl<|qK ?_;clear H a;intro a H
  refine aF H G G G G (fun _ S=>(aC gA rfl)) ?_;clear H a;intro a H
  refine aF H G G G G (fun _ S=>aH aE rfl (boxM.rd S (i:=0) G G)) ?_;clear H a;intro a H
  refine aT rfl ?_
  refine aX H G G ?_
  refine aA H G G Tryz.func82 G G (bK _ _ _ _) ?_;clear H a
  rintro _ _ a ⟨rfl,rfl⟩ H
  refine wpList_nil (And.intro (S.sel [0,1] G G) ?_)
  refine aF H G G G G (fun _ S=>bQ rfl (by omega)) ?_;clear H a;intro a H
  refine qF H<|qd rfl (fun _ S=>(aW G G G))<|qr 1 rfl<|qK ?_;clear H a;intro a H
  refine aF H G G G G (fun _ S=>aL rfl) ?_;clear H a;intro a H
  refine aF H G G G G (fun _ S=>tM G G (by omega)) ?_;clear H a;intro a H
  refine aF H G G G G (fun _ S=>aL rfl) ?_;clear H a;intro a H
  refine aF H G G G G (fun _ S=>aL rfl) ?_;clear H a;intro a H
  refine aF H G G G G (fun _ S=>aL rfl) ?_;clear H a;intro a H
  refine aF H G G G G (fun _ S=>aR G G (by unfold i64ok;omega)) ?_;clear H a;intro a H
  refine aF H G G G G (fun _ S=>bR eN eB G G (hl.adr (by omega)) (by omega) (by omega)) ?_;clear H a;intro a H
  refine aF H G G G G (fun _ S=>(aV oQ eB rfl S hl (by omega) (by omega))) ?_;clear H a;intro a H
  refine aF H G G G G (fun _ S=>(aB oQ eB rfl S (i:=0) G G)) ?_;clear H a;intro a H
  refine aT rfl ?_
  refine aX H G G ?_
  refine aA H G G Tryz.func83 G G (Fu (l.getD ((k:Int)-1).toNat Tsk.zero) (l.getD k Tsk.zero) _) ?_;clear H a
  rintro _ _ a ⟨rfl,S2⟩ H
  replace S:=S.call S2;clear S2
  refine wpList_nil (And.intro (S.sel [0,1] G G) ?_)
  refine aF H G G G G (fun _ S=>cJ rfl) ?_;clear H a;intro a H
  refine aF H G G G G (fun _ S=>(iQ G G G)) ?_;clear H a;intro a H
  refine qF H<|qd rfl (fun _ S=>(aW G G G))<|qK ?_;clear H a;intro a H
  refine bN ?_
  refine k24 _ _ ?_
  clear k24 K24
  refine cond_ H rfl (fun hc8=>?_) (fun hc8=>?_)
  ·skip
   try simp only [o1,o2,o3,o4,o5,o6,o7,o8,o9,oa] at hc8
   replace hc8:befB (l.getD ((k:Int)-1).toNat Tsk.zero) (l.getD k Tsk.zero)=false:=by simpa using hc8
   replace H:=H.keep [] rfl
   refine sS H fun K25 k25=>sr 1 rfl<|sE ?_;clear H a;intro a H
   refine k25 _ ?_;clear k25 K25
   refine wp_ret ?_
   refine ret1 (fn:=Tryz.f39) rfl H rfl ?_
   rw [fT hye (by omega) (show k<l.length by omega) (zC hB hc8)];exact ⟨rfl,(S.sel [] G G)⟩
  try simp only [o1,o2,o3,o4,o5,o6,o7,o8,o9,oa] at hc8
  replace hc8:befB (l.getD ((k:Int)-1).toNat Tsk.zero) (l.getD k Tsk.zero)=true:=by simpa using hc8
  refine wp_skip ?_
  refine k14 _ _ ?_
  refine sO H<|sd (aK G G (by unfold i64ok;omega))<|sr 1 rfl<|sE ?_;clear H a;intro a H
  exact k11 (g1-1) (k+1) a _ (by omega) (by first|exact ⟨by omega,by omega,eK (f:=tskB y l) hp.2.2 (mE hB)⟩|exact ⟨by omega,by omega,eK (f:=tskB y l) hp.2.2 (mF hB hc8)⟩) (S.sel [1] G G) (H.keep [18,1,2,16,17] rfl)
 refine wp_exit ?_
 refine k9 _ _ ?_
 refine sS H fun K27 k27=>sr 1 rfl<|sE ?_;clear H a;intro a H
 refine k27 _ ?_;clear k27 K27
 refine wp_ret ?_
 refine ret1 (fn:=Tryz.f39) rfl H rfl ?_
 rw [yG hye (by omega) (bI.2 fun q hq=>hp.2.2 q (by omega))];exact ⟨rfl,(S.sel [] G G)⟩
end
section
def MList (ps:List Psg) (k:Nat) (ml:List Int):Prop:=ml.length≤k∧∀ m,0≤m→(hasI ml m=true↔¬ cntM ps m k=0)
theorem MList.nil {ps:List Psg}:MList ps 0 []:=⟨Nat.le_refl 0,fun m _=>by
  constructor
  · intro h;cases h
  · intro h;exact absurd rfl h⟩
theorem uL {ps:List Psg} {m:Int} {k:Nat}:cntM ps m (k+1)=cntM ps m k+(if bW ps k=m then 1 else 0):=rfl
theorem Fv {l:List Int} {x m:Int}:hasI (l++[x]) m=(hasI l m||decide (m=x)):=by unfold hasI;rw [List.any_append];simp
theorem MList.add {ps:List Psg} {k:Nat} {ml:List Int} (h:MList ps k ml):MList ps (k+1) (ml++[bW ps k]):=⟨by rw [List.length_append];have:=h.1;simp;omega,fun m hm=>by
  have h1:=h.2 m hm
  have h2:=Bt (ps:=ps) (m:=m) (k:=k)
  rw [Fv,uL,Bool.or_eq_true,decide_eq_true_eq,h1]
  by_cases e:bW ps k=m
  · rw [if_pos e];exact ⟨fun _=>by omega,fun _ => .inr e.symm⟩
  · rw [if_neg e,Int.add_zero];exact ⟨fun g=>g.resolve_right (fun g=>e g.symm),.inl⟩⟩
theorem MList.skip {ps:List Psg} {k:Nat} {ml:List Int} (h:MList ps k ml) (hk:bW ps k<0):MList ps (k+1) ml:=⟨by have:=h.1;omega,fun m hm=>by
  rw [uL,if_neg (by omega),Int.add_zero]
  exact h.2 m hm⟩
theorem MList.fresh {ps:List Psg} {k:Nat} {ml:List Int} (h:MList ps k ml) (h0:0≤(ps.getD k Psg.zero).mach) (hh:hasI ml (ps.getD k Psg.zero).mach=false):cntM ps (bW ps k) k=0:=by
  have h9:=h.2 _ h0
  rw [hh] at h9
  have h8:bW ps k=(ps.getD k Psg.zero).mach:=rfl
  rw [h8]
  simp only [Bool.false_eq_true,false_iff] at h9
  omega
theorem oF {pl:Int} {ps:List Psg} {k:Nat} (h:psgOk pl (ps.getD k Psg.zero)=true) (hz:cntM ps (bW ps k) k=0):pasOk pl ps k=true:=by unfold pasOk;rw [h,decide_eq_true (.inr hz)];rfl
theorem oG {pl:Int} {ps:List Psg} {k:Nat} (h:psgOk pl (ps.getD k Psg.zero)=true) (hz:(ps.getD k Psg.zero).mach<0):pasOk pl ps k=true:=by unfold pasOk;rw [h,decide_eq_true (.inl hz)];rfl
theorem Oa {pl:Int} {ps:List Psg} {k:Nat} {ml:List Int} (hM:MList ps k ml) (hc:((ps.getD k Psg.zero).mach<0∨11<(ps.getD k Psg.zero).mach)∨hasI ml (ps.getD k Psg.zero).mach=true) (hk:(ps.getD k Psg.zero).kind=3∨(ps.getD k Psg.zero).kind=4):pasOk pl ps k=false:=by
  unfold pasOk
  rw [Bool.and_eq_false_iff]
  by_cases h0:0≤(ps.getD k Psg.zero).mach∧(ps.getD k Psg.zero).mach≤11
  · refine .inr (decide_eq_false ?_)
    have h9:=hM.2 _ h0.1
    have h8:bW ps k=(ps.getD k Psg.zero).mach:=rfl
    rw [h8]
    rcases hc with h7|h7
    · omega
    · rw [h7] at h9
      simp only [true_iff] at h9
      omega
  · exact .inl (eY (by omega))
theorem Ob {pl:Int} {xs:List Int} {k:Nat} (h:(0≤xs.getD k 0∧xs.getD k 0≤pl-1)∧(k=0∨xs.getD (k-1) 0<xs.getD k 0)):exOk pl xs k=true:=by unfold exOk;rw [decide_eq_true_eq];omega
theorem Oc {pl:Int} {xs:List Int} {k:Nat} (h:¬ ((0≤xs.getD k 0∧xs.getD k 0≤pl-1)∧(k=0∨xs.getD (k-1) 0<xs.getD k 0))):exOk pl xs k=false:=by unfold exOk;rw [decide_eq_false_iff_not];omega
theorem Aw {l:List Int} {x:Int} {v:Value} (hv:v = .int .i64 x):∀ k j,k<l.length+1→j<1→capp l.length (icl l) (fun k' j=>([[v]].getD k' []).getD j undef) k j=icl (l++[x]) k j:=by
  intro k j hk hj
  have:j=0:=by omega
  subst this
  subst hv
  unfold capp icl
  by_cases h:k<l.length
  · rw [if_pos h,List.getD_eq_getElem?_getD,List.getD_eq_getElem?_getD,List.getElem?_append_left h]
  · have e:k=l.length:=by omega
    subst e
    rw [if_neg h,Nat.sub_self,List.getD_eq_getElem?_getD,List.getElem?_append_right (Nat.le_refl _),Nat.sub_self]
    rfl
theorem bZ (n lo hi:Int) (w:World) :
    Calls Tryz.prog 32 [.int .i64 n,.int .i64 lo,.int .i64 hi].toArray w (Ret (fun v w'=>v = .bool (decide (lo≤n)&&decide (n≤hi))∧w'=w)):=by
 refine enter Tryz.func32 rfl Tryz.ntmps32 rfl (fun a H=>?_)
 have S:=St.start w
 refine sS H fun K1 k1=>sr 1 rfl<|sE ?_;clear H a;intro a H
 refine k1 _ ?_;clear k1 K1
 replace H:=H.keep [0,1,2] rfl
 refine sS H fun K2 k2=>sr 4 rfl<|sg 3 3 10 13 true G G (fun hg4=>sy hg4<|sr 1 rfl<|sy hg4<|sr 1 rfl<|sy hg4<|sr 1 rfl<|sz 3 G G G)<|sa G G G<|sr 1 rfl<|sE ?_;clear H a;intro a H
 refine k2 _ ?_;clear k2 K2
 refine wp_ret ?_
 refine ret1 (fn:=Tryz.f32) rfl H rfl ?_
 exact ⟨rfl,rfl⟩
theorem wF (n:Int) (w:World) :
    Calls Tryz.prog 65 [.int .i64 n].toArray w (Ret (fun v w'=>v = .bool (decide (0≤n)&&decide (n≤4095))∧w'=w)):=by
 refine enter Tryz.func65 rfl Tryz.ntmps65 rfl (fun a H=>?_)
 have S:=St.start w
 refine sS H fun K1 k1=>sr 1 rfl<|sE ?_;clear H a;intro a H
 refine k1 _ ?_;clear k1 K1
 refine sS H fun K2 k2=>sr 1 rfl<|sc rfl Tryz.func32 G G (bZ _ _ _ _)<|sr 1 rfl<|sE ?_;clear H a;intro a H
 refine k2 _ ?_;clear k2 K2
 refine wp_ret ?_
 refine ret1 (fn:=Tryz.f65) rfl H rfl ?_
 exact ⟨rfl,rfl⟩
theorem Od (l:List Int) (A:Option Addr) (cp:Nat) (x:Int) (w:World) (hl:InS w noF 1 A l.length (icl l)) (hn:l.length≤9223372036854775807) :
    Calls Tryz.prog 33 [.slice A l.length cp,.int .i64 x].toArray w (Ret (fun u w'=>u = .bool (hasI l x)∧St w noF [] w')):=by
 refine enter Tryz.func33 rfl Tryz.ntmps33 rfl (fun a H=>?_)
 have S:=St.start w
 refine sS H fun K1 k1=>sr 1 rfl<|sE ?_;clear H a;intro a H
 refine k1 _ ?_;clear k1 K1
 refine wp_seq_k fun K2 k2=>?_
 refine sS H fun K3 k3=>sr 1 rfl<|sE ?_;clear H a;intro a H
 refine k3 _ ?_;clear k3 K3
 refine wp_block ?_
 refine loop_st (X:=Nat) (R0:=_) [0,1] H rfl (fun k=>[(5,.int .i64 (k:Int))]) (fun k=>[]) (fun g k=>k≤l.length∧g+k=l.length∧(l.take k).any (fun y=>decide (x=y))=false) (l.length) 0 ?_ (S.sel [] G G) (H.keep [5,0,1] rfl) ?_
 · exact ⟨by omega,by omega,rfl⟩
 clear H S a
 intro g1 x1 a w1 hp S H K4 k4
 obtain ⟨k,rfl⟩:∃ y,y=x1:=⟨_,rfl⟩
 refine wp_seq_k fun K5 k5=>?_
 refine sS H fun K6 k6=>sr 2 rfl<|sL aS rfl<|sr 1 rfl<|sE ?_;clear H a;intro a H
 refine k6 _ ?_;clear k6 K6
 refine condL H rfl (fun hc1=>?_) (fun hc1=>?_)
 ·skip
  refine wp_skip ?_
  refine k5 _ _ ?_
  refine wp_seq_k fun K7 k7=>?_
  refine wp_block ?_
  replace H:=H.keep [0,1,5] rfl
  refine sS H fun K8 k8=>sr 2 rfl<|si aS bA G G (hl.adr (by omega)) (by omega)<|slm aE rfl (hl.rd S (by omega) (by omega))<|sr 2 rfl<|sE ?_;clear H a;intro a H
  refine k8 _ ?_;clear k8 K8
  refine condE H rfl (fun hc2=>?_) (fun hc2=>?_)
  ·skip
   refine sS H fun K9 k9=>sr 1 rfl<|sE ?_;clear H a;intro a H
   refine k9 _ ?_;clear k9 K9
   refine wp_ret ?_
   refine ret1 (fn:=Tryz.f33) rfl H rfl ?_
   exact ⟨by rw [Sf (k:=k) (by omega) (by omega)],(S.sel [] G G)⟩
  refine wp_skip ?_
  refine k7 _ _ ?_
  replace H:=H.keep [0,1,5] rfl
  refine sO H<|sr 1 rfl<|sd (aK G G (by unfold i64ok;omega))<|sr 1 rfl<|sE ?_;clear H a;intro a H
  exact k4 (g1-1) (k+1) a _ (by omega) (⟨by omega,by omega,Kc (by omega) hp.2.2 (by omega)⟩) (S.sel [] G G) (H.keep [5,0,1] rfl)
 refine wp_exit ?_
 refine k2 _ _ ?_
 refine sS H fun K11 k11=>sr 1 rfl<|sE ?_;clear H a;intro a H
 refine k11 _ ?_;clear k11 K11
 refine wp_ret ?_
 refine ret1 (fn:=Tryz.f33) rfl H rfl ?_
 exact ⟨by unfold hasI;rw [←List.take_of_length_le (l:=l) (i:=k) (by omega),hp.2.2],(S.sel [] G G)⟩
theorem jJ (pl:Int) (ps:List Psg) (PA:Option Addr) (pc:Nat) (xs:List Int) (XA:Option Addr) (xc:Nat) (w:World) (hps:InS w noF 7 PA ps.length (pcell ps)) (hpn:ps.length≤9223372036854775807) (hxs:InS w noF 1 XA xs.length (icl xs)) (hxn:xs.length≤9223372036854775807) :
    Calls Tryz.prog 8 [.agg [.int .i64 pl,.slice PA ps.length pc,.slice XA xs.length xc].toArray].toArray w (Ret (fun v w'=>v = .int .i64 (stE pl ps xs)∧St w noF [] w')):=by
 refine enter Tryz.func8 rfl Tryz.ntmps8 rfl (fun a H=>?_)
 have S:=St.start w
 refine seq_list fun K1 k1=>?_
 refine aN H rfl S G G ?_;clear H a S;intro b1 _ a hb1 hbw1 S H
 refine ls 1 H<|sr 1 rfl<|sE ?_;clear H a;intro a H
 refine k1 _ _ ?_;clear k1 K1
 refine wp_seq_k fun K2 k2=>?_
 replace H:=H.keep [1] rfl
 refine sS H fun K3 k3=>sf eG rfl<|sl S 0 aE G G G<|sc rfl Tryz.func32 G G (bZ _ _ _ _)<|sr 2 rfl<|sg 4 4 11 15 false G G (fun hg5=>by
     have hq5:=hg5;try simp only [o1,o2,o3,o4,o5,o6,o7,o8,o9,oa] at hq5
     exact sy hg5<|sf iJ rfl<|sy hg5<|sl S 0 kI G G G<|sy hg5<|sL kW rfl<|sy hg5<|sr 1 rfl<|sz 4 G G G)<|so G G G<|sE ?_;clear H a;intro a H
 refine k3 _ ?_;clear k3 K3
 refine cond_ H rfl (fun hc1=>?_) (fun hc1=>?_)
 ·skip
  try simp only [o1,o2,o3,o4,o5,o6,o7,o8,o9,oa] at hc1
  replace H:=H.keep [] rfl
  refine sS H fun K4 k4=>sr 1 rfl<|sE ?_;clear H a;intro a H
  refine k4 _ ?_;clear k4 K4
  refine wp_ret ?_
  refine ret1 (fn:=Tryz.f8) rfl H rfl ?_
  exact ⟨congrArg _ (Bu (by omega)).symm,(S.sel [] G G)⟩
 try simp only [o1,o2,o3,o4,o5,o6,o7,o8,o9,oa] at hc1
 refine wp_skip ?_
 refine k2 _ _ ?_
 refine sS H fun K5 k5=>sr 1 rfl<|sE ?_;clear H a;intro a H
 refine k5 _ ?_;clear k5 K5
 refine wp_seq_k fun K6 k6=>?_
 refine sS H fun K7 k7=>sr 1 rfl<|sE ?_;clear H a;intro a H
 refine k7 _ ?_;clear k7 K7
 refine wp_block ?_
 replace S:=S.newNil 3 1 (icl [])
 refine loop_st (X:=Nat×List Int×Option Addr×Nat) (R0:=_) [1] H rfl (fun ⟨k,ml,A9,c9⟩=>[(3,.slice A9 ml.length c9),(4,.int .i64 (k:Int))]) (fun ⟨k,ml,A9,c9⟩=>[ownM 3 1 A9 ml.length c9 (icl ml)]) (fun g ⟨k,ml,A9,c9⟩=>k≤ps.length∧g+k=ps.length∧allN (pasOk pl ps) k=true∧MList ps k ml) (ps.length) (0,[],none,0) ?_ (S.sel [0,1] G G) (H.keep [3,4,1] rfl) ?_
 · exact ⟨by omega,by omega,rfl,MList.nil⟩
 clear H S a
 intro g1 x1 a w1 hp S H K8 k8
 obtain ⟨k,ml,A9,c9⟩:=x1
 dsimp only at hp S H
 obtain ⟨hkl,hgk,hA,hM⟩:=hp
 refine wp_seq_k fun K9 k9=>?_
 refine sS H fun K10 k10=>sr 1 rfl<|sf iJ rfl<|sl S 1 kI G G G<|sL kW rfl<|sr 1 rfl<|sE ?_;clear H a;intro a H
 refine k10 _ ?_;clear k10 K10
 refine condL H rfl (fun hc2=>?_) (fun hc2=>?_)
 ·skip
  refine wp_skip ?_
  refine k9 _ _ ?_
  refine wp_seq_k fun K11 k11=>?_
  refine wp_block ?_
  replace H:=H.keep [1,3,4] rfl
  refine seq_list fun K12 k12=>?_
  refine ls 5 H<|sf iJ rfl<|sl S 1 kI G G G<|sr 1 rfl<|si kW eR G G (hps.adr (by omega)) (by omega)<|sd ((aV kJ eR rfl S hps (by omega) (by omega)))<|sE ?_;clear H a;intro a H
  refine aI H rfl S rH ?_;clear H a S;intro b5 _ a hb5 hbw5 S H
  refine aD H S (i:=0) G G G G eR G G ?_
  clear H a S;intro _ a S H
  refine k12 _ _ ?_;clear k12 K12
  refine wp_seq_k fun K13 k13=>?_
  replace H:=H.keep [1,3,4,5] rfl
  refine sS H fun K14 k14=>sf jS rfl<|sl S 0 aE G G G<|sf eG rfl<|sl S 2 aE G G G<|sd (aR G G (by unfold i64ok;omega))<|sc rfl Tryz.func32 G G (bZ _ _ _ _)<|sr 2 rfl<|sg 7 7 36 43 false G G (fun hg8=>by
      have hq8:=hg8;try simp only [o1,o2,o3,o4,o5,o6,o7,o8,o9,oa] at hq8
      exact sy hg8<|sf jT rfl<|sy hg8<|sl S 0 aE G G G<|sy hg8<|sf eG rfl<|sy hg8<|sl S 2 aE G G G<|sy hg8<|sd (aR G G (by unfold i64ok;omega))<|sy hg8<|sc rfl Tryz.func32 G G (bZ _ _ _ _)<|sy hg8<|sr 1 rfl<|sz 7 G G G)<|so G G G<|sr 1 rfl<|sg 5 16 45 50 false G G (fun hg17=>by
      have hq17:=hg17;try simp only [o1,o2,o3,o4,o5,o6,o7,o8,o9,oa] at hq17
      exact sy hg17<|sf jS rfl<|sy hg17<|sl S 0 aE G G G<|sy hg17<|sf jT rfl<|sy hg17<|sl S 0 aE G G G<|sy hg17<|sr 1 rfl<|sz 5 G G G)<|so G G G<|sr 1 rfl<|sg 4 23 52 56 false G G (fun hg24=>by
      have hq24:=hg24;try simp only [o1,o2,o3,o4,o5,o6,o7,o8,o9,oa] at hq24
      exact sy hg24<|sf rA rfl<|sy hg24<|sl S 0 aE G G G<|sy hg24<|sc rfl Tryz.func32 G G (bZ _ _ _ _)<|sy hg24<|sr 1 rfl<|sz 4 G G G)<|so G G G<|sr 1 rfl<|sg 4 29 58 62 false G G (fun hg30=>by
      have hq30:=hg30;try simp only [o1,o2,o3,o4,o5,o6,o7,o8,o9,oa] at hq30
      exact sy hg30<|sf xI rfl<|sy hg30<|sl S 0 aE G G G<|sy hg30<|sc rfl Tryz.func32 G G (bZ _ _ _ _)<|sy hg30<|sr 1 rfl<|sz 4 G G G)<|so G G G<|sr 1 rfl<|sg 4 35 64 68 false G G (fun hg36=>by
      have hq36:=hg36;try simp only [o1,o2,o3,o4,o5,o6,o7,o8,o9,oa] at hq36
      exact sy hg36<|sf gB rfl<|sy hg36<|sl S 0 aE G G G<|sy hg36<|sc rfl Tryz.func32 G G (bZ _ _ _ _)<|sy hg36<|sr 1 rfl<|sz 4 G G G)<|so G G G<|sE ?_;clear H a;intro a H
  refine k14 _ ?_;clear k14 K14
  refine cond_ H rfl (fun hc3=>?_) (fun hc3=>?_)
  ·skip
   try simp only [o1,o2,o3,o4,o5,o6,o7,o8,o9,oa] at hc3
   replace H:=H.keep [] rfl
   refine sS H fun K15 k15=>sr 1 rfl<|sE ?_;clear H a;intro a H
   refine k15 _ ?_;clear k15 K15
   refine wp_ret ?_
   refine ret1 (fn:=Tryz.f8) rfl H rfl ?_
   exact ⟨congrArg _ (kQ (k:=k) (by omega) (by unfold pasOk;rw [Bool.and_eq_false_iff];exact .inl (eY (by omega)))).symm,(S.sel [] G G)⟩
  try simp only [o1,o2,o3,o4,o5,o6,o7,o8,o9,oa] at hc3
  refine wp_skip ?_
  refine k13 _ _ ?_
  refine wp_seq_k fun K16 k16=>?_
  refine sS H fun K17 k17=>sf gB rfl<|sl S 0 aE G G G<|sr 2 rfl<|sg 3 3 73 76 false G G (fun hg4=>by
      have hq4:=hg4;try simp only [o1,o2,o3,o4,o5,o6,o7,o8,o9,oa] at hq4
      exact sy hg4<|sf gB rfl<|sy hg4<|sl S 0 aE G G G<|sy hg4<|sr 1 rfl<|sz 3 G G G)<|so G G G<|sE ?_;clear H a;intro a H
  refine k17 _ ?_;clear k17 K17
  refine cond_ H rfl (fun hc4=>?_) (fun hc4=>?_)
  ·skip
   try simp only [o1,o2,o3,o4,o5,o6,o7,o8,o9,oa] at hc4
   refine wp_seq_k fun K18 k18=>?_
   replace H:=H.keep [1,3,4,5] rfl
   refine seq_list fun K19 k19=>?_
   refine ls 2 H<|sf dH rfl<|sl S 0 aE G G G<|sE ?_;clear H a;intro a H
   refine aA H G G Tryz.func32 G G (bZ _ _ _ _) ?_;clear H a
   rintro _ _ a ⟨rfl,rfl⟩ H
   refine ls 2 H<|sr 2 rfl<|sE ?_;clear H a;intro a H
   apply cI (i:=4) (g:=82) (t:=86) (b:=false) 4 H S G G (by kernel_rfl) (by kernel_rfl) G G
   case h1=>
    intro hg5
    have hq5:=hg5;try simp only [o1,o2,o3,o4,o5,o6,o7,o8,o9,oa] at hq5
    refine ls 3 H<|sy hg5<|sr 1 rfl<|sy hg5<|sf dH rfl<|sy hg5<|sl S 0 aE G G G<|sE ?_;intro a H
    refine cY H G G (by assumption) ?_
    refine aA H G G Tryz.func33 G G (Od ml A9 c9 _ _ (ownM.inS S (i:=1) rfl) (by have:=hM.1;omega)) ?_
    rintro _ _ a ⟨rfl,S2⟩ H
    replace S:=S.call S2;clear S2
    exact wpList_nil ⟨H.strip 4 G G,(S.sel [0,1,2] G G)⟩
   clear H a S;intro a _ H S
   refine ls 1 H<|so G G G<|sE ?_;clear H a;intro a H
   refine k19 _ _ ?_;clear k19 K19
   refine cond_ H rfl (fun hc5=>?_) (fun hc5=>?_)
   ·skip
    try simp only [o1,o2,o3,o4,o5,o6,o7,o8,o9,oa] at hc5
    replace H:=H.keep [] rfl
    refine sS H fun K20 k20=>sr 1 rfl<|sE ?_;clear H a;intro a H
    refine k20 _ ?_;clear k20 K20
    refine wp_ret ?_
    refine ret1 (fn:=Tryz.f8) rfl H rfl ?_
    exact ⟨congrArg _ (kQ (k:=k) (by omega) (Oa hM hc5 hc4)).symm,(S.sel [] G G)⟩
   try simp only [o1,o2,o3,o4,o5,o6,o7,o8,o9,oa] at hc5
   have hz:=hM.fresh hc5.1.1 hc5.2
   refine wp_skip ?_
   refine k18 _ _ ?_
   refine one_list ?_
   refine ls 3 H<|sr 1 rfl<|sf dH rfl<|sl S 0 aE G G G<|sE ?_;clear H a;intro a H
   refine aY H rfl S aS bA iC G G G G G G G G G ?_;clear H a S;intro A1 _ a hA1 S H
   refine cB H rfl S aS bA iC rG G G (i:=2) G G G (ownM.inS S (i:=0) rfl) (Kb (w8one rfl)) (by have:=hM.1;omega) (by have:=hM.1;omega) ?_;clear H a S;intro A2 c2 _ a S H
   replace S:=S.recell (i:=2) rfl (cell':=icl (ml++[bW ps k])) (fun q j hq hj=>Aw rfl q j hq hj)
   rw [show ml.length+1=(ml++[bW ps k]).length by simp] at H S
   refine ls 1 H<|sr 1 rfl<|sE ?_;clear H a;intro a H
   refine k16 _ _ ?_
   replace H:=H.keep [1,3,4,5] rfl
   refine sS H fun K22 k22=>sf gB rfl<|sl S 1 aE G G G<|sr 1 rfl<|sE ?_;clear H a;intro a H
   refine k22 _ ?_;clear k22 K22
   refine condE H rfl (fun hc6=>?_) (fun hc6=>?_)
   ·skip
    refine sS H fun K23 k23=>sf iY rfl<|sl S 1 aE G G G<|sc rfl Tryz.func32 G G (bZ _ _ _ _)<|sr 1 rfl<|sE ?_;clear H a;intro a H
    refine k23 _ ?_;clear k23 K23
    refine cond_ H rfl (fun hc7=>?_) (fun hc7=>?_)
    ·skip
     try simp only [o1,o2,o3,o4,o5,o6,o7,o8,o9,oa] at hc7
     refine sS H fun K24 k24=>sr 1 rfl<|sE ?_;clear H a;intro a H
     refine k24 _ ?_;clear k24 K24
     refine wp_ret ?_
     refine ret1 (fn:=Tryz.f8) rfl H rfl ?_
     exact ⟨congrArg _ (kQ (k:=k) (by omega) (by unfold pasOk;rw [Bool.and_eq_false_iff];exact .inl (eY (by omega)))).symm,(S.sel [] G G)⟩
    try simp only [o1,o2,o3,o4,o5,o6,o7,o8,o9,oa] at hc7
    refine wp_skip ?_
    refine k11 _ _ ?_
    replace H:=H.keep [1,3,4] rfl
    refine sO H<|sr 1 rfl<|sd (aK G G (by unfold i64ok;omega))<|sr 1 rfl<|sE ?_;clear H a;intro a H
    exact k8 (g1-1) (k+1,_,_,_) a _ (by omega) (by first|exact ⟨by omega,by omega,cC hA (oF (eE.2 (by omega)) hz),hM.add⟩|exact ⟨by omega,by omega,cC hA (oG (eE.2 (by omega)) (by omega)),hM.skip (by unfold bW;omega)⟩) (S.sel [2,3] G G) (H.keep [3,4,1] rfl)
   refine sS H fun K26 k26=>sf iY rfl<|sl S 1 aE G G G<|sr 1 rfl<|sE ?_;clear H a;intro a H
   refine k26 _ ?_;clear k26 K26
   refine condN H rfl (fun hc8=>?_) (fun hc8=>?_)
   ·skip
    refine sS H fun K27 k27=>sr 1 rfl<|sE ?_;clear H a;intro a H
    refine k27 _ ?_;clear k27 K27
    refine wp_ret ?_
    refine ret1 (fn:=Tryz.f8) rfl H rfl ?_
    exact ⟨congrArg _ (kQ (k:=k) (by omega) (by unfold pasOk;rw [Bool.and_eq_false_iff];exact .inl (eY (by omega)))).symm,(S.sel [] G G)⟩
   refine wp_skip ?_
   refine k11 _ _ ?_
   replace H:=H.keep [1,3,4] rfl
   refine sO H<|sr 1 rfl<|sd (aK G G (by unfold i64ok;omega))<|sr 1 rfl<|sE ?_;clear H a;intro a H
   exact k8 (g1-1) (k+1,_,_,_) a _ (by omega) (by first|exact ⟨by omega,by omega,cC hA (oF (eE.2 (by omega)) hz),hM.add⟩|exact ⟨by omega,by omega,cC hA (oG (eE.2 (by omega)) (by omega)),hM.skip (by unfold bW;omega)⟩) (S.sel [2,3] G G) (H.keep [3,4,1] rfl)
  try simp only [o1,o2,o3,o4,o5,o6,o7,o8,o9,oa] at hc4
  refine sS H fun K29 k29=>sf dH rfl<|sl S 0 aE G G G<|sr 1 rfl<|sE ?_;clear H a;intro a H
  refine k29 _ ?_;clear k29 K29
  refine condN H rfl (fun hc9=>?_) (fun hc9=>?_)
  ·skip
   refine sS H fun K30 k30=>sr 1 rfl<|sE ?_;clear H a;intro a H
   refine k30 _ ?_;clear k30 K30
   refine wp_ret ?_
   refine ret1 (fn:=Tryz.f8) rfl H rfl ?_
   exact ⟨congrArg _ (kQ (k:=k) (by omega) (by unfold pasOk;rw [Bool.and_eq_false_iff];exact .inl (eY (by omega)))).symm,(S.sel [] G G)⟩
  refine wp_skip ?_
  refine k16 _ _ ?_
  replace H:=H.keep [1,3,4,5] rfl
  refine sS H fun K31 k31=>sf gB rfl<|sl S 0 aE G G G<|sr 1 rfl<|sE ?_;clear H a;intro a H
  refine k31 _ ?_;clear k31 K31
  refine condE H rfl (fun hc10=>?_) (fun hc10=>?_)
  ·skip
   refine sS H fun K32 k32=>sf iY rfl<|sl S 0 aE G G G<|sc rfl Tryz.func32 G G (bZ _ _ _ _)<|sr 1 rfl<|sE ?_;clear H a;intro a H
   refine k32 _ ?_;clear k32 K32
   refine cond_ H rfl (fun hc11=>?_) (fun hc11=>?_)
   ·skip
    try simp only [o1,o2,o3,o4,o5,o6,o7,o8,o9,oa] at hc11
    refine sS H fun K33 k33=>sr 1 rfl<|sE ?_;clear H a;intro a H
    refine k33 _ ?_;clear k33 K33
    refine wp_ret ?_
    refine ret1 (fn:=Tryz.f8) rfl H rfl ?_
    exact ⟨congrArg _ (kQ (k:=k) (by omega) (by unfold pasOk;rw [Bool.and_eq_false_iff];exact .inl (eY (by omega)))).symm,(S.sel [] G G)⟩
   try simp only [o1,o2,o3,o4,o5,o6,o7,o8,o9,oa] at hc11
   refine wp_skip ?_
   refine k11 _ _ ?_
   replace H:=H.keep [1,3,4] rfl
   refine sO H<|sr 1 rfl<|sd (aK G G (by unfold i64ok;omega))<|sr 1 rfl<|sE ?_;clear H a;intro a H
   exact k8 (g1-1) (k+1,_,_,_) a _ (by omega) (by first|exact ⟨by omega,by omega,cC hA (oF (eE.2 (by omega)) hz),hM.add⟩|exact ⟨by omega,by omega,cC hA (oG (eE.2 (by omega)) (by omega)),hM.skip (by unfold bW;omega)⟩) (S.sel [1,2] G G) (H.keep [3,4,1] rfl)
  refine sS H fun K35 k35=>sf iY rfl<|sl S 0 aE G G G<|sr 1 rfl<|sE ?_;clear H a;intro a H
  refine k35 _ ?_;clear k35 K35
  refine condN H rfl (fun hc12=>?_) (fun hc12=>?_)
  ·skip
   refine sS H fun K36 k36=>sr 1 rfl<|sE ?_;clear H a;intro a H
   refine k36 _ ?_;clear k36 K36
   refine wp_ret ?_
   refine ret1 (fn:=Tryz.f8) rfl H rfl ?_
   exact ⟨congrArg _ (kQ (k:=k) (by omega) (by unfold pasOk;rw [Bool.and_eq_false_iff];exact .inl (eY (by omega)))).symm,(S.sel [] G G)⟩
  refine wp_skip ?_
  refine k11 _ _ ?_
  replace H:=H.keep [1,3,4] rfl
  refine sO H<|sr 1 rfl<|sd (aK G G (by unfold i64ok;omega))<|sr 1 rfl<|sE ?_;clear H a;intro a H
  exact k8 (g1-1) (k+1,_,_,_) a _ (by omega) (by first|exact ⟨by omega,by omega,cC hA (oF (eE.2 (by omega)) hz),hM.add⟩|exact ⟨by omega,by omega,cC hA (oG (eE.2 (by omega)) (by omega)),hM.skip (by unfold bW;omega)⟩) (S.sel [1,2] G G) (H.keep [3,4,1] rfl)
 refine wp_exit ?_
 refine k6 _ _ ?_
 refine wp_seq_k fun K38 k38=>?_
 refine sS H fun K39 k39=>sr 1 rfl<|sE ?_;clear H a;intro a H
 refine k39 _ ?_;clear k39 K39
 refine wp_block ?_
 refine loop_st (X:=Nat) (R0:=_) [1] H rfl (fun k2=>[(6,.int .i64 (k2:Int))]) (fun k2=>[]) (fun g k2=>k2≤xs.length∧g+k2=xs.length∧allN (exOk pl xs) k2=true) (xs.length) 0 ?_ (S.sel [0,1] G G) (H.keep [6,1] rfl) ?_
 · exact ⟨by omega,by omega,rfl⟩
 clear H S a
 intro g2 x2 a w2 hp S H K40 k40
 obtain ⟨k2,rfl⟩:∃ y,y=x2:=⟨_,rfl⟩
 refine wp_seq_k fun K41 k41=>?_
 refine sS H fun K42 k42=>sr 1 rfl<|sf nK rfl<|sl S 1 bD G G G<|sL aS rfl<|sr 1 rfl<|sE ?_;clear H a;intro a H
 refine k42 _ ?_;clear k42 K42
 refine condL H rfl (fun hc13=>?_) (fun hc13=>?_)
 ·skip
  refine wp_skip ?_
  refine k41 _ _ ?_
  refine wp_seq_k fun K43 k43=>?_
  refine wp_block ?_
  replace H:=H.keep [1,6] rfl
  replace S:=S.drew
  refine sD H fun K44 k44=>sf nK rfl<|sl S 1 bD G G G<|sr 1 rfl<|si aS bA G G (hxs.adr (by omega)) (by omega)<|slm aE rfl (hxs.rd S (by omega) (by omega))<|sf eG rfl<|sl S 1 aE G G G<|sd (aR G G (by unfold i64ok;omega))<|sc rfl Tryz.func32 G G (bZ _ _ _ _)<|sr 2 rfl<|sg 16 10 123 139 false G G (fun hg11=>by
      have hq11:=hg11;try simp only [o1,o2,o3,o4,o5,o6,o7,o8,o9,oa] at hq11
      exact sy hg11<|sr 1 rfl<|sy hg11<|sr 1 rfl<|sy hg11<|sr 1 rfl<|sg 12 13 126 138 true G G (fun hg14=>by
           have hq14:=hg14;try simp only [o1,o2,o3,o4,o5,o6,o7,o8,o9,oa] at hq14
           exact sy hg14<|sf nK rfl<|sy hg14<|sl S 1 bD G G G<|sy hg14<|sr 1 rfl<|sy hg14<|si aS bA G G (hxs.adr (by omega)) (by omega)<|sy hg14<|slm aE rfl (hxs.rd S (by omega) (by omega))<|sy hg14<|sf nK rfl<|sy hg14<|sl S 1 bD G G G<|sy hg14<|sr 1 rfl<|sy hg14<|sd (aR G G (by unfold i64ok;omega))<|sy hg14<|sI aS bA G G (hxs.adr (by omega)) (by omega) (by omega)<|sy hg14<|slm aE rfl (hxs.rd S (by omega) (by omega))<|sy hg14<|sr 1 rfl<|sz 12 G G G)<|sy hg11<|sa G G G<|sz 5 G G G)<|so G G G<|sE ?_;clear H a;intro a H
  refine k44 _ ?_;clear k44 K44
  refine cond_ H rfl (fun hc14=>?_) (fun hc14=>?_)
  ·skip
   try simp only [o1,o2,o3,o4,o5,o6,o7,o8,o9,oa] at hc14
   rw [show ((k2:Int)-1).toNat=k2-1 by omega] at hc14
   replace H:=H.keep [] rfl
   refine sS H fun K45 k45=>sr 1 rfl<|sE ?_;clear H a;intro a H
   refine k45 _ ?_;clear k45 K45
   refine wp_ret ?_
   refine ret1 (fn:=Tryz.f8) rfl H rfl ?_
   exact ⟨congrArg _ (Ps (k:=k2) (by omega) (Oc (by omega))).symm,(S.sel [] G G)⟩
  try simp only [o1,o2,o3,o4,o5,o6,o7,o8,o9,oa] at hc14
  rw [show ((k2:Int)-1).toNat=k2-1 by omega] at hc14
  refine wp_skip ?_
  refine k43 _ _ ?_
  refine sO H<|sr 1 rfl<|sd (aK G G (by unfold i64ok;omega))<|sr 1 rfl<|sE ?_;clear H a;intro a H
  exact k40 (g2-1) (k2+1) a _ (by omega) (⟨by omega,by omega,cC hp.2.2 (Ob (by omega))⟩) (S.sel [0,1] G G) (H.keep [6,1] rfl)
 refine wp_exit ?_
 refine k38 _ _ ?_
 refine sS H fun K47 k47=>sr 1 rfl<|sE ?_;clear H a;intro a H
 refine k47 _ ?_;clear k47 K47
 refine wp_ret ?_
 refine ret1 (fn:=Tryz.f8) rfl H rfl ?_
 have hk9:k=ps.length:=by omega
 have hk8:k2=xs.length:=by omega
 exact ⟨congrArg _ (Pt (by omega) (hk9 ▸ hA) (hk8 ▸ hp.2.2)).symm,(S.sel [] G G)⟩
end
section
theorem oH (pl:Int) (ps:List Psg) (PA:Option Addr) (pc:Nat) (xs:List Int) (XA:Option Addr) (xc:Nat) (pe:List Int) (BA:Option Addr) (bc:Nat) (w:World) (hpe:InS w noF 1 BA pe.length (icl pe)) (hpen:pe.length≤9223372036854775807) :
    Calls Tryz.prog 66 [.agg [.int .i64 pl,.slice PA ps.length pc,.slice XA xs.length xc].toArray,.slice BA pe.length bc].toArray w (Ret (fun v w'=>v = .bool (eO pl pe)∧St w noF [] w')):=by
 refine enter Tryz.func66 rfl Tryz.ntmps66 rfl (fun a H=>?_)
 have S:=St.start w
 refine seq_list fun K1 k1=>?_
 refine aN H rfl S G G ?_;clear H a S;intro b2 _ a hb2 hbw2 S H
 refine ls 1 H<|sr 1 rfl<|sE ?_;clear H a;intro a H
 refine k1 _ _ ?_;clear k1 K1
 refine wp_seq_k fun K2 k2=>?_
 refine sS H fun K3 k3=>sr 1 rfl<|sE ?_;clear H a;intro a H
 refine k3 _ ?_;clear k3 K3
 refine wp_block ?_
 refine loop_st (X:=Nat) (R0:=_) [1,2] H rfl (fun k=>[(5,.int .i64 (k:Int))]) (fun k=>[]) (fun g k=>k≤pe.length∧g+k=pe.length∧allN (fun k=>decide (0≤pe.getD k 0∧pe.getD k 0≤1000)) k=true) (pe.length) 0 ?_ (S.sel [0] G G) (H.keep [5,1,2] rfl) ?_
 · exact ⟨by omega,by omega,rfl⟩
 clear H S a
 intro g1 x1 a w1 hp S H K4 k4
 obtain ⟨k,rfl⟩:∃ y,y=x1:=⟨_,rfl⟩
 refine wp_seq_k fun K5 k5=>?_
 refine sS H fun K6 k6=>sr 2 rfl<|sL aS rfl<|sr 1 rfl<|sE ?_;clear H a;intro a H
 refine k6 _ ?_;clear k6 K6
 refine condL H rfl (fun hc1=>?_) (fun hc1=>?_)
 ·skip
  refine wp_skip ?_
  refine k5 _ _ ?_
  refine wp_seq_k fun K7 k7=>?_
  refine wp_block ?_
  replace H:=H.keep [1,2,5] rfl
  refine sS H fun K8 k8=>sr 2 rfl<|si aS bA G G (hpe.adr (by omega)) (by omega)<|slm aE rfl (hpe.rd S (by omega) (by omega))<|sc rfl Tryz.func32 G G (bZ _ _ _ _)<|sr 1 rfl<|sE ?_;clear H a;intro a H
  refine k8 _ ?_;clear k8 K8
  refine cond_ H rfl (fun hc2=>?_) (fun hc2=>?_)
  ·skip
   try simp only [o1,o2,o3,o4,o5,o6,o7,o8,o9,oa] at hc2
   refine sS H fun K9 k9=>sr 1 rfl<|sE ?_;clear H a;intro a H
   refine k9 _ ?_;clear k9 K9
   refine wp_ret ?_
   refine ret1 (fn:=Tryz.f66) rfl H rfl ?_
   refine ⟨congrArg Value.bool ?_,(S.sel [] G G)⟩;unfold eO;rw [fP (k:=k) (by omega) (by rw [decide_eq_false_iff_not];omega)];rfl
  try simp only [o1,o2,o3,o4,o5,o6,o7,o8,o9,oa] at hc2
  refine wp_skip ?_
  refine k7 _ _ ?_
  replace H:=H.keep [1,2,5] rfl
  refine sO H<|sr 1 rfl<|sd (aK G G (by unfold i64ok;omega))<|sr 1 rfl<|sE ?_;clear H a;intro a H
  exact k4 (g1-1) (k+1) a _ (by omega) (⟨by omega,by omega,cC hp.2.2 (by rw [decide_eq_true_eq];omega)⟩) (S.sel [0] G G) (H.keep [5,1,2] rfl)
 refine wp_exit ?_
 refine k2 _ _ ?_
 refine sS H fun K11 k11=>sr 1 rfl<|sL aS rfl<|sf eG rfl<|sl S 0 aE G G G<|sr 2 rfl<|sE ?_;clear H a;intro a H
 refine k11 _ ?_;clear k11 K11
 refine wp_ret ?_
 refine ret1 (fn:=Tryz.f66) rfl H rfl ?_
 refine ⟨congrArg Value.bool ?_,(S.sel [] G G)⟩;unfold eO;rw [show pe.length=k by omega,hp.2.2,Bool.true_and]
theorem wG (pl:Int) (ps:List Psg) (PA:Option Addr) (pc:Nat) (xs:List Int) (XA:Option Addr) (xc:Nat) (day:List Hq) (HA:Option Addr) (hcp:Nat) (DA:Nat→Option Addr) (dc:Nat→Nat) (w:World) (hps:InS w noF 7 PA ps.length (pcell ps)) (hpn:ps.length≤9223372036854775807) (hxs:InS w noF 1 XA xs.length (icl xs)) (hxn:xs.length≤9223372036854775807) (hday:InS w noF 3 HA day.length (hcl day DA dc)) (hdn:day.length≤9223372036854775807) (hdp:∀ k,k<day.length→InS w noF 1 (DA k) (day.getD k Hq.zero).pe.length (icl (day.getD k Hq.zero).pe)) (hdl:∀ k,k<day.length→(day.getD k Hq.zero).pe.length≤9223372036854775807) :
    Calls Tryz.prog 68 [.agg [.int .i64 pl,.slice PA ps.length pc,.slice XA xs.length xc].toArray,.slice HA day.length hcp].toArray w (Ret (fun v w'=>v = .int .i64 (dayE pl ps xs day)∧St w noF [] w')):=by
 refine enter Tryz.func68 rfl Tryz.ntmps68 rfl (fun a H=>?_)
 have S:=St.start w
 refine seq_list fun K1 k1=>?_
 refine aN H rfl S G G ?_;clear H a S;intro b2 _ a hb2 hbw2 S H
 refine ls 1 H<|sr 1 rfl<|sE ?_;clear H a;intro a H
 refine k1 _ _ ?_;clear k1 K1
 refine seq_list fun K2 k2=>?_
 refine ls 1 H<|sd ((aB eQ hX rfl S (i:=0) G G))<|sE ?_;clear H a;intro a H
 refine aA H G G Tryz.func8 G G (jJ pl ps PA pc xs XA xc _ (hps.now S) hpn (hxs.now S) hxn) ?_;clear H a
 rintro _ _ a ⟨rfl,S2⟩ H
 replace S:=S.call S2;clear S2
 refine ls 1 H<|sr 1 rfl<|sE ?_;clear H a;intro a H
 refine k2 _ _ ?_;clear k2 K2
 refine wp_seq_k fun K3 k3=>?_
 refine sS H fun K4 k4=>sr 2 rfl<|sE ?_;clear H a;intro a H
 refine k4 _ ?_;clear k4 K4
 refine condN H rfl (fun hc1=>?_) (fun hc1=>?_)
 ·skip
  refine sS H fun K5 k5=>sr 2 rfl<|sE ?_;clear H a;intro a H
  refine k5 _ ?_;clear k5 K5
  refine wp_ret ?_
  refine ret1 (fn:=Tryz.f68) rfl H rfl ?_
  refine ⟨congrArg (Value.int .i64) ?_,(S.sel [] G G)⟩;unfold dayE;rw [if_pos hc1]
 have hst:stE pl ps xs=0:=by omega
 refine wp_skip ?_
 refine k3 _ _ ?_
 refine wp_seq_k fun K6 k6=>?_
 replace H:=H.keep [1,2] rfl
 refine sS H fun K7 k7=>sr 1 rfl<|sL jL rfl<|sr 1 rfl<|sE ?_;clear H a;intro a H
 refine k7 _ ?_;clear k7 K7
 refine condL H rfl (fun hc2=>?_) (fun hc2=>?_)
 ·skip
  refine sS H fun K8 k8=>sr 1 rfl<|sE ?_;clear H a;intro a H
  refine k8 _ ?_;clear k8 K8
  refine wp_ret ?_
  refine ret1 (fn:=Tryz.f68) rfl H rfl ?_
  refine ⟨congrArg (Value.int .i64) ?_,(S.sel [] G G)⟩;unfold dayE;rw [if_neg (by omega),if_neg];unfold dayOk;rw [decide_eq_false (p:=day.length≤48) (by omega),Bool.and_false];simp
 refine wp_skip ?_
 refine k6 _ _ ?_
 refine wp_seq_k fun K9 k9=>?_
 refine sS H fun K10 k10=>sr 1 rfl<|sE ?_;clear H a;intro a H
 refine k10 _ ?_;clear k10 K10
 refine wp_block ?_
 refine loop_st (X:=Nat) (R0:=_) [1,2] H rfl (fun k=>[(6,.int .i64 (k:Int))]) (fun k=>[]) (fun g k=>k≤day.length∧g+k=day.length∧allN (fun k=>hqOk pl (day.getD k Hq.zero)) k=true) (day.length) 0 ?_ (S.sel [0] G G) (H.keep [6,1,2] rfl) ?_
 · exact ⟨by omega,by omega,rfl⟩
 clear H S a
 intro g1 x1 a w1 hp S H K11 k11
 obtain ⟨k,rfl⟩:∃ y,y=x1:=⟨_,rfl⟩
 refine wp_seq_k fun K12 k12=>?_
 refine sS H fun K13 k13=>sr 2 rfl<|sL jL rfl<|sr 1 rfl<|sE ?_;clear H a;intro a H
 refine k13 _ ?_;clear k13 K13
 refine condL H rfl (fun hc3=>?_) (fun hc3=>?_)
 ·skip
  refine wp_skip ?_
  refine k12 _ _ ?_
  refine wp_seq_k fun K14 k14=>?_
  refine wp_block ?_
  by_cases hB:0≤(day.getD k Hq.zero).out∧(day.getD k Hq.zero).out≤4095
  ·skip
   replace H:=H.keep [1,2,6] rfl
   replace S:=S.drew
   refine seq_wq [(0,true),(1,true),(2,true),(3,true),(4,true),(5,false),(6,true),(7,true),(8,true),(9,true),(10,true),(11,true),(12,true),(13,true),(14,false),(15,true),(16,true)] (by kernel_rfl) (by kernel_rfl) (S.sel [0] G G) fun K15 k15=>?_
   refine qF H<|qr 2 rfl<|qd rfl (fun _ S=>bM jL kL G G (hday.adr (by omega)) (by omega))<|qd rfl (fun _ S=>(bL nQ rfl))<|qd rfl (fun _ S=>aH aE rfl (hday.rd S (by omega) (by omega)))<|qK ?_;clear H a;intro a H
   refine aT rfl ?_
   refine aA H G G Tryz.func65 G G (wF _ _) ?_;clear H a
   rintro _ _ a ⟨rfl,rfl⟩ H
   rw [decide_eq_true hB.1,decide_eq_true hB.2,Bool.and_self] at H
   refine wpList_nil (And.intro (S.sel [0] G G) ?_)
   refine qF H<|qr 2 rfl<|qK ?_;clear H a;intro a H
   refine aF H G G G G (fun _ S=>(aB eQ hX rfl S (i:=0) G G)) ?_;clear H a;intro a H
   refine aF H G G G G (fun _ S=>aL rfl) ?_;clear H a;intro a H
   refine aF H G G G G (fun _ S=>aL rfl) ?_;clear H a;intro a H
   refine aF H G G G G (fun _ S=>bM jL kL G G (hday.adr (by omega)) (by omega)) ?_;clear H a;intro a H
   refine aF H G G G G (fun _ S=>(bL xL rfl)) ?_;clear H a;intro a H
   refine aF H G G G G (fun _ S=>aH bD rfl (hday.rd S (by omega) (by omega))) ?_;clear H a;intro a H
   refine aT rfl ?_
   refine aX H G G ?_
   refine aA H G G Tryz.func66 G G (oH pl ps PA pc xs XA xc (day.getD k Hq.zero).pe (DA k) (dc k) _ ((hdp k (by omega)).now S) (hdl k (by omega))) ?_;clear H a
   rintro _ _ a ⟨rfl,S2⟩ H
   replace S:=S.call S2;clear S2
   refine wpList_nil (And.intro (S.sel [0] G G) ?_)
   refine aF H G G G G (fun _ S=>cJ rfl) ?_;clear H a;intro a H
   refine qF H<|qd rfl (fun _ S=>(aW G G G))<|qK ?_;clear H a;intro a H
   refine bN ?_
   refine k15 _ _ ?_
   clear k15 K15
   refine cond_ H rfl (fun hc4=>?_) (fun hc4=>?_)
   ·skip
    try simp only [o1,o2,o3,o4,o5,o6,o7,o8,o9,oa] at hc4
    replace H:=H.keep [] rfl
    refine sS H fun K16 k16=>sr 1 rfl<|sE ?_;clear H a;intro a H
    refine k16 _ ?_;clear k16 K16
    refine wp_ret ?_
    refine ret1 (fn:=Tryz.f68) rfl H rfl ?_
    refine ⟨congrArg (Value.int .i64) ?_,(S.sel [] G G)⟩;unfold dayE;rw [if_neg (by omega),rP (k:=k) (by omega) (by unfold hqOk;rw [hc4.resolve_left (by simp),Bool.and_false])];rfl
   try simp only [o1,o2,o3,o4,o5,o6,o7,o8,o9,oa] at hc4
   refine wp_skip ?_
   refine k14 _ _ ?_
   refine sO H<|sr 1 rfl<|sd (aK G G (by unfold i64ok;omega))<|sr 1 rfl<|sE ?_;clear H a;intro a H
   exact k11 (g1-1) (k+1) a _ (by omega) (⟨by omega,by omega,cC hp.2.2 (by unfold hqOk;rw [decide_eq_true hB,hc4.2];rfl)⟩) (S.sel [0] G G) (H.keep [6,1,2] rfl)
  replace H:=H.keep [1,2,6] rfl
  replace S:=S.drew
  refine seq_wq [(0,true),(1,true),(2,true),(3,true),(4,true),(5,false),(6,true),(7,true),(8,true),(9,true),(10,true),(11,true),(12,true),(13,true),(14,true),(15,true),(16,true)] (by kernel_rfl) (by kernel_rfl) (S.sel [0] G G) fun K18 k18=>?_
  refine qF H<|qr 2 rfl<|qd rfl (fun _ S=>bM jL kL G G (hday.adr (by omega)) (by omega))<|qd rfl (fun _ S=>(bL nQ rfl))<|qd rfl (fun _ S=>aH aE rfl (hday.rd S (by omega) (by omega)))<|qK ?_;clear H a;intro a H
  refine aT rfl ?_
  refine aA H G G Tryz.func65 G G (wF _ _) ?_;clear H a
  rintro _ _ a ⟨rfl,rfl⟩ H
  rw [Bool.and_eq_false_iff.2 (by simp only [decide_eq_false_iff_not];omega)] at H
  refine wpList_nil (And.intro (S.sel [0] G G) ?_)
  refine qF H<|qr 2 rfl<|qK ?_;clear H a;intro a H
  refine aJ H G G G G G ?_;clear H a;intro a H
  refine aJ H G G G G G ?_;clear H a;intro a H
  refine aJ H G G G G G ?_;clear H a;intro a H
  refine aJ H G G G G G ?_;clear H a;intro a H
  refine aJ H G G G G G ?_;clear H a;intro a H
  refine aJ H G G G G G ?_;clear H a;intro a H
  refine aJ H G G G G G ?_;clear H a;intro a H
  refine aJ H G G G G G ?_;clear H a;intro a H
  refine qF H<|qd rfl (fun _ S=>(aU G G G))<|qK ?_;clear H a;intro a H
  refine bN ?_
  refine k18 _ _ ?_
  clear k18 K18
  refine cond_ H rfl (fun hc5=>?_) (fun hc5=>?_)
  ·skip
   skip
   replace H:=H.keep [] rfl
   refine sS H fun K19 k19=>sr 1 rfl<|sE ?_;clear H a;intro a H
   refine k19 _ ?_;clear k19 K19
   refine wp_ret ?_
   refine ret1 (fn:=Tryz.f68) rfl H rfl ?_
   refine ⟨congrArg (Value.int .i64) ?_,(S.sel [] G G)⟩;unfold dayE;rw [if_neg (by omega),rP (k:=k) (by omega) (by unfold hqOk;rw [decide_eq_false hB];rfl)];rfl
  skip
  cases hc5
 refine wp_exit ?_
 refine k9 _ _ ?_
 refine sS H fun K20 k20=>sr 1 rfl<|sE ?_;clear H a;intro a H
 refine k20 _ ?_;clear k20 K20
 refine wp_ret ?_
 refine ret1 (fn:=Tryz.f68) rfl H rfl ?_
 obtain rfl:k=day.length:=by omega
 exact ⟨congrArg (Value.int .i64) (uK hst (by rw [xZ hp.2.2];exact decide_eq_true (by omega))).symm,(S.sel [] G G)⟩
theorem oI (pl:Int) (ps:List Psg) (PA:Option Addr) (pc:Nat) (xs:List Int) (XA:Option Addr) (xc:Nat) (day:List Hq) (HA:Option Addr) (hcp:Nat) (DA:Nat→Option Addr) (dc:Nat→Nat) (l:List Prm) (LA:Option Addr) (lc:Nat) (w:World) (hps:InS w noF 7 PA ps.length (pcell ps)) (hpn:ps.length≤9223372036854775807) (hxs:InS w noF 1 XA xs.length (icl xs)) (hxn:xs.length≤9223372036854775807) (hday:InS w noF 3 HA day.length (hcl day DA dc)) (hdn:day.length≤9223372036854775807) (hdp:∀ k,k<day.length→InS w noF 1 (DA k) (day.getD k Hq.zero).pe.length (icl (day.getD k Hq.zero).pe)) (hdl:∀ k,k<day.length→(day.getD k Hq.zero).pe.length≤9223372036854775807) (hl:InS w noF 5 LA l.length (fB l)) (hln:l.length≤9223372036854775807) :
    Calls Tryz.prog 27 [.agg [.int .i64 pl,.slice PA ps.length pc,.slice XA xs.length xc].toArray,.slice HA day.length hcp,.slice LA l.length lc].toArray w (Ret (fun v w'=>v = .int .i64 (keptE pl ps xs day l)∧St w noF [] w')):=by
 refine enter Tryz.func27 rfl Tryz.ntmps27 rfl (fun a H=>?_)
 have S:=St.start w
 refine seq_list fun K1 k1=>?_
 refine aN H rfl S G G ?_;clear H a S;intro b3 _ a hb3 hbw3 S H
 refine ls 1 H<|sr 1 rfl<|sE ?_;clear H a;intro a H
 refine k1 _ _ ?_;clear k1 K1
 refine seq_list fun K2 k2=>?_
 refine ls 2 H<|sd ((aB eQ hX rfl S (i:=0) G G))<|sr 1 rfl<|sE ?_;clear H a;intro a H
 refine aA H G G Tryz.func68 G G (wG pl ps PA pc xs XA xc day HA hcp DA dc _ (hps.now S) hpn (hxs.now S) hxn (hday.now S) hdn (fun k hk=>(hdp k hk).now S) hdl) ?_;clear H a
 rintro _ _ a ⟨rfl,S2⟩ H
 replace S:=S.call S2;clear S2
 refine ls 1 H<|sr 1 rfl<|sE ?_;clear H a;intro a H
 refine k2 _ _ ?_;clear k2 K2
 refine wp_seq_k fun K3 k3=>?_
 refine sS H fun K4 k4=>sr 2 rfl<|sE ?_;clear H a;intro a H
 refine k4 _ ?_;clear k4 K4
 refine condN H rfl (fun hc1=>?_) (fun hc1=>?_)
 ·skip
  replace H:=H.keep [7] rfl
  refine sS H fun K5 k5=>sr 2 rfl<|sE ?_;clear H a;intro a H
  refine k5 _ ?_;clear k5 K5
  refine wp_ret ?_
  refine ret1 (fn:=Tryz.f27) rfl H rfl ?_
  refine ⟨congrArg (Value.int .i64) ?_,(S.sel [] G G)⟩;unfold keptE;rw [if_pos hc1]
 have hdE:dayE pl ps xs day=0:=by omega
 have hV:=nT (vS hdE).1
 have hP10:=hV.size
 refine wp_skip ?_
 refine k3 _ _ ?_
 refine wp_seq_k fun K6 k6=>?_
 refine sS H fun K7 k7=>sr 1 rfl<|sL jR rfl<|sr 1 rfl<|sE ?_;clear H a;intro a H
 refine k7 _ ?_;clear k7 K7
 refine condL H rfl (fun hc2=>?_) (fun hc2=>?_)
 ·skip
  refine sS H fun K8 k8=>sr 1 rfl<|sE ?_;clear H a;intro a H
  refine k8 _ ?_;clear k8 K8
  refine wp_ret ?_
  refine ret1 (fn:=Tryz.f27) rfl H rfl ?_
  exact ⟨congrArg (Value.int .i64) (mD hdE (yY (by omega))).symm,(S.sel [] G G)⟩
 refine wp_skip ?_
 refine k6 _ _ ?_
 refine wp_seq_k fun K9 k9=>?_
 refine sS H fun K10 k10=>sr 1 rfl<|sE ?_;clear H a;intro a H
 refine k10 _ ?_;clear k10 K10
 refine wp_block ?_
 refine loop_st (X:=Nat) (R0:=_) [2,3] H rfl (fun k=>[(8,.int .i64 (k:Int))]) (fun k=>[]) (fun g k=>k≤l.length∧g+k=l.length∧allN (fun k=>prmOk pl (l.getD k Prm.zero)) k=true) (l.length) 0 ?_ (S.sel [0] G G) (H.keep [8,2,3] rfl) ?_
 · exact ⟨by omega,by omega,rfl⟩
 clear H S a
 intro g1 x1 a w1 hp S H K11 k11
 obtain ⟨k,rfl⟩:∃ y,y=x1:=⟨_,rfl⟩
 refine wp_seq_k fun K12 k12=>?_
 refine sS H fun K13 k13=>sr 2 rfl<|sL jR rfl<|sr 1 rfl<|sE ?_;clear H a;intro a H
 refine k13 _ ?_;clear k13 K13
 refine condL H rfl (fun hc3=>?_) (fun hc3=>?_)
 ·skip
  refine wp_skip ?_
  refine k12 _ _ ?_
  refine wp_seq_k fun K14 k14=>?_
  refine wp_block ?_
  replace H:=H.keep [2,3,8] rfl
  refine seq_list fun K15 k15=>?_
  refine ls 4 H<|sr 2 rfl<|si jR iU G G (hl.adr (by omega)) (by omega)<|sd ((aV qY iU rfl S hl (by omega) (by omega)))<|sE ?_;clear H a;intro a H
  refine aI H rfl S tS ?_;clear H a S;intro b9 _ a hb9 hbw9 S H
  refine aD H S (i:=0) G G G G iU G G ?_
  clear H a S;intro _ a S H
  refine k15 _ _ ?_;clear k15 K15
  replace H:=H.keep [2,3,8,9] rfl
  refine sS H fun K16 k16=>sf vH rfl<|sl S 0 aE G G G<|sf eG rfl<|sl S 1 aE G G G<|sd (aR G G (by unfold i64ok;omega))<|sc rfl Tryz.func32 G G (bZ _ _ _ _)<|sr 2 rfl<|sg 7 7 36 43 false G G (fun hg8=>by
      have hq8:=hg8;try simp only [o1,o2,o3,o4,o5,o6,o7,o8,o9,oa] at hq8
      exact sy hg8<|sf vI rfl<|sy hg8<|sl S 0 aE G G G<|sy hg8<|sf eG rfl<|sy hg8<|sl S 1 aE G G G<|sy hg8<|sd (aR G G (by unfold i64ok;omega))<|sy hg8<|sc rfl Tryz.func32 G G (bZ _ _ _ _)<|sy hg8<|sr 1 rfl<|sz 7 G G G)<|so G G G<|sr 1 rfl<|sg 6 16 45 51 false G G (fun hg17=>by
      have hq17:=hg17;try simp only [o1,o2,o3,o4,o5,o6,o7,o8,o9,oa] at hq17
      exact sy hg17<|sf nN rfl<|sy hg17<|sl S 0 aE G G G<|sy hg17<|sf lY rfl<|sy hg17<|sl S 0 aE G G G<|sy hg17<|sc rfl Tryz.func32 G G (bZ _ _ _ _)<|sy hg17<|sr 1 rfl<|sz 6 G G G)<|so G G G<|sr 1 rfl<|sg 3 24 53 56 false G G (fun hg25=>by
      have hq25:=hg25;try simp only [o1,o2,o3,o4,o5,o6,o7,o8,o9,oa] at hq25
      exact sy hg25<|sf lY rfl<|sy hg25<|sl S 0 aE G G G<|sy hg25<|sr 1 rfl<|sz 3 G G G)<|so G G G<|sE ?_;clear H a;intro a H
  refine k16 _ ?_;clear k16 K16
  refine cond_ H rfl (fun hc4=>?_) (fun hc4=>?_)
  ·skip
   try simp only [o1,o2,o3,o4,o5,o6,o7,o8,o9,oa] at hc4
   replace H:=H.keep [] rfl
   refine sS H fun K17 k17=>sr 1 rfl<|sE ?_;clear H a;intro a H
   refine k17 _ ?_;clear k17 K17
   refine wp_ret ?_
   refine ret1 (fn:=Tryz.f27) rfl H rfl ?_
   exact ⟨congrArg (Value.int .i64) (mD hdE (Cq (k:=k) (by omega) (Kf (by omega)))).symm,(S.sel [] G G)⟩
  try simp only [o1,o2,o3,o4,o5,o6,o7,o8,o9,oa] at hc4
  refine wp_skip ?_
  refine k14 _ _ ?_
  refine sO H<|sr 1 rfl<|sd (aK G G (by unfold i64ok;omega))<|sr 1 rfl<|sE ?_;clear H a;intro a H
  exact k11 (g1-1) (k+1) a _ (by omega) (⟨by omega,by omega,cC hp.2.2 (oY.2 (by omega))⟩) (S.sel [1] G G) (H.keep [8,2,3] rfl)
 refine wp_exit ?_
 refine k9 _ _ ?_
 refine sS H fun K19 k19=>sr 1 rfl<|sE ?_;clear H a;intro a H
 refine k19 _ ?_;clear k19 K19
 refine wp_ret ?_
 refine ret1 (fn:=Tryz.f27) rfl H rfl ?_
 obtain rfl:k=l.length:=by omega
 exact ⟨congrArg (Value.int .i64) (sM hdE (Cr hp.2.2 (by omega))).symm,(S.sel [] G G)⟩
end
section
theorem sV (pl:Int) (ps:List Psg) (PA:Option Addr) (pc:Nat) (xs:List Int) (XA:Option Addr) (xc:Nat) (out:Int) (pe:List Int) (BA:Option Addr) (bc:Nat) (T:Int) (w:World) (hps:InS w noF 7 PA ps.length (pcell ps)) (hpn:ps.length≤9223372036854775807) (hxs:InS w noF 1 XA xs.length (icl xs)) (hxn:xs.length≤9223372036854775807) (hpe:InS w noF 1 BA pe.length (icl pe)) (hpen:pe.length≤9223372036854775807) :
    Calls Tryz.prog 25 [.agg [.int .i64 pl,.slice PA ps.length pc,.slice XA xs.length xc].toArray,.int .i64 out,.slice BA pe.length bc,.int .i64 T].toArray w (Ret (fun v w'=>v = .int .i64 (lJ pl ps xs out pe T)∧St w noF [] w')):=by
 refine enter Tryz.func25 rfl Tryz.ntmps25 rfl (fun a H=>?_)
 have S:=St.start w
 refine seq_list fun K1 k1=>?_
 refine aN H rfl S G G ?_;clear H a S;intro b4 _ a hb4 hbw4 S H
 refine ls 1 H<|sr 1 rfl<|sE ?_;clear H a;intro a H
 refine k1 _ _ ?_;clear k1 K1
 refine seq_list fun K2 k2=>?_
 refine ls 1 H<|sd ((aB eQ hX rfl S (i:=0) G G))<|sE ?_;clear H a;intro a H
 refine aA H G G Tryz.func8 G G (jJ pl ps PA pc xs XA xc _ (hps.now S) hpn (hxs.now S) hxn) ?_;clear H a
 rintro _ _ a ⟨rfl,S2⟩ H
 replace S:=S.call S2;clear S2
 refine ls 1 H<|sr 1 rfl<|sE ?_;clear H a;intro a H
 refine k2 _ _ ?_;clear k2 K2
 refine wp_seq_k fun K3 k3=>?_
 refine sS H fun K4 k4=>sr 2 rfl<|sE ?_;clear H a;intro a H
 refine k4 _ ?_;clear k4 K4
 refine condN H rfl (fun hc1=>?_) (fun hc1=>?_)
 ·skip
  refine sS H fun K5 k5=>sr 2 rfl<|sE ?_;clear H a;intro a H
  refine k5 _ ?_;clear k5 K5
  refine wp_ret ?_
  refine ret1 (fn:=Tryz.f25) rfl H rfl ?_
  refine ⟨?_,(S.sel [] G G)⟩;unfold lJ;rw [if_pos hc1]
 refine wp_skip ?_
 refine k3 _ _ ?_
 refine wp_seq_k fun K6 k6=>?_
 replace H:=H.keep [1,2,3,4] rfl
 refine seq_list fun K7 k7=>?_
 refine ls 1 H<|sr 1 rfl<|sE ?_;clear H a;intro a H
 refine aA H G G Tryz.func65 G G (wF _ _) ?_;clear H a
 rintro _ _ a ⟨rfl,rfl⟩ H
 refine ls 2 H<|sr 2 rfl<|sE ?_;clear H a;intro a H
 apply cI (i:=3) (g:=18) (t:=22) (b:=false) 4 H S G G (by kernel_rfl) (by kernel_rfl) G G
 case h1=>
  intro hg4
  have hq4:=hg4;try simp only [o1,o2,o3,o4,o5,o6,o7,o8,o9,oa] at hq4
  refine ls 2 H<|sy hg4<|sd ((aB eQ hX rfl S (i:=0) G G))<|sy hg4<|sr 1 rfl<|sE ?_;intro a H
  refine cY H G G (by assumption) ?_
  refine aA H G G Tryz.func66 G G (oH pl ps PA pc xs XA xc pe BA bc _ (hpe.now S) hpen) ?_
  rintro _ _ a ⟨rfl,S2⟩ H
  replace S:=S.call S2;clear S2
  refine ls 1 H<|sy hg4<|sr 1 rfl<|sE ?_;intro a H
  exact wpList_nil ⟨H.strip 4 G G,(S.sel [0] G G)⟩
 clear H a S;intro a _ H S
 refine ls 6 H<|so G G G<|sr 1 rfl<|sg 3 9 24 27 false G G (fun hg10=>by
     have hq10:=hg10;try simp only [o1,o2,o3,o4,o5,o6,o7,o8,o9,oa] at hq10
     exact sy hg10<|sr 1 rfl<|sy hg10<|sc rfl Tryz.func32 G G (bZ _ _ _ _)<|sy hg10<|sr 1 rfl<|sz 3 G G G)<|so G G G<|sE ?_;clear H a;intro a H
 refine k7 _ _ ?_;clear k7 K7
 refine cond_ H rfl (fun hc2=>?_) (fun hc2=>?_)
 ·skip
  try simp only [o1,o2,o3,o4,o5,o6,o7,o8,o9,oa] at hc2
  replace H:=H.keep [] rfl
  refine sS H fun K8 k8=>sr 1 rfl<|sE ?_;clear H a;intro a H
  refine k8 _ ?_;clear k8 K8
  refine wp_ret ?_
  refine ret1 (fn:=Tryz.f25) rfl H rfl ?_
  refine ⟨?_,(S.sel [] rfl rfl)⟩;unfold lJ;rw [if_neg (by omega),if_neg (by simp only [Bool.and_eq_true,decide_eq_true_eq];rcases hc2 with (h|h)|h <;> first|(intro h9;omega)|(rw [h];simp))]
 try simp only [o1,o2,o3,o4,o5,o6,o7,o8,o9,oa] at hc2
 refine wp_skip ?_
 refine k6 _ _ ?_
 refine sS H fun K9 k9=>sr 1 rfl<|sE ?_;clear H a;intro a H
 refine k9 _ ?_;clear k9 K9
 refine wp_ret ?_
 refine ret1 (fn:=Tryz.f25) rfl H rfl ?_
 refine ⟨?_,(S.sel [] G G)⟩;unfold lJ;rw [if_neg (by omega),if_pos (by simp only [Bool.and_eq_true,decide_eq_true_eq];exact ⟨⟨by omega,hc2.1.2⟩,by omega⟩)]
end
section
open Classical in
noncomputable def yrB (y:Yr):Bool:=if yrI y then true else false
theorem Km {y:Yr} (h:yrI y):yrB y=true:=by unfold yrB;rw [if_pos h]
theorem Kn {y:Yr} (h:¬ yrI y):yrB y=false:=by unfold yrB;rw [if_neg h]
theorem Oe {y:Yr}:yrB y=true↔yrI y:=⟨fun h=>Classical.byContradiction (fun h2=>by rw [Kn h2] at h;cases h),Km⟩
theorem Of {pl:Int} {ps:List Psg} {xs pe:List Int} {T:Int} (h:stE pl ps xs=0):lJ pl ps xs 0 pe T=0↔((pe.length:Int)=pl∧∀ k,k<pe.length→0≤pe.getD k 0∧pe.getD k 0≤1000)∧(0≤T∧T≤60):=by
  constructor
  · intro h1
    obtain ⟨_,_,h2,h3⟩:=Dy h1
    have h4:=Id h2
    exact ⟨⟨h4.2,h4.1⟩,h3⟩
  · rintro ⟨⟨h1,h2⟩,h3⟩
    unfold lJ
    rw [if_neg (by omega),if_pos]
    have h4:eO pl pe=true:=by unfold eO;rw [decide_eq_true h1,Bool.and_true,bI];exact fun k hk=>decide_eq_true (h2 k hk)
    rw [h4,decide_eq_true h3]
    rfl
theorem Ko {ps:List Psg} {us:List Unt} {n i:Nat} {m:Int}:freeN ps us n (i+1) m=(freeN ps us n i m&&!decide ((us.getD i Unt.zero).mach=m)):=by
  unfold freeN
  simp only [allN,Bool.and_assoc]
theorem Fw {p:Part} {l:List Use} (h:bX p l=0):wearE p l=0↔(refO p l).2.1=false:=by
  unfold refO
  rw [if_neg (by omega)]
  constructor
  · intro h1
    rw [if_neg (by rw [vX (kS h1).2];omega)]
  · intro h1
    split at h1
    · cases h1
    · exact nX h (Mq.2 (by have:=(vW p l).le;omega))
theorem Fx {l:List Use} {o:Int} (h0:0≤o) (h:¬ (0<l.length∧o<(l.getD ((l.length:Int)-1).toNat Use.zero).day)):prevD l l.length≤o:=by
  rcases Nat.eq_zero_or_pos l.length with e|e
  · rw [e];exact h0
  · have h1:=mZ (l:=l) (k:=((l.length:Int)-1).toNat) (by omega)
    omega
theorem Fy {l:List Use} {o:Int} (e:0<l.length) (h:o<(l.getD ((l.length:Int)-1).toNat Use.zero).day):o<prevD l l.length:=by
  have h1:=mZ (l:=l) (k:=((l.length:Int)-1).toNat) (by omega)
  omega
theorem cO (n lo hi:Int) (w:World) :
    Calls Tryz.prog 48 [.int .i64 n,.int .i64 lo,.int .i64 hi].toArray w (Ret (fun v w'=>v = .bool (decide (lo≤n)&&decide (n≤hi))∧w'=w)):=by
 refine enter Tryz.func48 rfl Tryz.ntmps48 rfl (fun a H=>?_)
 have S:=St.start w
 refine sS H fun K1 k1=>sr 1 rfl<|sE ?_;clear H a;intro a H
 refine k1 _ ?_;clear k1 K1
 replace H:=H.keep [0,1,2] rfl
 refine sS H fun K2 k2=>sr 4 rfl<|sg 3 3 10 13 true G G (fun hg4=>sy hg4<|sr 1 rfl<|sy hg4<|sr 1 rfl<|sy hg4<|sr 1 rfl<|sz 3 G G G)<|sa G G G<|sr 1 rfl<|sE ?_;clear H a;intro a H
 refine k2 _ ?_;clear k2 K2
 refine wp_ret ?_
 refine ret1 (fn:=Tryz.f48) rfl H rfl ?_
 exact ⟨rfl,rfl⟩
theorem Fz (a b:Tsk) (w:World) :
    Calls Tryz.prog 49 [.agg [.int .i64 a.day,.int .i64 a.unit,.int .i64 a.kind].toArray,.agg [.int .i64 b.day,.int .i64 b.unit,.int .i64 b.kind].toArray].toArray w (Ret (fun v w'=>v = .bool (befB a b)∧St w noF [] w')):=by
 refine enter Tryz.func49 rfl Tryz.ntmps49 rfl (fun a H=>?_)
 have S:=St.start w
 refine seq_list fun K1 k1=>?_
 refine aN H rfl S G G ?_;clear H a S;intro b2 _ a hb2 hbw2 S H
 refine aN H rfl S G G ?_;clear H a S;intro b3 _ a hb3 hbw3 S H
 refine ls 1 H<|sr 1 rfl<|sE ?_;clear H a;intro a H
 refine k1 _ _ ?_;clear k1 K1
 refine wp_seq_k fun K2 k2=>?_
 refine sS H fun K3 k3=>sf dD rfl<|sl S 1 aE G G G<|sf dD rfl<|sl S 0 aE G G G<|sr 1 rfl<|sE ?_;clear H a;intro a H
 refine k3 _ ?_;clear k3 K3
 refine condN H rfl (fun hc1=>?_) (fun hc1=>?_)
 ·skip
  replace H:=H.keep [2,3] rfl
  refine sS H fun K4 k4=>sf dD rfl<|sl S 1 aE G G G<|sf dD rfl<|sl S 0 aE G G G<|sr 2 rfl<|sE ?_;clear H a;intro a H
  refine k4 _ ?_;clear k4 K4
  refine wp_ret ?_
  refine ret1 (fn:=Tryz.f49) rfl H rfl ?_
  refine ⟨?_,(S.sel [] G G)⟩;unfold befB;rw [if_pos hc1]
 refine wp_skip ?_
 refine k2 _ _ ?_
 refine wp_seq_k fun K5 k5=>?_
 replace H:=H.keep [2,3] rfl
 refine sS H fun K6 k6=>sf dP rfl<|sl S 1 aE G G G<|sf dP rfl<|sl S 0 aE G G G<|sr 1 rfl<|sE ?_;clear H a;intro a H
 refine k6 _ ?_;clear k6 K6
 refine condN H rfl (fun hc2=>?_) (fun hc2=>?_)
 ·skip
  replace H:=H.keep [2,3] rfl
  refine sS H fun K7 k7=>sf dP rfl<|sl S 1 aE G G G<|sf dP rfl<|sl S 0 aE G G G<|sr 2 rfl<|sE ?_;clear H a;intro a H
  refine k7 _ ?_;clear k7 K7
  refine wp_ret ?_
  refine ret1 (fn:=Tryz.f49) rfl H rfl ?_
  refine ⟨?_,(S.sel [] G G)⟩;unfold befB;rw [if_neg (fun h=>h (by omega)),if_pos hc2]
 refine wp_skip ?_
 refine k5 _ _ ?_
 replace H:=H.keep [2,3] rfl
 refine sS H fun K8 k8=>sf gA rfl<|sl S 1 aE G G G<|sf gA rfl<|sl S 0 aE G G G<|sr 2 rfl<|sE ?_;clear H a;intro a H
 refine k8 _ ?_;clear k8 K8
 refine wp_ret ?_
 refine ret1 (fn:=Tryz.f49) rfl H rfl ?_
 refine ⟨?_,(S.sel [] G G)⟩;unfold befB;rw [if_neg (fun h=>h (by omega)),if_neg (fun h=>h (by omega))]
theorem Ga (y:Yr) (w:World) (hy:YIn w noF y) (hyb:YBd y) (hst:stE y.pl y.ps y.xs=0) :
    Calls Tryz.prog 86 [.agg [.int .i64 y.days,.int .i64 y.pl,.slice y.PA y.ps.length y.pc,.slice y.XA y.xs.length y.xc,.slice y.BA y.pe.length y.bc,.int .i64 y.limit,.bool y.help,.slice y.QA y.prs.length y.qc,.slice y.VA y.us.length y.vc,.int .i64 y.crew,.slice y.SA y.sps.length y.sc].toArray].toArray w (Ret (fun v w'=>v = .bool (yrB y)∧St w noF [] w')):=by
 have hlv:=Of (pe:=y.pe) (T:=y.limit) hst;have hn4:=hyb.spn
 refine enter Tryz.func86 rfl Tryz.ntmps86 rfl (fun a H=>?_)
 have S:=St.start w
 refine seq_list fun K1 k1=>?_
 refine aN H rfl S G G ?_;clear H a S;intro b1 _ a hb1 hbw1 S H
 refine ls 1 H<|sr 1 rfl<|sE ?_;clear H a;intro a H
 refine k1 _ _ ?_;clear k1 K1
 refine wp_seq_k fun K2 k2=>?_
 replace H:=H.keep [1] rfl
 refine seq_list fun K3 k3=>?_
 refine ls 2 H<|sf dK rfl<|sl S 0 aE G G G<|sE ?_;clear H a;intro a H
 refine aA H G G Tryz.func48 G G (cO _ _ _ _) ?_;clear H a
 rintro _ _ a ⟨rfl,rfl⟩ H
 refine ls 2 H<|sr 2 rfl<|sE ?_;clear H a;intro a H
 apply cI (i:=4) (g:=9) (t:=17) (b:=false) 8 H S G G (by kernel_rfl) (by kernel_rfl) G G
 case h1=>
  intro hg5
  refine ls 6 H<|sy hg5<|sf jI rfl<|sy hg5<|sd ((aB eQ hX rfl S (i:=0) G G))<|sy hg5<|sf vE rfl<|sy hg5<|sl S 0 bD G G G<|sy hg5<|sf Bm rfl<|sy hg5<|sl S 0 aE G G G<|sE ?_;intro a H
  refine cY H G G (by assumption) ?_
  refine aA H G G Tryz.func25 G G (sV y.pl y.ps y.PA y.pc y.xs y.XA y.xc 0 y.pe y.BA y.bc y.limit _ (hy.ps.now S) hyb.psn (hy.xs.now S) hyb.xsn (hy.pe.now S) hyb.pen) ?_
  rintro _ _ a ⟨rfl,S2⟩ H
  replace S:=S.call S2;clear S2
  refine ls 1 H<|sy hg5<|sr 1 rfl<|sE ?_;intro a H
  exact wpList_nil ⟨H.strip 8 G G,(S.sel [0] G G)⟩
 clear H a S;intro a _ H S
 refine ls 13 H<|so G G G<|sr 1 rfl<|sg 4 14 19 23 false G G (fun hg15=>sy hg15<|sf Bn rfl<|sy hg15<|sl S 0 aE G G G<|sy hg15<|sc rfl Tryz.func48 G G (cO _ _ _ _)<|sy hg15<|sr 1 rfl<|sz 4 G G G)<|so G G G<|sr 1 rfl<|sg 4 20 25 29 false G G (fun hg21=>sy hg21<|sf nL rfl<|sy hg21<|sl S 0 qX G G G<|sy hg21<|sL tQ rfl<|sy hg21<|sr 1 rfl<|sz 4 G G G)<|so G G G<|sE ?_;clear H a;intro a H
 refine k3 _ _ ?_;clear k3 K3
 refine cond_ H rfl (fun hc1=>?_) (fun hc1=>?_)
 ·skip
  try simp only [o1,o2,o3,o4,o5,o6,o7,o8,o9,oa] at hc1
  replace H:=H.keep [] rfl
  refine sS H fun K4 k4=>sr 1 rfl<|sE ?_;clear H a;intro a H
  refine k4 _ ?_;clear k4 K4
  refine wp_ret ?_
  refine ret1 (fn:=Tryz.f86) rfl H rfl ?_
  rw [Kn (fun h=>by unfold yrI at h;have h9:=hlv.2 ⟨h.2.1,h.2.2.1⟩;omega)];exact ⟨rfl,(S.sel [] G G)⟩
 try simp only [o1,o2,o3,o4,o5,o6,o7,o8,o9,oa] at hc1
 refine wp_skip ?_
 refine k2 _ _ ?_
 refine wp_seq_k fun K5 k5=>?_
 refine sS H fun K6 k6=>sr 1 rfl<|sE ?_;clear H a;intro a H
 refine k6 _ ?_;clear k6 K6
 refine wp_block ?_
 refine loop_st (X:=Nat) (R0:=_) [1] H rfl (fun k=>[(3,.int .i64 (k:Int))]) (fun k=>[]) (fun g k=>k≤y.sps.length∧g+k=y.sps.length∧∀ q,q<k→sprB y.days (y.sps.getD q Spr.zero)=true) (y.sps.length) 0 ?_ (S.sel [0] G G) (H.keep [3,1] rfl) ?_
 · exact ⟨by omega,by omega,fun q hq=>absurd hq (Nat.not_lt_zero q)⟩
 clear H S a
 intro g1 x1 a w1 hp S H K7 k7
 obtain ⟨k,rfl⟩:∃ y,y=x1:=⟨_,rfl⟩
 refine wp_seq_k fun K8 k8=>?_
 refine sS H fun K9 k9=>sr 1 rfl<|sf nL rfl<|sl S 0 qX G G G<|sL tQ rfl<|sr 1 rfl<|sE ?_;clear H a;intro a H
 refine k9 _ ?_;clear k9 K9
 refine condL H rfl (fun hc2=>?_) (fun hc2=>?_)
 ·skip
  refine wp_skip ?_
  refine k8 _ _ ?_
  refine wp_seq_k fun K10 k10=>?_
  refine wp_block ?_
  replace H:=H.keep [1,3] rfl
  refine seq_list fun K11 k11=>?_
  refine ls 5 H<|sf nL rfl<|sl S 0 qX G G G<|sr 1 rfl<|si tQ oS G G (hy.sps.adr (by omega)) (by omega)<|sd ((aV Bl oS rfl S hy.sps (by omega) (by omega)))<|sE ?_;clear H a;intro a H
  refine aI H rfl S Ht ?_;clear H a S;intro b4 _ a hb4 hbw4 S H
  refine aD H S (i:=0) G G G G oS G G ?_
  clear H a S;intro _ a S H
  refine k11 _ _ ?_;clear k11 K11
  replace H:=H.keep [1,3,4] rfl
  refine sS H fun K12 k12=>sf xO rfl<|sl S 0 aE G G G<|sf dK rfl<|sl S 1 aE G G G<|sd (aR G G (by unfold i64ok;omega))<|sc rfl Tryz.func48 G G (cO _ _ _ _)<|sr 2 rfl<|sg 4 7 50 54 false G G (fun hg8=>sy hg8<|sf xP rfl<|sy hg8<|sl S 0 aE G G G<|sy hg8<|sc rfl Tryz.func48 G G (cO _ _ _ _)<|sy hg8<|sr 1 rfl<|sz 4 G G G)<|so G G G<|sr 1 rfl<|sg 4 13 56 60 false G G (fun hg14=>sy hg14<|sf xQ rfl<|sy hg14<|sl S 0 aE G G G<|sy hg14<|sc rfl Tryz.func48 G G (cO _ _ _ _)<|sy hg14<|sr 1 rfl<|sz 4 G G G)<|so G G G<|sE ?_;clear H a;intro a H
  refine k12 _ ?_;clear k12 K12
  refine cond_ H rfl (fun hc3=>?_) (fun hc3=>?_)
  ·skip
   try simp only [o1,o2,o3,o4,o5,o6,o7,o8,o9,oa] at hc3
   replace H:=H.keep [] rfl
   refine sS H fun K13 k13=>sr 1 rfl<|sE ?_;clear H a;intro a H
   refine k13 _ ?_;clear k13 K13
   refine wp_ret ?_
   refine ret1 (fn:=Tryz.f86) rfl H rfl ?_
   rw [Kn (fun h=>by have h9:=oE.1 (h.2.2.2.2.2 k (by omega));omega)];exact ⟨rfl,(S.sel [] G G)⟩
  try simp only [o1,o2,o3,o4,o5,o6,o7,o8,o9,oa] at hc3
  refine wp_skip ?_
  refine k10 _ _ ?_
  refine sO H<|sr 1 rfl<|sd (aK G G (by unfold i64ok;omega))<|sr 1 rfl<|sE ?_;clear H a;intro a H
  exact k7 (g1-1) (k+1) a _ (by omega) (⟨by omega,by omega,eK (f:=fun q=>sprB y.days (y.sps.getD q Spr.zero)) hp.2.2 (oE.2 (by omega))⟩) (S.sel [1] G G) (H.keep [3,1] rfl)
 refine wp_exit ?_
 refine k5 _ _ ?_
 refine sS H fun K15 k15=>sr 1 rfl<|sE ?_;clear H a;intro a H
 refine k15 _ ?_;clear k15 K15
 refine wp_ret ?_
 refine ret1 (fn:=Tryz.f86) rfl H rfl ?_
 have h9:=hlv.1 (by omega)
 have h8:=hp.2.2
 rw [Km (by unfold yrI;exact ⟨by omega,h9.1,h9.2,by omega,by omega,fun q hq=>h8 q (by omega)⟩)];exact ⟨rfl,(S.sel [] G G)⟩
theorem Gb (y:Yr) (i:Nat) (w:World) (hy:YIn w noF y) (hyb:YBd y) (hi:i<y.us.length) :
    Calls Tryz.prog 87 [.agg [.int .i64 y.days,.int .i64 y.pl,.slice y.PA y.ps.length y.pc,.slice y.XA y.xs.length y.xc,.slice y.BA y.pe.length y.bc,.int .i64 y.limit,.bool y.help,.slice y.QA y.prs.length y.qc,.slice y.VA y.us.length y.vc,.int .i64 y.crew,.slice y.SA y.sps.length y.sc].toArray,.int .i64 (i:Int)].toArray w (Ret (fun v w'=>v = .bool (untB y.ps y.us i)∧St w noF [] w')):=by
 have hn1:=hyb.psn;have hn3:=hyb.usn;have hn5:(y.us.getD i Unt.zero).uses.length≤9223372036854775807:=hyb.uln hi;have hn6:(y.us.getD i Unt.zero).rates.length≤9223372036854775807:=hyb.rtn hi
 refine enter Tryz.func87 rfl Tryz.ntmps87 rfl (fun a H=>?_)
 have S:=St.start w
 refine seq_list fun K1 k1=>?_
 refine aN H rfl S G G ?_;clear H a S;intro b2 _ a hb2 hbw2 S H
 refine ls 1 H<|sr 1 rfl<|sE ?_;clear H a;intro a H
 refine k1 _ _ ?_;clear k1 K1
 refine seq_list fun K2 k2=>?_
 refine ls 5 H<|sf cM rfl<|sl S 0 dL G G G<|sr 1 rfl<|si eI hY G G (hy.us.adr (by omega)) (by omega)<|sd ((aV oP hY rfl S hy.us (by omega) (by omega)))<|sE ?_;clear H a;intro a H
 refine aI H rfl S tR ?_;clear H a S;intro b5 _ a hb5 hbw5 S H
 refine aD H S (i:=0) G G G G hY G G ?_
 clear H a S;intro _ a S H
 refine k2 _ _ ?_;clear k2 K2
 replace H:=H.keep [1,2,5] rfl
 refine sS H fun K3 k3=>sr 1 rfl<|sE ?_;clear H a;intro a H
 refine k3 _ ?_;clear k3 K3
 refine wp_seq_k fun K4 k4=>?_
 refine sS H fun K5 k5=>sr 1 rfl<|sE ?_;clear H a;intro a H
 refine k5 _ ?_;clear k5 K5
 refine wp_block ?_
 refine loop_st (X:=Nat) (R0:=_) [1,2,5] H rfl (fun k=>[(6,.bool (freeN y.ps y.us k 0 (y.us.getD i Unt.zero).mach)),(7,.int .i64 (k:Int))]) (fun k=>[]) (fun g k=>k≤y.ps.length∧g+k=y.ps.length) (y.ps.length) 0 ?_ (S.sel [0,1] G G) (H.keep [6,7,1,2,5] rfl) ?_
 · exact ⟨by omega,by omega⟩
 clear H S a
 intro g1 x1 a w1 hp S H K6 k6
 obtain ⟨k,rfl⟩:∃ y,y=x1:=⟨_,rfl⟩
 refine wp_seq_k fun K7 k7=>?_
 refine sS H fun K8 k8=>sr 1 rfl<|sf jI rfl<|sf iJ rfl<|sl S 1 kI G G G<|sL kW rfl<|sr 1 rfl<|sE ?_;clear H a;intro a H
 refine k8 _ ?_;clear k8 K8
 refine condL H rfl (fun hc1=>?_) (fun hc1=>?_)
 ·skip
  refine wp_skip ?_
  refine k7 _ _ ?_
  refine wp_seq_k fun K9 k9=>?_
  refine wp_block ?_
  replace H:=H.keep [1,2,5,6,7] rfl
  refine seq_list fun K10 k10=>?_
  refine ls 6 H<|sf jI rfl<|sf iJ rfl<|sl S 1 kI G G G<|sr 1 rfl<|si kW eR G G (hy.ps.adr (by omega)) (by omega)<|sd ((aV kJ eR rfl S hy.ps (by omega) (by omega)))<|sE ?_;clear H a;intro a H
  refine aI H rfl S rH ?_;clear H a S;intro b8 _ a hb8 hbw8 S H
  refine aD H S (i:=0) G G G G eR G G ?_
  clear H a S;intro _ a S H
  refine k10 _ _ ?_;clear k10 K10
  replace H:=H.keep [1,2,5,6,7,8] rfl
  refine sO H<|sr 2 rfl<|sg 10 1 33 43 false G G (fun hg2=>by
      have hq2:=hg2;try simp only [o1,o2,o3,o4,o5,o6,o7,o8,o9,oa] at hq2
      exact sy hg2<|sf dH rfl<|sy hg2<|sl S 0 aE G G G<|sy hg2<|sr 1 rfl<|sy hg2<|sr 1 rfl<|sg 5 5 37 42 true G G (fun hg6=>by
           have hq6:=hg6;try simp only [o1,o2,o3,o4,o5,o6,o7,o8,o9,oa] at hq6
           exact sy hg6<|sf dH rfl<|sy hg6<|sl S 0 aE G G G<|sy hg6<|sf kO rfl<|sy hg6<|sl S 1 aE G G G<|sy hg6<|sr 1 rfl<|sz 5 G G G)<|sy hg2<|sa G G G<|sz 6 G G G)<|so G G G<|sr 1 rfl<|sE ?_;clear H a;intro a H
  refine k9 _ _ ?_
  replace H:=H.keep [1,2,5,6,7] rfl
  refine sO H<|sr 1 rfl<|sd (aK G G (by unfold i64ok;omega))<|sr 1 rfl<|sE ?_;clear H a;intro a H
  rw [←yI (ps:=y.ps) (us:=y.us)] at H
  exact k6 (g1-1) (k+1) a _ (by omega) (⟨by omega,by omega⟩) (S.sel [1,2] G G) (H.keep [6,7,1,2,5] rfl)
 refine wp_exit ?_
 refine k4 _ _ ?_
 refine wp_seq_k fun K13 k13=>?_
 refine sS H fun K14 k14=>sr 1 rfl<|sE ?_;clear H a;intro a H
 refine k14 _ ?_;clear k14 K14
 refine wp_block ?_
 obtain rfl:k=y.ps.length:=by omega
 refine loop_st (X:=Nat) (R0:=_) [1,2,5] H rfl (fun k=>[(6,.bool (freeN y.ps y.us y.ps.length k (y.us.getD i Unt.zero).mach)),(9,.int .i64 (k:Int))]) (fun k=>[]) (fun g k=>k≤i∧g+k=i) (i) 0 ?_ (S.sel [0,1] G G) (H.keep [6,9,1,2,5] rfl) ?_
 · exact ⟨by omega,by omega⟩
 clear H S a
 intro g2 x2 a w2 hp S H K15 k15
 obtain ⟨k,rfl⟩:∃ y,y=x2:=⟨_,rfl⟩
 refine wp_seq_k fun K16 k16=>?_
 refine sS H fun K17 k17=>sr 3 rfl<|sE ?_;clear H a;intro a H
 refine k17 _ ?_;clear k17 K17
 refine condL H rfl (fun hc2=>?_) (fun hc2=>?_)
 ·skip
  refine wp_skip ?_
  refine k16 _ _ ?_
  refine wp_seq_k fun K18 k18=>?_
  refine wp_block ?_
  replace H:=H.keep [1,2,5,6,9] rfl
  replace S:=S.drew
  refine sP H<|sr 2 rfl<|sg 9 1 51 60 true G G (fun hg2=>by
      have hq2:=hg2;try simp only [o1,o2,o3,o4,o5,o6,o7,o8,o9,oa] at hq2
      exact sy hg2<|sf cM rfl<|sy hg2<|sl S 1 dL G G G<|sy hg2<|sr 1 rfl<|sy hg2<|si eI hY G G (hy.us.adr (by omega)) (by omega)<|sy hg2<|sp kO rfl<|sy hg2<|slm aE rfl (hy.us.rd S (by omega) (by omega))<|sy hg2<|sf kO rfl<|sy hg2<|sl S 0 aE G G G<|sy hg2<|sr 1 rfl<|sz 9 G G G)<|sa G G G<|sr 1 rfl<|sE ?_;clear H a;intro a H
  refine k18 _ _ ?_
  replace H:=H.keep [1,2,5,6,9] rfl
  refine sO H<|sr 1 rfl<|sd (aK G G (by unfold i64ok;omega))<|sr 1 rfl<|sE ?_;clear H a;intro a H
  rw [←Ko (ps:=y.ps) (us:=y.us)] at H
  exact k15 (g2-1) (k+1) a _ (by omega) (⟨by omega,by omega⟩) (S.sel [0,1] G G) (H.keep [6,9,1,2,5] rfl)
 refine wp_exit ?_
 refine k13 _ _ ?_
 refine wp_seq_k fun K21 k21=>?_
 obtain rfl:i=k:=by omega
 replace H:=H.keep [5,6] rfl
 refine seq_list fun K22 k22=>?_
 refine ls 21 H<|sr 3 rfl<|sg 4 2 64 68 false G G (fun hg3=>by
     have hq3:=hg3;try simp only [o1,o2,o3,o4,o5,o6,o7,o8,o9,oa] at hq3
     exact sy hg3<|sf pV rfl<|sy hg3<|sl S 0 aE G G G<|sy hg3<|sc rfl Tryz.func48 G G (cO _ _ _ _)<|sy hg3<|sr 1 rfl<|sz 4 G G G)<|so G G G<|sr 1 rfl<|sg 4 8 70 74 false G G (fun hg9=>by
     have hq9:=hg9;try simp only [o1,o2,o3,o4,o5,o6,o7,o8,o9,oa] at hq9
     exact sy hg9<|sf vG rfl<|sy hg9<|sl S 0 aE G G G<|sy hg9<|sc rfl Tryz.func48 G G (cO _ _ _ _)<|sy hg9<|sr 1 rfl<|sz 4 G G G)<|so G G G<|sr 1 rfl<|sg 4 14 76 80 false G G (fun hg15=>by
     have hq15:=hg15;try simp only [o1,o2,o3,o4,o5,o6,o7,o8,o9,oa] at hq15
     exact sy hg15<|sf Bo rfl<|sy hg15<|sl S 0 aE G G G<|sy hg15<|sc rfl Tryz.func48 G G (cO _ _ _ _)<|sy hg15<|sr 1 rfl<|sz 4 G G G)<|so G G G<|sr 1 rfl<|sE ?_;clear H a;intro a H
 apply cI (i:=20) (g:=82) (t:=88) (b:=false) 6 H S G G (by kernel_rfl) (by kernel_rfl) G G
 case h1=>
  intro hg21
  have hq21:=hg21;try simp only [o1,o2,o3,o4,o5,o6,o7,o8,o9,oa] at hq21
  refine ls 4 H<|sy hg21<|sf lX rfl<|sy hg21<|sd ((aB eM gR rfl S (i:=0) G G))<|sy hg21<|sf fZ rfl<|sy hg21<|sl S 0 iT G G G<|sE ?_;intro a H
  refine cY H G G (by assumption) ?_
  refine aA H G G Tryz.func126 G G (mM (y.us.getD i Unt.zero).rates (y.us.getD i Unt.zero).worn (y.us.getD i Unt.zero).turns (y.us.getD i Unt.zero).age (y.us.getD i Unt.zero).RA (y.us.getD i Unt.zero).rc (y.us.getD i Unt.zero).uses (y.us.getD i Unt.zero).UA (y.us.getD i Unt.zero).uc _ ((hy.rt i hi).now S) (hyb.rtn hi) ((hy.ul i hi).now S) (hyb.uln hi)) ?_
  rintro _ _ a ⟨rfl,S2⟩ H
  replace S:=S.call S2;clear S2
  refine ls 1 H<|sy hg21<|sr 1 rfl<|sE ?_;intro a H
  exact wpList_nil ⟨H.strip 6 G G,(S.sel [0,1] G G)⟩
 clear H a S;intro a _ H S
 refine ls 7 H<|so G G G<|sr 1 rfl<|sg 4 28 90 94 false G G (fun hg29=>by
     have hq29:=hg29;try simp only [o1,o2,o3,o4,o5,o6,o7,o8,o9,oa] at hq29
     exact sy hg29<|sf fZ rfl<|sy hg29<|sl S 0 iT G G G<|sy hg29<|sL cX rfl<|sy hg29<|sr 1 rfl<|sz 4 G G G)<|so G G G<|sE ?_;clear H a;intro a H
 refine k22 _ _ ?_;clear k22 K22
 refine cond_ H rfl (fun hc3=>?_) (fun hc3=>?_)
 ·skip
  try simp only [o1,o2,o3,o4,o5,o6,o7,o8,o9,oa] at hc3
  replace H:=H.keep [] rfl
  refine sS H fun K23 k23=>sr 1 rfl<|sE ?_;clear H a;intro a H
  refine k23 _ ?_;clear k23 K23
  refine wp_ret ?_
  refine ret1 (fn:=Tryz.f87) rfl H rfl ?_
  rw [yJ (fun h=>by have h1:freeN y.ps y.us y.ps.length i (y.us.getD i Unt.zero).mach=true:=h.free;have h2:=h.i;have h3:bX ⟨(y.us.getD i Unt.zero).rates,(y.us.getD i Unt.zero).worn,(y.us.getD i Unt.zero).turns,(y.us.getD i Unt.zero).age⟩ (y.us.getD i Unt.zero).uses=0:=(kS h.wear).1;unfold untI at h2;rw [h1] at hc3;simp only [Bool.true_eq_false,Bool.not_true,Bool.false_eq_true,not_true_eq_false,false_or] at hc3;omega)];exact ⟨rfl,(S.sel [] G G)⟩
 try simp only [o1,o2,o3,o4,o5,o6,o7,o8,o9,oa] at hc3
 have hcp:bX (y.us.getD i Unt.zero).part (y.us.getD i Unt.zero).uses=0:=by show bX ⟨_,_,_,_⟩ _=0;omega
 have hrw:=Fw hcp
 refine wp_skip ?_
 refine k21 _ _ ?_
 replace H:=H.keep [5] rfl
 refine seq_list fun K24 k24=>?_
 refine ls 4 H<|sf lX rfl<|sd ((aB eM gR rfl S (i:=0) G G))<|sf fZ rfl<|sl S 0 iT G G G<|sE ?_;clear H a;intro a H
 refine aA H G G Tryz.func127 G G (yZ (y.us.getD i Unt.zero).rates (y.us.getD i Unt.zero).worn (y.us.getD i Unt.zero).turns (y.us.getD i Unt.zero).age (y.us.getD i Unt.zero).RA (y.us.getD i Unt.zero).rc (y.us.getD i Unt.zero).uses (y.us.getD i Unt.zero).UA (y.us.getD i Unt.zero).uc _ ((hy.rt i hi).now S) (hyb.rtn hi) ((hy.ul i hi).now S) (hyb.uln hi)) ?_;clear H a
 rintro _ _ a ⟨rfl,S2⟩ H
 replace S:=S.call S2;clear S2
 refine ls 7 H<|sr 7 rfl<|sE ?_;clear H a;intro a H
 refine k24 _ _ ?_;clear k24 K24
 refine wp_seq_k fun K25 k25=>?_
 replace H:=H.keep [5,11] rfl
 replace S:=S.drew
 refine sD H fun K26 k26=>sr 2 rfl<|sg 4 1 106 110 false G G (fun hg2=>by
     have hq2:=hg2;try simp only [o1,o2,o3,o4,o5,o6,o7,o8,o9,oa] at hq2
     exact sy hg2<|sf pW rfl<|sy hg2<|sl S 0 aE G G G<|sy hg2<|sc rfl Tryz.func48 G G (cO _ _ _ _)<|sy hg2<|sr 1 rfl<|sz 4 G G G)<|so G G G<|sr 1 rfl<|sg 18 7 112 130 false G G (fun hg8=>by
     have hq8:=hg8;try simp only [o1,o2,o3,o4,o5,o6,o7,o8,o9,oa] at hq8
     exact sy hg8<|sf fZ rfl<|sy hg8<|sl S 0 iT G G G<|sy hg8<|sL cX rfl<|sy hg8<|sr 1 rfl<|sy hg8<|sr 1 rfl<|sg 12 12 117 129 true G G (fun hg13=>by
          have hq13:=hg13;try simp only [o1,o2,o3,o4,o5,o6,o7,o8,o9,oa] at hq13
          exact sy hg13<|sf pW rfl<|sy hg13<|sl S 0 aE G G G<|sy hg13<|sf fZ rfl<|sy hg13<|sl S 0 iT G G G<|sy hg13<|sf fZ rfl<|sy hg13<|sl S 0 iT G G G<|sy hg13<|sL cX rfl<|sy hg13<|sd (aR G G (by unfold i64ok;omega))<|sy hg13<|sI cX cS G G ((hy.ul i hi).adr (by omega)) (by omega) (by omega)<|sy hg13<|sp gE rfl<|sy hg13<|slm aE rfl ((hy.ul i hi).rd S (by omega) (by omega))<|sy hg13<|sr 1 rfl<|sz 12 G G G)<|sy hg8<|sa G G G<|sz 7 G G G)<|so G G G<|sE ?_;clear H a;intro a H
 refine k26 _ ?_;clear k26 K26
 refine cond_ H rfl (fun hc4=>?_) (fun hc4=>?_)
 ·skip
  try simp only [o1,o2,o3,o4,o5,o6,o7,o8,o9,oa] at hc4
  replace H:=H.keep [] rfl
  refine sS H fun K27 k27=>sr 1 rfl<|sE ?_;clear H a;intro a H
  refine k27 _ ?_;clear k27 K27
  refine wp_ret ?_
  refine ret1 (fn:=Tryz.f87) rfl H rfl ?_
  rw [yJ (fun h=>by
    have h2:=h.i;have h3:=sU h.wear;unfold untI at h2
    have h5:=hrw.1 h.wear
    rcases hc4 with (h9|h9)|h9
    · have h6:(refO (y.us.getD i Unt.zero).part (y.us.getD i Unt.zero).uses).2.1=true:=h9
      rw [h5] at h6;cases h6
    · omega
    · have h7:=Fy (l:=(y.us.getD i Unt.zero).uses) (by omega) h9.2;omega)];exact ⟨rfl,(S.sel [] G G)⟩
 try simp only [o1,o2,o3,o4,o5,o6,o7,o8,o9,oa] at hc4
 refine wp_skip ?_
 refine k25 _ _ ?_
 replace H:=H.keep [5] rfl
 refine sS H fun K28 k28=>sf pX rfl<|sl S 0 aE G G G<|sc rfl Tryz.func48 G G (cO _ _ _ _)<|sr 1 rfl<|sg 8 3 135 143 true G G (fun hg4=>by
     have hq4:=hg4;try simp only [o1,o2,o3,o4,o5,o6,o7,o8,o9,oa] at hq4
     exact sy hg4<|sf pY rfl<|sy hg4<|sl S 0 aE G G G<|sy hg4<|sf lX rfl<|sy hg4<|sf eX rfl<|sy hg4<|sl S 0 gU G G G<|sy hg4<|sL cW rfl<|sy hg4<|sd (aR G G (by unfold i64ok;omega))<|sy hg4<|sc rfl Tryz.func48 G G (cO _ _ _ _)<|sz 8 G G G)<|sa G G G<|sr 1 rfl<|sE ?_;clear H a;intro a H
 refine k28 _ ?_;clear k28 K28
 refine wp_ret ?_
 refine ret1 (fn:=Tryz.f87) rfl H rfl ?_
 refine ⟨congrArg Value.bool ?_,(S.sel [] G G)⟩
 rw [Bool.eq_iff_iff,gI]
 simp only [Bool.and_eq_true,decide_eq_true_eq]
 constructor
 · intro h9
   refine ⟨?_,?_,hrw.2 ?_⟩
   · show freeN _ _ _ _ _=true;rcases hc3 with ⟨⟨⟨⟨⟨h1,_⟩,_⟩,_⟩,_⟩,_⟩;exact h1
   · have h8:=Fx (l:=(y.us.getD i Unt.zero).uses) (o:=(y.us.getD i Unt.zero).old) (by omega) (by omega)
     unfold untI;omega
   · rcases hc4 with ⟨⟨h1,_⟩,_⟩;exact h1
 · intro h9
   have h2:=h9.i
   unfold untI at h2
   omega
theorem wH (y:Yr) (w:World) (hy:YIn w noF y) (hyb:YBd y) :
    Calls Tryz.prog 47 [.agg [.int .i64 y.days,.int .i64 y.pl,.slice y.PA y.ps.length y.pc,.slice y.XA y.xs.length y.xc,.slice y.BA y.pe.length y.bc,.int .i64 y.limit,.bool y.help,.slice y.QA y.prs.length y.qc,.slice y.VA y.us.length y.vc,.int .i64 y.crew,.slice y.SA y.sps.length y.sc].toArray].toArray w (Ret (fun v w'=>v = .int .i64 (yearE y)∧St w noF [] w')):=by
 have hn3:=hyb.usn
 refine enter Tryz.func47 rfl Tryz.ntmps47 rfl (fun a H=>?_)
 have S:=St.start w
 refine seq_list fun K1 k1=>?_
 refine aN H rfl S G G ?_;clear H a S;intro b1 _ a hb1 hbw1 S H
 refine ls 1 H<|sr 1 rfl<|sE ?_;clear H a;intro a H
 refine k1 _ _ ?_;clear k1 K1
 refine seq_list fun K2 k2=>?_
 refine ls 2 H<|sf jI rfl<|sd ((aB eQ hX rfl S (i:=0) G G))<|sE ?_;clear H a;intro a H
 refine aA H G G Tryz.func8 G G (jJ y.pl y.ps y.PA y.pc y.xs y.XA y.xc _ (hy.ps.now S) hyb.psn (hy.xs.now S) hyb.xsn) ?_;clear H a
 rintro _ _ a ⟨rfl,S2⟩ H
 replace S:=S.call S2;clear S2
 refine ls 1 H<|sr 1 rfl<|sE ?_;clear H a;intro a H
 refine k2 _ _ ?_;clear k2 K2
 refine wp_seq_k fun K3 k3=>?_
 refine sS H fun K4 k4=>sr 2 rfl<|sE ?_;clear H a;intro a H
 refine k4 _ ?_;clear k4 K4
 refine condN H rfl (fun hc1=>?_) (fun hc1=>?_)
 ·skip
  replace H:=H.keep [3] rfl
  refine sS H fun K5 k5=>sr 2 rfl<|sE ?_;clear H a;intro a H
  refine k5 _ ?_;clear k5 K5
  refine wp_ret ?_
  refine ret1 (fn:=Tryz.f47) rfl H rfl ?_
  have e9:=sK (day:=[]) (l:=y.prs) hc1
  rw [mU (by rw [e9];exact hc1),e9];exact ⟨rfl,(S.sel [] G G)⟩
 refine wp_skip ?_
 refine k3 _ _ ?_
 refine seq_list fun K6 k6=>?_
 refine ls 4 H<|sf jI rfl<|sd ((aB eQ hX rfl S (i:=0) G G))<|sf pT rfl<|sl S 0 oO G G G<|sE ?_;clear H a;intro a H
 refine aA H G G Tryz.func27 G G (oI y.pl y.ps y.PA y.pc y.xs y.XA y.xc ([]:List Hq) none 0 (fun _=>none) (fun _=>0) y.prs y.QA y.qc _ (hy.ps.now S) hyb.psn (hy.xs.now S) hyb.xsn InS.nil (by decide) (fun k hk=>absurd hk (Nat.not_lt_zero k)) (fun k hk=>absurd hk (Nat.not_lt_zero k)) (hy.prs.now S) hyb.prn) ?_;clear H a
 rintro _ _ a ⟨rfl,S2⟩ H
 replace S:=S.call S2;clear S2
 refine ls 1 H<|sr 1 rfl<|sE ?_;clear H a;intro a H
 refine k6 _ _ ?_;clear k6 K6
 refine wp_seq_k fun K7 k7=>?_
 replace H:=H.keep [1,3] rfl
 refine sS H fun K8 k8=>sr 2 rfl<|sE ?_;clear H a;intro a H
 refine k8 _ ?_;clear k8 K8
 refine condN H rfl (fun hc2=>?_) (fun hc2=>?_)
 ·skip
  refine sS H fun K9 k9=>sr 2 rfl<|sE ?_;clear H a;intro a H
  refine k9 _ ?_;clear k9 K9
  refine wp_ret ?_
  refine ret1 (fn:=Tryz.f47) rfl H rfl ?_
  exact ⟨congrArg _ (mU hc2).symm,(S.sel [] G G)⟩
 refine wp_skip ?_
 refine k7 _ _ ?_
 refine wp_seq_k fun K10 k10=>?_
 refine seq_list fun K11 k11=>?_
 refine ls 1 H<|sd ((aB fL gQ rfl S (i:=0) G G))<|sE ?_;clear H a;intro a H
 refine aA H G G Tryz.func86 G G (Ga y _ (hy.now S) hyb (by omega)) ?_;clear H a
 rintro _ _ a ⟨rfl,S2⟩ H
 replace S:=S.call S2;clear S2
 refine ls 1 H<|sr 1 rfl<|sE ?_;clear H a;intro a H
 refine k11 _ _ ?_;clear k11 K11
 refine cond_ H rfl (fun hc3=>?_) (fun hc3=>?_)
 ·skip
  try simp only [o1,o2,o3,o4,o5,o6,o7,o8,o9,oa] at hc3
  refine sS H fun K12 k12=>sr 1 rfl<|sE ?_;clear H a;intro a H
  refine k12 _ ?_;clear k12 K12
  refine wp_ret ?_
  refine ret1 (fn:=Tryz.f47) rfl H rfl ?_
  rw [nZ (by omega) (fun h=>by rw [Km h] at hc3;simp at hc3)];exact ⟨rfl,(S.sel [] G G)⟩
 try simp only [o1,o2,o3,o4,o5,o6,o7,o8,o9,oa] at hc3
 have hyi:=Oe.1 (by simpa using hc3)
 refine wp_skip ?_
 refine k10 _ _ ?_
 refine wp_seq_k fun K13 k13=>?_
 replace H:=H.keep [1] rfl
 refine sS H fun K14 k14=>sf cM rfl<|sl S 0 dL G G G<|sL eI rfl<|sr 1 rfl<|sE ?_;clear H a;intro a H
 refine k14 _ ?_;clear k14 K14
 refine condL H rfl (fun hc4=>?_) (fun hc4=>?_)
 ·skip
  refine sS H fun K15 k15=>sr 1 rfl<|sE ?_;clear H a;intro a H
  refine k15 _ ?_;clear k15 K15
  refine wp_ret ?_
  refine ret1 (fn:=Tryz.f47) rfl H rfl ?_
  rw [rS (by omega) hyi (by omega)];exact ⟨rfl,(S.sel [] G G)⟩
 refine wp_skip ?_
 refine k13 _ _ ?_
 refine wp_seq_k fun K16 k16=>?_
 refine sS H fun K17 k17=>sr 1 rfl<|sE ?_;clear H a;intro a H
 refine k17 _ ?_;clear k17 K17
 refine wp_block ?_
 refine loop_st (X:=Nat) (R0:=_) [1] H rfl (fun k=>[(4,.int .i64 (k:Int))]) (fun k=>[]) (fun g k=>k≤y.us.length∧g+k=y.us.length∧∀ q,q<k→untB y.ps y.us q=true) (y.us.length) 0 ?_ (S.sel [0] G G) (H.keep [4,1] rfl) ?_
 · exact ⟨by omega,by omega,fun q hq=>absurd hq (Nat.not_lt_zero q)⟩
 clear H S a
 intro g1 x1 a w1 hp S H K18 k18
 obtain ⟨k,rfl⟩:∃ y,y=x1:=⟨_,rfl⟩
 refine wp_seq_k fun K19 k19=>?_
 refine sS H fun K20 k20=>sr 1 rfl<|sf cM rfl<|sl S 0 dL G G G<|sL eI rfl<|sr 1 rfl<|sE ?_;clear H a;intro a H
 refine k20 _ ?_;clear k20 K20
 refine condL H rfl (fun hc5=>?_) (fun hc5=>?_)
 ·skip
  refine wp_skip ?_
  refine k19 _ _ ?_
  refine wp_seq_k fun K21 k21=>?_
  refine wp_block ?_
  refine seq_list fun K22 k22=>?_
  refine ls 2 H<|sd ((aB fL gQ rfl S (i:=0) G G))<|sr 1 rfl<|sE ?_;clear H a;intro a H
  refine aA H G G Tryz.func87 G G (Gb y k _ (hy.now S) hyb (by omega)) ?_;clear H a
  rintro _ _ a ⟨rfl,S2⟩ H
  replace S:=S.call S2;clear S2
  refine ls 1 H<|sr 1 rfl<|sE ?_;clear H a;intro a H
  refine k22 _ _ ?_;clear k22 K22
  refine cond_ H rfl (fun hc6=>?_) (fun hc6=>?_)
  ·skip
   try simp only [o1,o2,o3,o4,o5,o6,o7,o8,o9,oa] at hc6
   replace H:=H.keep [] rfl
   refine sS H fun K23 k23=>sr 1 rfl<|sE ?_;clear H a;intro a H
   refine k23 _ ?_;clear k23 K23
   refine wp_ret ?_
   refine ret1 (fn:=Tryz.f47) rfl H rfl ?_
   rw [rT (by omega) hyi (by omega) (show k<y.us.length by omega) (by simpa using hc6)];exact ⟨rfl,(S.sel [] G G)⟩
  try simp only [o1,o2,o3,o4,o5,o6,o7,o8,o9,oa] at hc6
  refine wp_skip ?_
  refine k21 _ _ ?_
  refine sO H<|sr 1 rfl<|sd (aK G G (by unfold i64ok;omega))<|sr 1 rfl<|sE ?_;clear H a;intro a H
  exact k18 (g1-1) (k+1) a _ (by omega) (⟨by omega,by omega,eK (f:=untB y.ps y.us) hp.2.2 (by simpa using hc6)⟩) (S.sel [0] G G) (H.keep [4,1] rfl)
 refine wp_exit ?_
 refine k16 _ _ ?_
 refine sS H fun K25 k25=>sr 1 rfl<|sE ?_;clear H a;intro a H
 refine k25 _ ?_;clear k25 K25
 refine wp_ret ?_
 refine ret1 (fn:=Tryz.f47) rfl H rfl ?_
 rw [yF (by omega) hyi (by omega) (bI.2 fun q hq=>hp.2.2 q (by omega))];exact ⟨rfl,(S.sel [] G G)⟩
theorem Kp (y:Yr) (l:List Tsk) (LA:Option Addr) (lc:Nat) (w:World) (hy:YIn w noF y) (hyb:YBd y) (hl:InS w noF 3 LA l.length (dX l)) (hln:l.length≤9223372036854775807) :
    Calls Tryz.prog 16 [.agg [.int .i64 y.days,.int .i64 y.pl,.slice y.PA y.ps.length y.pc,.slice y.XA y.xs.length y.xc,.slice y.BA y.pe.length y.bc,.int .i64 y.limit,.bool y.help,.slice y.QA y.prs.length y.qc,.slice y.VA y.us.length y.vc,.int .i64 y.crew,.slice y.SA y.sps.length y.sc].toArray,.slice LA l.length lc].toArray w (Ret (fun v w'=>v = .int .i64 (taskE y l)∧St w noF [] w')):=by
 have hn3:=hyb.usn
 refine enter Tryz.func16 rfl Tryz.ntmps16 rfl (fun a H=>?_)
 have S:=St.start w
 refine seq_list fun K1 k1=>?_
 refine aN H rfl S G G ?_;clear H a S;intro b2 _ a hb2 hbw2 S H
 refine ls 1 H<|sr 1 rfl<|sE ?_;clear H a;intro a H
 refine k1 _ _ ?_;clear k1 K1
 refine seq_list fun K2 k2=>?_
 refine ls 1 H<|sd ((aB fL gQ rfl S (i:=0) G G))<|sE ?_;clear H a;intro a H
 refine aA H G G Tryz.func47 G G (wH y _ (hy.now S) hyb) ?_;clear H a
 rintro _ _ a ⟨rfl,S2⟩ H
 replace S:=S.call S2;clear S2
 refine ls 1 H<|sr 1 rfl<|sE ?_;clear H a;intro a H
 refine k2 _ _ ?_;clear k2 K2
 refine wp_seq_k fun K3 k3=>?_
 refine sS H fun K4 k4=>sr 2 rfl<|sE ?_;clear H a;intro a H
 refine k4 _ ?_;clear k4 K4
 refine condN H rfl (fun hc1=>?_) (fun hc1=>?_)
 ·skip
  refine sS H fun K5 k5=>sr 2 rfl<|sE ?_;clear H a;intro a H
  refine k5 _ ?_;clear k5 K5
  refine wp_ret ?_
  refine ret1 (fn:=Tryz.f16) rfl H rfl ?_
  exact ⟨congrArg _ (rU hc1).symm,(S.sel [] G G)⟩
 have hye:yearE y=0:=by omega
 have hyi:=(mC hye).yr
 unfold yrI at hyi
 refine wp_skip ?_
 refine k3 _ _ ?_
 refine wp_seq_k fun K6 k6=>?_
 replace H:=H.keep [1,2] rfl
 refine sS H fun K7 k7=>sr 1 rfl<|sL eN rfl<|sr 1 rfl<|sE ?_;clear H a;intro a H
 refine k7 _ ?_;clear k7 K7
 refine condL H rfl (fun hc2=>?_) (fun hc2=>?_)
 ·skip
  refine sS H fun K8 k8=>sr 1 rfl<|sE ?_;clear H a;intro a H
  refine k8 _ ?_;clear k8 K8
  refine wp_ret ?_
  refine ret1 (fn:=Tryz.f16) rfl H rfl ?_
  rw [rV hye (by omega)];exact ⟨rfl,(S.sel [] G G)⟩
 refine wp_skip ?_
 refine k6 _ _ ?_
 refine wp_seq_k fun K9 k9=>?_
 refine sS H fun K10 k10=>sr 1 rfl<|sE ?_;clear H a;intro a H
 refine k10 _ ?_;clear k10 K10
 refine wp_block ?_
 refine loop_st (X:=Nat) (R0:=_) [1,2] H rfl (fun k=>[(6,.int .i64 (k:Int))]) (fun k=>[]) (fun g k=>k≤l.length∧g+k=l.length∧∀ q,q<k→tskB y l q=true) (l.length) 0 ?_ (S.sel [0] G G) (H.keep [6,1,2] rfl) ?_
 · exact ⟨by omega,by omega,fun q hq=>absurd hq (Nat.not_lt_zero q)⟩
 clear H S a
 intro g1 x1 a w1 hp S H K11 k11
 obtain ⟨k,rfl⟩:∃ y,y=x1:=⟨_,rfl⟩
 refine wp_seq_k fun K12 k12=>?_
 refine sS H fun K13 k13=>sr 2 rfl<|sL eN rfl<|sr 1 rfl<|sE ?_;clear H a;intro a H
 refine k13 _ ?_;clear k13 K13
 refine condL H rfl (fun hc3=>?_) (fun hc3=>?_)
 ·skip
  refine wp_skip ?_
  refine k12 _ _ ?_
  refine wp_seq_k fun K14 k14=>?_
  refine wp_block ?_
  rcases chk5 (0≤(l.getD k Tsk.zero).day∧(l.getD k Tsk.zero).day≤y.days-1) (0≤(l.getD k Tsk.zero).unit∧(l.getD k Tsk.zero).unit≤(y.us.length:Int)-1) (1≤(l.getD k Tsk.zero).kind∧(l.getD k Tsk.zero).kind≤2) k with hB|hB|hB|hB|hB
  ·skip
   skip
   replace H:=H.keep [1,2,6] rfl
   replace S:=S.drew
   refine seq_wq [(0,true),(1,true),(2,true),(3,true),(4,true),(5,true),(6,true),(7,true),(8,false),(9,true),(10,true),(11,true),(12,true),(13,true),(14,true),(15,true),(16,true),(17,true),(18,true),(19,true),(20,true),(21,true),(22,true),(23,true),(24,true),(25,true),(26,true),(27,true),(28,true),(29,true),(30,true),(31,true),(32,true),(33,true),(34,true),(35,true),(36,true),(37,true),(38,true),(39,true),(40,true),(41,true),(42,true),(43,true),(44,true),(45,true),(46,true),(47,true),(48,true)] (by kernel_rfl) (by kernel_rfl) (S.sel [0] G G) fun K15 k15=>?_
   refine qF H<|qr 2 rfl<|qd rfl (fun _ S=>bM eN eB G G (hl.adr (by omega)) (by omega))<|qd rfl (fun _ S=>(bL dD rfl))<|qd rfl (fun _ S=>aH aE rfl (hl.rd S (by omega) (by omega)))<|qd rfl (fun _ S=>(aC dK rfl))<|qd rfl (fun _ S=>aH aE rfl (boxM.rd S (i:=0) G G))<|qd rfl (fun _ S=>aR G G (by unfold i64ok;omega))<|qK ?_;clear H a;intro a H
   refine aT rfl ?_
   refine aA H G G Tryz.func48 G G (cO _ _ _ _) ?_;clear H a
   rintro _ _ a ⟨rfl,rfl⟩ H
   refine wpList_nil (And.intro (S.sel [0] G G) ?_)
   refine qF H<|qd rfl (fun _ S=>fW rfl (by omega))<|qr 1 rfl<|qK ?_;clear H a;intro a H
   refine aJ H G G G G G ?_;clear H a;intro a H
   refine aJ H G G G G G ?_;clear H a;intro a H
   refine aJ H G G G G G ?_;clear H a;intro a H
   refine aJ H G G G G G ?_;clear H a;intro a H
   refine aJ H G G G G G ?_;clear H a;intro a H
   refine aJ H G G G G G ?_;clear H a;intro a H
   refine aJ H G G G G G ?_;clear H a;intro a H
   refine aJ H G G G G G ?_;clear H a;intro a H
   refine aJ H G G G G G ?_;clear H a;intro a H
   refine aJ H G G G G G ?_;clear H a;intro a H
   refine aJ H G G G G G ?_;clear H a;intro a H
   refine qF H<|qd rfl (fun _ S=>(aU G G G))<|qr 1 rfl<|qK ?_;clear H a;intro a H
   refine aJ H G G G G G ?_;clear H a;intro a H
   refine aJ H G G G G G ?_;clear H a;intro a H
   refine aJ H G G G G G ?_;clear H a;intro a H
   refine aJ H G G G G G ?_;clear H a;intro a H
   refine aJ H G G G G G ?_;clear H a;intro a H
   refine aJ H G G G G G ?_;clear H a;intro a H
   refine aJ H G G G G G ?_;clear H a;intro a H
   refine qF H<|qd rfl (fun _ S=>(aU G G G))<|qr 1 rfl<|qK ?_;clear H a;intro a H
   refine aJ H G G G G G ?_;clear H a;intro a H
   refine aJ H G G G G G ?_;clear H a;intro a H
   refine aJ H G G G G G ?_;clear H a;intro a H
   refine bO H G G G G ?_;clear H a;intro a H
   refine bO H G G G G ?_;clear H a;intro a H
   refine bO H G G G G ?_;clear H a;intro a H
   refine bO H G G G G ?_;clear H a;intro a H
   refine bO H G G G G ?_;clear H a;intro a H
   refine bO H G G G G ?_;clear H a;intro a H
   refine bO H G G G G ?_;clear H a;intro a H
   refine bO H G G G G ?_;clear H a;intro a H
   refine bO H G G G G ?_;clear H a;intro a H
   refine bO H G G G G ?_;clear H a;intro a H
   refine bO H G G G G ?_;clear H a;intro a H
   refine aJ H G G G G G ?_;clear H a;intro a H
   refine qF H<|qd rfl (fun _ S=>(aU G G G))<|qK ?_;clear H a;intro a H
   refine bN ?_
   refine k15 _ _ ?_
   clear k15 K15
   refine cond_ H rfl (fun hc4=>?_) (fun hc4=>?_)
   ·skip
    skip
    replace H:=H.keep [] rfl
    refine sS H fun K16 k16=>sr 1 rfl<|sE ?_;clear H a;intro a H
    refine k16 _ ?_;clear k16 K16
    refine wp_ret ?_
    refine ret1 (fn:=Tryz.f16) rfl H rfl ?_
    rw [fT hye (by omega) (show k<l.length by omega) (kC (by omega))];exact ⟨rfl,(S.sel [] G G)⟩
   skip
   cases hc4
  ·skip
   skip
   replace H:=H.keep [1,2,6] rfl
   replace S:=S.drew
   refine seq_wq [(0,true),(1,true),(2,true),(3,true),(4,true),(5,true),(6,true),(7,true),(8,false),(9,true),(10,true),(11,true),(12,true),(13,true),(14,true),(15,true),(16,true),(17,true),(18,true),(19,true),(20,false),(21,true),(22,true),(23,true),(24,true),(25,true),(26,true),(27,true),(28,true),(29,true),(30,true),(31,true),(32,true),(33,true),(34,true),(35,true),(36,true),(37,true),(38,true),(39,true),(40,true),(41,true),(42,true),(43,true),(44,true),(45,true),(46,true),(47,true),(48,true)] (by kernel_rfl) (by kernel_rfl) (S.sel [0] G G) fun K17 k17=>?_
   refine qF H<|qr 2 rfl<|qd rfl (fun _ S=>bM eN eB G G (hl.adr (by omega)) (by omega))<|qd rfl (fun _ S=>(bL dD rfl))<|qd rfl (fun _ S=>aH aE rfl (hl.rd S (by omega) (by omega)))<|qd rfl (fun _ S=>(aC dK rfl))<|qd rfl (fun _ S=>aH aE rfl (boxM.rd S (i:=0) G G))<|qd rfl (fun _ S=>aR G G (by unfold i64ok;omega))<|qK ?_;clear H a;intro a H
   refine aT rfl ?_
   refine aA H G G Tryz.func48 G G (cO _ _ _ _) ?_;clear H a
   rintro _ _ a ⟨rfl,rfl⟩ H
   refine wpList_nil (And.intro (S.sel [0] G G) ?_)
   refine qF H<|qd rfl (fun _ S=>bQ rfl (by omega))<|qr 1 rfl<|qK ?_;clear H a;intro a H
   refine aF H G G G G (fun _ S=>aL rfl) ?_;clear H a;intro a H
   refine aF H G G G G (fun _ S=>aL rfl) ?_;clear H a;intro a H
   refine aF H G G G G (fun _ S=>bM eN eB G G (hl.adr (by omega)) (by omega)) ?_;clear H a;intro a H
   refine aF H G G G G (fun _ S=>(bL dP rfl)) ?_;clear H a;intro a H
   refine aF H G G G G (fun _ S=>aH aE rfl (hl.rd S (by omega) (by omega))) ?_;clear H a;intro a H
   refine aF H G G G G (fun _ S=>(aC cM rfl)) ?_;clear H a;intro a H
   refine aF H G G G G (fun _ S=>aH dL rfl (boxM.rd S (i:=0) G G)) ?_;clear H a;intro a H
   refine aF H G G G G (fun _ S=>cD eI rfl) ?_;clear H a;intro a H
   refine aF H G G G G (fun _ S=>aR G G (by unfold i64ok;omega)) ?_;clear H a;intro a H
   refine aT rfl ?_
   refine aX H G G ?_
   refine aA H G G Tryz.func48 G G (cO _ _ _ _) ?_;clear H a
   rintro _ _ a ⟨rfl,rfl⟩ H
   refine wpList_nil (And.intro (S.sel [0] G G) ?_)
   refine aF H G G G G (fun _ S=>fW rfl (by omega)) ?_;clear H a;intro a H
   refine qF H<|qd rfl (fun _ S=>(aW G G G))<|qr 1 rfl<|qK ?_;clear H a;intro a H
   refine aJ H G G G G G ?_;clear H a;intro a H
   refine aJ H G G G G G ?_;clear H a;intro a H
   refine aJ H G G G G G ?_;clear H a;intro a H
   refine aJ H G G G G G ?_;clear H a;intro a H
   refine aJ H G G G G G ?_;clear H a;intro a H
   refine aJ H G G G G G ?_;clear H a;intro a H
   refine aJ H G G G G G ?_;clear H a;intro a H
   refine qF H<|qd rfl (fun _ S=>(aU G G G))<|qr 1 rfl<|qK ?_;clear H a;intro a H
   refine aJ H G G G G G ?_;clear H a;intro a H
   refine aJ H G G G G G ?_;clear H a;intro a H
   refine aJ H G G G G G ?_;clear H a;intro a H
   refine bO H G G G G ?_;clear H a;intro a H
   refine bO H G G G G ?_;clear H a;intro a H
   refine bO H G G G G ?_;clear H a;intro a H
   refine bO H G G G G ?_;clear H a;intro a H
   refine bO H G G G G ?_;clear H a;intro a H
   refine bO H G G G G ?_;clear H a;intro a H
   refine bO H G G G G ?_;clear H a;intro a H
   refine bO H G G G G ?_;clear H a;intro a H
   refine bO H G G G G ?_;clear H a;intro a H
   refine bO H G G G G ?_;clear H a;intro a H
   refine bO H G G G G ?_;clear H a;intro a H
   refine aJ H G G G G G ?_;clear H a;intro a H
   refine qF H<|qd rfl (fun _ S=>(aU G G G))<|qK ?_;clear H a;intro a H
   refine bN ?_
   refine k17 _ _ ?_
   clear k17 K17
   refine cond_ H rfl (fun hc5=>?_) (fun hc5=>?_)
   ·skip
    skip
    replace H:=H.keep [] rfl
    refine sS H fun K18 k18=>sr 1 rfl<|sE ?_;clear H a;intro a H
    refine k18 _ ?_;clear k18 K18
    refine wp_ret ?_
    refine ret1 (fn:=Tryz.f16) rfl H rfl ?_
    rw [fT hye (by omega) (show k<l.length by omega) (kC (by omega))];exact ⟨rfl,(S.sel [] G G)⟩
   skip
   cases hc5
  ·skip
   skip
   replace H:=H.keep [1,2,6] rfl
   replace S:=S.drew
   refine seq_wq [(0,true),(1,true),(2,true),(3,true),(4,true),(5,true),(6,true),(7,true),(8,false),(9,true),(10,true),(11,true),(12,true),(13,true),(14,true),(15,true),(16,true),(17,true),(18,true),(19,true),(20,false),(21,true),(22,true),(23,true),(24,true),(25,true),(26,true),(27,true),(28,true),(29,false),(30,true),(31,true),(32,true),(33,true),(34,true),(35,true),(36,true),(37,true),(38,true),(39,true),(40,true),(41,true),(42,true),(43,true),(44,true),(45,true),(46,true),(47,true),(48,true)] (by kernel_rfl) (by kernel_rfl) (S.sel [0] G G) fun K19 k19=>?_
   refine qF H<|qr 2 rfl<|qd rfl (fun _ S=>bM eN eB G G (hl.adr (by omega)) (by omega))<|qd rfl (fun _ S=>(bL dD rfl))<|qd rfl (fun _ S=>aH aE rfl (hl.rd S (by omega) (by omega)))<|qd rfl (fun _ S=>(aC dK rfl))<|qd rfl (fun _ S=>aH aE rfl (boxM.rd S (i:=0) G G))<|qd rfl (fun _ S=>aR G G (by unfold i64ok;omega))<|qK ?_;clear H a;intro a H
   refine aT rfl ?_
   refine aA H G G Tryz.func48 G G (cO _ _ _ _) ?_;clear H a
   rintro _ _ a ⟨rfl,rfl⟩ H
   refine wpList_nil (And.intro (S.sel [0] G G) ?_)
   refine qF H<|qd rfl (fun _ S=>bQ rfl (by omega))<|qr 1 rfl<|qK ?_;clear H a;intro a H
   refine aF H G G G G (fun _ S=>aL rfl) ?_;clear H a;intro a H
   refine aF H G G G G (fun _ S=>aL rfl) ?_;clear H a;intro a H
   refine aF H G G G G (fun _ S=>bM eN eB G G (hl.adr (by omega)) (by omega)) ?_;clear H a;intro a H
   refine aF H G G G G (fun _ S=>(bL dP rfl)) ?_;clear H a;intro a H
   refine aF H G G G G (fun _ S=>aH aE rfl (hl.rd S (by omega) (by omega))) ?_;clear H a;intro a H
   refine aF H G G G G (fun _ S=>(aC cM rfl)) ?_;clear H a;intro a H
   refine aF H G G G G (fun _ S=>aH dL rfl (boxM.rd S (i:=0) G G)) ?_;clear H a;intro a H
   refine aF H G G G G (fun _ S=>cD eI rfl) ?_;clear H a;intro a H
   refine aF H G G G G (fun _ S=>aR G G (by unfold i64ok;omega)) ?_;clear H a;intro a H
   refine aT rfl ?_
   refine aX H G G ?_
   refine aA H G G Tryz.func48 G G (cO _ _ _ _) ?_;clear H a
   rintro _ _ a ⟨rfl,rfl⟩ H
   refine wpList_nil (And.intro (S.sel [0] G G) ?_)
   refine aF H G G G G (fun _ S=>bQ rfl (by omega)) ?_;clear H a;intro a H
   refine qF H<|qd rfl (fun _ S=>(aW G G G))<|qr 1 rfl<|qK ?_;clear H a;intro a H
   refine aF H G G G G (fun _ S=>aL rfl) ?_;clear H a;intro a H
   refine aF H G G G G (fun _ S=>aL rfl) ?_;clear H a;intro a H
   refine aF H G G G G (fun _ S=>bM eN eB G G (hl.adr (by omega)) (by omega)) ?_;clear H a;intro a H
   refine aF H G G G G (fun _ S=>(bL gA rfl)) ?_;clear H a;intro a H
   refine aF H G G G G (fun _ S=>aH aE rfl (hl.rd S (by omega) (by omega))) ?_;clear H a;intro a H
   refine aT rfl ?_
   refine aX H G G ?_
   refine aA H G G Tryz.func48 G G (cO _ _ _ _) ?_;clear H a
   rintro _ _ a ⟨rfl,rfl⟩ H
   refine wpList_nil (And.intro (S.sel [0] G G) ?_)
   refine aF H G G G G (fun _ S=>fW rfl (by omega)) ?_;clear H a;intro a H
   refine qF H<|qd rfl (fun _ S=>(aW G G G))<|qr 1 rfl<|qK ?_;clear H a;intro a H
   refine aJ H G G G G G ?_;clear H a;intro a H
   refine aJ H G G G G G ?_;clear H a;intro a H
   refine aJ H G G G G G ?_;clear H a;intro a H
   refine bO H G G G G ?_;clear H a;intro a H
   refine bO H G G G G ?_;clear H a;intro a H
   refine bO H G G G G ?_;clear H a;intro a H
   refine bO H G G G G ?_;clear H a;intro a H
   refine bO H G G G G ?_;clear H a;intro a H
   refine bO H G G G G ?_;clear H a;intro a H
   refine bO H G G G G ?_;clear H a;intro a H
   refine bO H G G G G ?_;clear H a;intro a H
   refine bO H G G G G ?_;clear H a;intro a H
   refine bO H G G G G ?_;clear H a;intro a H
   refine bO H G G G G ?_;clear H a;intro a H
   refine aJ H G G G G G ?_;clear H a;intro a H
   refine qF H<|qd rfl (fun _ S=>(aU G G G))<|qK ?_;clear H a;intro a H
   refine bN ?_
   refine k19 _ _ ?_
   clear k19 K19
   refine cond_ H rfl (fun hc6=>?_) (fun hc6=>?_)
   ·skip
    skip
    replace H:=H.keep [] rfl
    refine sS H fun K20 k20=>sr 1 rfl<|sE ?_;clear H a;intro a H
    refine k20 _ ?_;clear k20 K20
    refine wp_ret ?_
    refine ret1 (fn:=Tryz.f16) rfl H rfl ?_
    rw [fT hye (by omega) (show k<l.length by omega) (kC (by omega))];exact ⟨rfl,(S.sel [] G G)⟩
   skip
   cases hc6
  ·skip
   skip
   replace H:=H.keep [1,2,6] rfl
   replace S:=S.drew
   refine seq_wq [(0,true),(1,true),(2,true),(3,true),(4,true),(5,true),(6,true),(7,true),(8,false),(9,true),(10,true),(11,true),(12,true),(13,true),(14,true),(15,true),(16,true),(17,true),(18,true),(19,true),(20,false),(21,true),(22,true),(23,true),(24,true),(25,true),(26,true),(27,true),(28,true),(29,false),(30,true),(31,true),(32,true),(33,true),(34,true),(35,true),(36,true),(37,true),(38,true),(39,true),(40,true),(41,true),(42,true),(43,true),(44,true),(45,true),(46,true),(47,true),(48,true)] (by kernel_rfl) (by kernel_rfl) (S.sel [0] G G) fun K21 k21=>?_
   refine qF H<|qr 2 rfl<|qd rfl (fun _ S=>bM eN eB G G (hl.adr (by omega)) (by omega))<|qd rfl (fun _ S=>(bL dD rfl))<|qd rfl (fun _ S=>aH aE rfl (hl.rd S (by omega) (by omega)))<|qd rfl (fun _ S=>(aC dK rfl))<|qd rfl (fun _ S=>aH aE rfl (boxM.rd S (i:=0) G G))<|qd rfl (fun _ S=>aR G G (by unfold i64ok;omega))<|qK ?_;clear H a;intro a H
   refine aT rfl ?_
   refine aA H G G Tryz.func48 G G (cO _ _ _ _) ?_;clear H a
   rintro _ _ a ⟨rfl,rfl⟩ H
   refine wpList_nil (And.intro (S.sel [0] G G) ?_)
   refine qF H<|qd rfl (fun _ S=>bQ rfl (by omega))<|qr 1 rfl<|qK ?_;clear H a;intro a H
   refine aF H G G G G (fun _ S=>aL rfl) ?_;clear H a;intro a H
   refine aF H G G G G (fun _ S=>aL rfl) ?_;clear H a;intro a H
   refine aF H G G G G (fun _ S=>bM eN eB G G (hl.adr (by omega)) (by omega)) ?_;clear H a;intro a H
   refine aF H G G G G (fun _ S=>(bL dP rfl)) ?_;clear H a;intro a H
   refine aF H G G G G (fun _ S=>aH aE rfl (hl.rd S (by omega) (by omega))) ?_;clear H a;intro a H
   refine aF H G G G G (fun _ S=>(aC cM rfl)) ?_;clear H a;intro a H
   refine aF H G G G G (fun _ S=>aH dL rfl (boxM.rd S (i:=0) G G)) ?_;clear H a;intro a H
   refine aF H G G G G (fun _ S=>cD eI rfl) ?_;clear H a;intro a H
   refine aF H G G G G (fun _ S=>aR G G (by unfold i64ok;omega)) ?_;clear H a;intro a H
   refine aT rfl ?_
   refine aX H G G ?_
   refine aA H G G Tryz.func48 G G (cO _ _ _ _) ?_;clear H a
   rintro _ _ a ⟨rfl,rfl⟩ H
   refine wpList_nil (And.intro (S.sel [0] G G) ?_)
   refine aF H G G G G (fun _ S=>bQ rfl (by omega)) ?_;clear H a;intro a H
   refine qF H<|qd rfl (fun _ S=>(aW G G G))<|qr 1 rfl<|qK ?_;clear H a;intro a H
   refine aF H G G G G (fun _ S=>aL rfl) ?_;clear H a;intro a H
   refine aF H G G G G (fun _ S=>aL rfl) ?_;clear H a;intro a H
   refine aF H G G G G (fun _ S=>bM eN eB G G (hl.adr (by omega)) (by omega)) ?_;clear H a;intro a H
   refine aF H G G G G (fun _ S=>(bL gA rfl)) ?_;clear H a;intro a H
   refine aF H G G G G (fun _ S=>aH aE rfl (hl.rd S (by omega) (by omega))) ?_;clear H a;intro a H
   refine aT rfl ?_
   refine aX H G G ?_
   refine aA H G G Tryz.func48 G G (cO _ _ _ _) ?_;clear H a
   rintro _ _ a ⟨rfl,rfl⟩ H
   refine wpList_nil (And.intro (S.sel [0] G G) ?_)
   refine aF H G G G G (fun _ S=>bQ rfl (by omega)) ?_;clear H a;intro a H
   refine qF H<|qd rfl (fun _ S=>(aW G G G))<|qr 1 rfl<|qK ?_;clear H a;intro a H
   refine aF H G G G G (fun _ S=>aL rfl) ?_;clear H a;intro a H
   refine aF H G G G G (fun _ S=>tN G G (by omega)) ?_;clear H a;intro a H
   refine aF H G G G G (fun _ S=>aL rfl) ?_;clear H a;intro a H
   refine aJ H G G G G G ?_;clear H a;intro a H
   refine aJ H G G G G G ?_;clear H a;intro a H
   refine aJ H G G G G G ?_;clear H a;intro a H
   refine aJ H G G G G G ?_;clear H a;intro a H
   refine aJ H G G G G G ?_;clear H a;intro a H
   refine aJ H G G G G G ?_;clear H a;intro a H
   refine aJ H G G G G G ?_;clear H a;intro a H
   refine aJ H G G G G G ?_;clear H a;intro a H
   refine aJ H G G G G G ?_;clear H a;intro a H
   refine aJ H G G G G G ?_;clear H a;intro a H
   refine aJ H G G G G G ?_;clear H a;intro a H
   refine aF H G G G G (fun _ S=>(aU G G G)) ?_;clear H a;intro a H
   refine qF H<|qd rfl (fun _ S=>(aW G G G))<|qK ?_;clear H a;intro a H
   refine bN ?_
   refine k21 _ _ ?_
   clear k21 K21
   refine cond_ H rfl (fun hc7=>?_) (fun hc7=>?_)
   ·skip
    skip
    cases hc7
   skip
   refine wp_skip ?_
   refine k14 _ _ ?_
   replace H:=H.keep [1,2,6] rfl
   refine sO H<|sr 1 rfl<|sd (aK G G (by unfold i64ok;omega))<|sr 1 rfl<|sE ?_;clear H a;intro a H
   exact k11 (g1-1) (k+1) a _ (by omega) (by first|exact ⟨by omega,by omega,eK (f:=tskB y l) hp.2.2 (mE hB)⟩|exact ⟨by omega,by omega,eK (f:=tskB y l) hp.2.2 (mF hB hc8)⟩) (S.sel [0] G G) (H.keep [6,1,2] rfl)
  skip
  replace H:=H.keep [1,2,6] rfl
  replace S:=S.drew
  refine seq_wq [(0,true),(1,true),(2,true),(3,true),(4,true),(5,true),(6,true),(7,true),(8,false),(9,true),(10,true),(11,true),(12,true),(13,true),(14,true),(15,true),(16,true),(17,true),(18,true),(19,true),(20,false),(21,true),(22,true),(23,true),(24,true),(25,true),(26,true),(27,true),(28,true),(29,false),(30,true),(31,true),(32,true),(33,true),(34,true),(35,true),(36,true),(37,true),(38,true),(39,true),(40,true),(41,true),(42,true),(43,true),(44,true),(45,false),(46,true),(47,true),(48,true)] (by kernel_rfl) (by kernel_rfl) (S.sel [0] G G) fun K23 k23=>?_
  refine qF H<|qr 2 rfl<|qd rfl (fun _ S=>bM eN eB G G (hl.adr (by omega)) (by omega))<|qd rfl (fun _ S=>(bL dD rfl))<|qd rfl (fun _ S=>aH aE rfl (hl.rd S (by omega) (by omega)))<|qd rfl (fun _ S=>(aC dK rfl))<|qd rfl (fun _ S=>aH aE rfl (boxM.rd S (i:=0) G G))<|qd rfl (fun _ S=>aR G G (by unfold i64ok;omega))<|qK ?_;clear H a;intro a H
  refine aT rfl ?_
  refine aA H G G Tryz.func48 G G (cO _ _ _ _) ?_;clear H a
  rintro _ _ a ⟨rfl,rfl⟩ H
  refine wpList_nil (And.intro (S.sel [0] G G) ?_)
  refine qF H<|qd rfl (fun _ S=>bQ rfl (by omega))<|qr 1 rfl<|qK ?_;clear H a;intro a H
  refine aF H G G G G (fun _ S=>aL rfl) ?_;clear H a;intro a H
  refine aF H G G G G (fun _ S=>aL rfl) ?_;clear H a;intro a H
  refine aF H G G G G (fun _ S=>bM eN eB G G (hl.adr (by omega)) (by omega)) ?_;clear H a;intro a H
  refine aF H G G G G (fun _ S=>(bL dP rfl)) ?_;clear H a;intro a H
  refine aF H G G G G (fun _ S=>aH aE rfl (hl.rd S (by omega) (by omega))) ?_;clear H a;intro a H
  refine aF H G G G G (fun _ S=>(aC cM rfl)) ?_;clear H a;intro a H
  refine aF H G G G G (fun _ S=>aH dL rfl (boxM.rd S (i:=0) G G)) ?_;clear H a;intro a H
  refine aF H G G G G (fun _ S=>cD eI rfl) ?_;clear H a;intro a H
  refine aF H G G G G (fun _ S=>aR G G (by unfold i64ok;omega)) ?_;clear H a;intro a H
  refine aT rfl ?_
  refine aX H G G ?_
  refine aA H G G Tryz.func48 G G (cO _ _ _ _) ?_;clear H a
  rintro _ _ a ⟨rfl,rfl⟩ H
  refine wpList_nil (And.intro (S.sel [0] G G) ?_)
  refine aF H G G G G (fun _ S=>bQ rfl (by omega)) ?_;clear H a;intro a H
  refine qF H<|qd rfl (fun _ S=>(aW G G G))<|qr 1 rfl<|qK ?_;clear H a;intro a H
  refine aF H G G G G (fun _ S=>aL rfl) ?_;clear H a;intro a H
  refine aF H G G G G (fun _ S=>aL rfl) ?_;clear H a;intro a H
  refine aF H G G G G (fun _ S=>bM eN eB G G (hl.adr (by omega)) (by omega)) ?_;clear H a;intro a H
  refine aF H G G G G (fun _ S=>(bL gA rfl)) ?_;clear H a;intro a H
  refine aF H G G G G (fun _ S=>aH aE rfl (hl.rd S (by omega) (by omega))) ?_;clear H a;intro a H
  refine aT rfl ?_
  refine aX H G G ?_
  refine aA H G G Tryz.func48 G G (cO _ _ _ _) ?_;clear H a
  rintro _ _ a ⟨rfl,rfl⟩ H
  refine wpList_nil (And.intro (S.sel [0] G G) ?_)
  refine aF H G G G G (fun _ S=>bQ rfl (by omega)) ?_;clear H a;intro a H
  refine qF H<|qd rfl (fun _ S=>(aW G G G))<|qr 1 rfl<|qK ?_;clear H a;intro a H
  refine aF H G G G G (fun _ S=>aL rfl) ?_;clear H a;intro a H
  refine aF H G G G G (fun _ S=>tM G G (by omega)) ?_;clear H a;intro a H
  refine aF H G G G G (fun _ S=>aL rfl) ?_;clear H a;intro a H
  refine aF H G G G G (fun _ S=>aL rfl) ?_;clear H a;intro a H
  refine aF H G G G G (fun _ S=>aL rfl) ?_;clear H a;intro a H
  refine aF H G G G G (fun _ S=>aR G G (by unfold i64ok;omega)) ?_;clear H a;intro a H
  refine aF H G G G G (fun _ S=>bR eN eB G G (hl.adr (by omega)) (by omega) (by omega)) ?_;clear H a;intro a H
  refine aF H G G G G (fun _ S=>(aV oQ eB rfl S hl (by omega) (by omega))) ?_;clear H a;intro a H
  refine aF H G G G G (fun _ S=>aL rfl) ?_;clear H a;intro a H
  refine aF H G G G G (fun _ S=>aL rfl) ?_;clear H a;intro a H
  refine aF H G G G G (fun _ S=>bM eN eB G G (hl.adr (by omega)) (by omega)) ?_;clear H a;intro a H
  refine aF H G G G G (fun _ S=>(aV oQ eB rfl S hl (by omega) (by omega))) ?_;clear H a;intro a H
  refine aT rfl ?_
  refine aX H G G ?_
  refine aA H G G Tryz.func49 G G (Fz (l.getD ((k:Int)-1).toNat Tsk.zero) (l.getD k Tsk.zero) _) ?_;clear H a
  rintro _ _ a ⟨rfl,S2⟩ H
  replace S:=S.call S2;clear S2
  refine wpList_nil (And.intro (S.sel [0] G G) ?_)
  refine aF H G G G G (fun _ S=>cJ rfl) ?_;clear H a;intro a H
  refine aF H G G G G (fun _ S=>(iQ G G G)) ?_;clear H a;intro a H
  refine qF H<|qd rfl (fun _ S=>(aW G G G))<|qK ?_;clear H a;intro a H
  refine bN ?_
  refine k23 _ _ ?_
  clear k23 K23
  refine cond_ H rfl (fun hc8=>?_) (fun hc8=>?_)
  ·skip
   try simp only [o1,o2,o3,o4,o5,o6,o7,o8,o9,oa] at hc8
   replace hc8:befB (l.getD ((k:Int)-1).toNat Tsk.zero) (l.getD k Tsk.zero)=false:=by simpa using hc8
   replace H:=H.keep [] rfl
   refine sS H fun K24 k24=>sr 1 rfl<|sE ?_;clear H a;intro a H
   refine k24 _ ?_;clear k24 K24
   refine wp_ret ?_
   refine ret1 (fn:=Tryz.f16) rfl H rfl ?_
   rw [fT hye (by omega) (show k<l.length by omega) (zC hB hc8)];exact ⟨rfl,(S.sel [] G G)⟩
  try simp only [o1,o2,o3,o4,o5,o6,o7,o8,o9,oa] at hc8
  replace hc8:befB (l.getD ((k:Int)-1).toNat Tsk.zero) (l.getD k Tsk.zero)=true:=by simpa using hc8
  refine wp_skip ?_
  refine k14 _ _ ?_
  refine sO H<|sr 1 rfl<|sd (aK G G (by unfold i64ok;omega))<|sr 1 rfl<|sE ?_;clear H a;intro a H
  exact k11 (g1-1) (k+1) a _ (by omega) (by first|exact ⟨by omega,by omega,eK (f:=tskB y l) hp.2.2 (mE hB)⟩|exact ⟨by omega,by omega,eK (f:=tskB y l) hp.2.2 (mF hB hc8)⟩) (S.sel [0] G G) (H.keep [6,1,2] rfl)
 refine wp_exit ?_
 refine k9 _ _ ?_
 refine sS H fun K26 k26=>sr 1 rfl<|sE ?_;clear H a;intro a H
 refine k26 _ ?_;clear k26 K26
 refine wp_ret ?_
 refine ret1 (fn:=Tryz.f16) rfl H rfl ?_
 rw [yG hye (by omega) (bI.2 fun q hq=>hp.2.2 q (by omega))];exact ⟨rfl,(S.sel [] G G)⟩
end
end Go.Proofs.YtinghmelkmblmaaGreat
