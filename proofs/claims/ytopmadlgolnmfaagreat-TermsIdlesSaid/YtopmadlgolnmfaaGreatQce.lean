/- Part 5 of the proof. -/
import Derived.Test.YtopmadlgolnmfaaGreatQcd
namespace Go.Proofs.YtopmadlgolnmfaaGreat
open Go.RowKit
set_option linter.unusedVariables false
set_option linter.unusedSimpArgs false
set_option maxRecDepth 100000
set_option maxHeartbeats 4000000
section
def MList (ps:List Psg) (k:Nat) (ml:List Int):Prop:=ml.length≤k∧∀ m,0≤m→(hasI ml m=true↔¬ cntM ps m k=0)
theorem MList.nil {ps:List Psg}:MList ps 0 []:=⟨Nat.le_refl 0,fun m _=>by
  constructor
  · intro h;cases h
  · intro h;exact absurd rfl h⟩
theorem zK {ps:List Psg} {m:Int} {k:Nat}:cntM ps m (k+1)=cntM ps m k+(if dB ps k=m then 1 else 0):=rfl
theorem Mw {l:List Int} {x m:Int}:hasI (l++[x]) m=(hasI l m||decide (m=x)):=by unfold hasI;rw [List.any_append];simp
theorem MList.add {ps:List Psg} {k:Nat} {ml:List Int} (h:MList ps k ml):MList ps (k+1) (ml++[dB ps k]):=⟨by rw [List.length_append];have:=h.1;simp;omega,fun m hm=>by
  have h1:=h.2 m hm
  have h2:=Ii (ps:=ps) (m:=m) (k:=k)
  rw [Mw,zK,Bool.or_eq_true,decide_eq_true_eq,h1]
  by_cases e:dB ps k=m
  · rw [if_pos e];exact ⟨fun _=>by omega,fun _ => .inr e.symm⟩
  · rw [if_neg e,Int.add_zero];exact ⟨fun g=>g.resolve_right (fun g=>e g.symm),.inl⟩⟩
theorem MList.skip {ps:List Psg} {k:Nat} {ml:List Int} (h:MList ps k ml) (hk:dB ps k<0):MList ps (k+1) ml:=⟨by have:=h.1;omega,fun m hm=>by
  rw [zK,if_neg (by omega),Int.add_zero]
  exact h.2 m hm⟩
theorem MList.fresh {ps:List Psg} {k:Nat} {ml:List Int} (h:MList ps k ml) (h0:0≤(ps.getD k Psg.zero).mach) (hh:hasI ml (ps.getD k Psg.zero).mach=false):cntM ps (dB ps k) k=0:=by
  have h9:=h.2 _ h0
  rw [hh] at h9
  have h8:dB ps k=(ps.getD k Psg.zero).mach:=rfl
  rw [h8]
  simp only [Bool.false_eq_true,false_iff] at h9
  omega
theorem rM {pl:Int} {ps:List Psg} {k:Nat} (h:psgOk pl (ps.getD k Psg.zero)=true) (hz:cntM ps (dB ps k) k=0):pasOk pl ps k=true:=by unfold pasOk;rw [h,decide_eq_true (.inr hz)];rfl
theorem rN {pl:Int} {ps:List Psg} {k:Nat} (h:psgOk pl (ps.getD k Psg.zero)=true) (hz:(ps.getD k Psg.zero).mach<0):pasOk pl ps k=true:=by unfold pasOk;rw [h,decide_eq_true (.inl hz)];rfl
theorem Yn {pl:Int} {ps:List Psg} {k:Nat} {ml:List Int} (hM:MList ps k ml) (hc:((ps.getD k Psg.zero).mach<0∨11<(ps.getD k Psg.zero).mach)∨hasI ml (ps.getD k Psg.zero).mach=true) (hk:(ps.getD k Psg.zero).kind=3∨(ps.getD k Psg.zero).kind=4):pasOk pl ps k=false:=by
  unfold pasOk
  rw [Bool.and_eq_false_iff]
  by_cases h0:0≤(ps.getD k Psg.zero).mach∧(ps.getD k Psg.zero).mach≤11
  · refine .inr (decide_eq_false ?_)
    have h9:=hM.2 _ h0.1
    have h8:dB ps k=(ps.getD k Psg.zero).mach:=rfl
    rw [h8]
    rcases hc with h7|h7
    · omega
    · rw [h7] at h9
      simp only [true_iff] at h9
      omega
  · exact .inl (gU (by omega))
theorem Yo {pl:Int} {xs:List Int} {k:Nat} (h:(0≤xs.getD k 0∧xs.getD k 0≤pl-1)∧(k=0∨xs.getD (k-1) 0<xs.getD k 0)):exOk pl xs k=true:=by unfold exOk;rw [decide_eq_true_eq];omega
theorem Yp {pl:Int} {xs:List Int} {k:Nat} (h:¬ ((0≤xs.getD k 0∧xs.getD k 0≤pl-1)∧(k=0∨xs.getD (k-1) 0<xs.getD k 0))):exOk pl xs k=false:=by unfold exOk;rw [decide_eq_false_iff_not];omega
theorem Yq {x:Int}:(!decide (x%2=1))=decide (x%2=0):=by
  have h:=Int.emod_two_eq x
  rcases h with h|h <;> rw [h] <;> rfl
theorem Tk {k:Nat}:∀ q j,q<k+1→j<1→capp k (fun _ _=>Value.int .i64 1073741824) (fun k' j=>([[Value.int .i64 1073741824]].getD k' []).getD j undef) q j = .int .i64 1073741824:=by
  intro q j hq hj
  have:j=0:=by omega
  subst this
  unfold capp
  by_cases h:q<k
  · rw [if_pos h]
  · rw [if_neg h,show q-k=0 by omega];rfl
theorem Hg {l:List Int} {x:Int} {v:Value} (hv:v = .int .i64 x):∀ k j,k<l.length+1→j<1→capp l.length (icl l) (fun k' j=>([[v]].getD k' []).getD j undef) k j=icl (l++[x]) k j:=by
  intro k j hk hj
  have:j=0:=by omega
  subst this
  subst hv
  unfold capp icl
  by_cases h:k<l.length
  · rw [if_pos h,List.getD_eq_getElem?_getD,List.getD_eq_getElem?_getD,List.getElem?_append_left h]
  · have e:k=l.length:=by omega
    subst e
    rw [if_neg h,Nat.sub_self,List.getD_eq_getElem?_getD,List.getElem?_append_right (Nat.le_refl _),Nat.sub_self]
    rfl
theorem cW (n lo hi:Int) (w:World) :
    Calls Tryz.prog 55 [.int .i64 n,.int .i64 lo,.int .i64 hi].toArray w (Ret (fun v w'=>v = .bool (decide (lo≤n)&&decide (n≤hi))∧w'=w)):=by
 refine enter Tryz.func55 rfl Tryz.ntmps55 rfl (fun a H=>?_)
 have S:=St.start w
 refine sS H fun K1 k1=>sr 1 rfl<|sE ?_;clear H a;intro a H
 refine k1 _ ?_;clear k1 K1
 replace H:=H.keep [0,1,2] rfl
 refine sS H fun K2 k2=>sr 4 rfl<|sg 3 3 10 13 true G G (fun hg4=>sy hg4<|sr 1 rfl<|sy hg4<|sr 1 rfl<|sy hg4<|sr 1 rfl<|sz 3 G G G)<|sa G G G<|sr 1 rfl<|sE ?_;clear H a;intro a H
 refine k2 _ ?_;clear k2 K2
 refine wp_ret ?_
 refine ret1 (fn:=Tryz.f55) rfl H rfl ?_
 exact ⟨rfl,rfl⟩
theorem uQ (n:Int) (w:World) :
    Calls Tryz.prog 60 [.int .i64 n].toArray w (Ret (fun v w'=>v = .bool (decide (0≤n)&&decide (n≤4095))∧w'=w)):=by
 refine enter Tryz.func60 rfl Tryz.ntmps60 rfl (fun a H=>?_)
 have S:=St.start w
 refine sS H fun K1 k1=>sr 1 rfl<|sE ?_;clear H a;intro a H
 refine k1 _ ?_;clear k1 K1
 refine sS H fun K2 k2=>sr 1 rfl<|sc rfl Tryz.func55 G G (cW _ _ _ _)<|sr 1 rfl<|sE ?_;clear H a;intro a H
 refine k2 _ ?_;clear k2 K2
 refine wp_ret ?_
 refine ret1 (fn:=Tryz.f60) rfl H rfl ?_
 exact ⟨rfl,rfl⟩
theorem zL (out m:Int) (w:World) (hm:0≤m∧m<64) :
    Calls Tryz.prog 109 [.int .i64 out,.int .i64 m].toArray w (Ret (fun v w'=>v = .bool (decide (out/2^m.toNat%2=1))∧w'=w)):=by
 refine enter Tryz.func109 rfl Tryz.ntmps109 rfl (fun a H=>?_)
 have S:=St.start w
 refine sS H fun K1 k1=>sr 1 rfl<|sE ?_;clear H a;intro a H
 refine k1 _ ?_;clear k1 K1
 refine sS H fun K2 k2=>sr 2 rfl<|sd (iJ Tryz.underlying3 Tryz.underlying100 rfl (by first|omega|exact IntWalk.i64_in _ (by omega)|exact IntWalk.u64_in _ (by omega)))<|sd (lM G G (by omega) (by omega))<|sd (jY G G)<|sr 2 rfl<|sE ?_;clear H a;intro a H
 refine k2 _ ?_;clear k2 K2
 refine wp_ret ?_
 refine ret1 (fn:=Tryz.f109) rfl H rfl ?_
 exact ⟨rfl,rfl⟩
theorem Bj (l:List Int) (A:Option Addr) (cp:Nat) (x:Int) (w:World) (hl:InS w noF 1 A l.length (icl l)) (hn:l.length≤9223372036854775807) :
    Calls Tryz.prog 56 [.slice A l.length cp,.int .i64 x].toArray w (Ret (fun u w'=>u = .bool (hasI l x)∧St w noF [] w')):=by
 refine enter Tryz.func56 rfl Tryz.ntmps56 rfl (fun a H=>?_)
 have S:=St.start w
 refine sS H fun K1 k1=>sr 1 rfl<|sE ?_;clear H a;intro a H
 refine k1 _ ?_;clear k1 K1
 refine wp_seq_k fun K2 k2=>?_
 refine sS H fun K3 k3=>sr 1 rfl<|sE ?_;clear H a;intro a H
 refine k3 _ ?_;clear k3 K3
 refine wp_block ?_
 refine loop_st (X:=Nat) (R0:=_) [0,1] H rfl (fun k=>[(5,.int .i64 (k:Int))]) (fun k=>[]) (fun g k=>k≤l.length∧g+k=l.length∧(l.take k).any (fun y=>decide (x=y))=false) (l.length) 0 ?_ (S.sel [] G G) (H.keep [5,0,1] rfl) ?_
 · exact ⟨by omega,by omega,rfl⟩
 clear H S a
 intro g1 x1 a w1 hp S H K4 k4
 obtain ⟨k,rfl⟩:∃ y,y=x1:=⟨_,rfl⟩
 refine wp_seq_k fun K5 k5=>?_
 refine sS H fun K6 k6=>sr 2 rfl<|sL aO rfl<|sr 1 rfl<|sE ?_;clear H a;intro a H
 refine k6 _ ?_;clear k6 K6
 refine condL H rfl (fun hc1=>?_) (fun hc1=>?_)
 ·skip
  refine wp_skip ?_
  refine k5 _ _ ?_
  refine wp_seq_k fun K7 k7=>?_
  refine wp_block ?_
  replace H:=H.keep [0,1,5] rfl
  refine sS H fun K8 k8=>sr 2 rfl<|si aO aW G G (hl.adr (by omega)) (by omega)<|slm aB rfl (hl.rd S (by omega) (by omega))<|sr 2 rfl<|sE ?_;clear H a;intro a H
  refine k8 _ ?_;clear k8 K8
  refine condE H rfl (fun hc2=>?_) (fun hc2=>?_)
  ·skip
   refine sS H fun K9 k9=>sr 1 rfl<|sE ?_;clear H a;intro a H
   refine k9 _ ?_;clear k9 K9
   refine wp_ret ?_
   refine ret1 (fn:=Tryz.f56) rfl H rfl ?_
   exact ⟨by rw [Qh (k:=k) (by omega) (by omega)],(S.sel [] G G)⟩
  refine wp_skip ?_
  refine k7 _ _ ?_
  replace H:=H.keep [0,1,5] rfl
  refine sO H<|sr 1 rfl<|sd (aG G G (by unfold i64ok;omega))<|sr 1 rfl<|sE ?_;clear H a;intro a H
  exact k4 (g1-1) (k+1) a _ (by omega) (⟨by omega,by omega,Ct (by omega) hp.2.2 (by omega)⟩) (S.sel [] G G) (H.keep [5,0,1] rfl)
 refine wp_exit ?_
 refine k2 _ _ ?_
 refine sS H fun K11 k11=>sr 1 rfl<|sE ?_;clear H a;intro a H
 refine k11 _ ?_;clear k11 K11
 refine wp_ret ?_
 refine ret1 (fn:=Tryz.f56) rfl H rfl ?_
 exact ⟨by unfold hasI;rw [←List.take_of_length_le (l:=l) (i:=k) (by omega),hp.2.2],(S.sel [] G G)⟩
theorem lD (pl:Int) (ps:List Psg) (PA:Option Addr) (pc:Nat) (xs:List Int) (XA:Option Addr) (xc:Nat) (w:World) (hps:InS w noF 7 PA ps.length (pcell ps)) (hpn:ps.length≤9223372036854775807) (hxs:InS w noF 1 XA xs.length (icl xs)) (hxn:xs.length≤9223372036854775807) :
    Calls Tryz.prog 41 [.agg [.int .i64 pl,.slice PA ps.length pc,.slice XA xs.length xc].toArray].toArray w (Ret (fun v w'=>v = .int .i64 (stE pl ps xs)∧St w noF [] w')):=by
 refine enter Tryz.func41 rfl Tryz.ntmps41 rfl (fun a H=>?_)
 have S:=St.start w
 refine aA fun K1 k1=>?_
 refine aP H rfl S G G ?_;clear H a S;intro b1 _ a hb1 hbw1 S H
 refine ls 1 H<|sr 1 rfl<|sE ?_;clear H a;intro a H
 refine k1 _ _ ?_;clear k1 K1
 refine wp_seq_k fun K2 k2=>?_
 replace H:=H.keep [1] rfl
 refine sS H fun K3 k3=>sf dK rfl<|sl S 0 aB G G G<|sc rfl Tryz.func55 G G (cW _ _ _ _)<|sr 2 rfl<|sg 4 4 11 15 false G G (fun hg5=>by
     have hq5:=hg5;try simp only [o1,o2,o3,o4,o5,o6,o7,o8,o9,oa] at hq5
     exact sy hg5<|sf eE rfl<|sy hg5<|sl S 0 fD G G G<|sy hg5<|sL eR rfl<|sy hg5<|sr 1 rfl<|sz 4 G G G)<|so G G G<|sE ?_;clear H a;intro a H
 refine k3 _ ?_;clear k3 K3
 refine aT H rfl (fun hc1=>?_) (fun hc1=>?_)
 ·skip
  try simp only [o1,o2,o3,o4,o5,o6,o7,o8,o9,oa] at hc1
  replace H:=H.keep [] rfl
  refine sS H fun K4 k4=>sr 1 rfl<|sE ?_;clear H a;intro a H
  refine k4 _ ?_;clear k4 K4
  refine wp_ret ?_
  refine ret1 (fn:=Tryz.f41) rfl H rfl ?_
  exact ⟨congrArg _ (Ij (by omega)).symm,(S.sel [] G G)⟩
 try simp only [o1,o2,o3,o4,o5,o6,o7,o8,o9,oa] at hc1
 refine wp_skip ?_
 refine k2 _ _ ?_
 refine sS H fun K5 k5=>sr 1 rfl<|sE ?_;clear H a;intro a H
 refine k5 _ ?_;clear k5 K5
 refine wp_seq_k fun K6 k6=>?_
 refine sS H fun K7 k7=>sr 1 rfl<|sE ?_;clear H a;intro a H
 refine k7 _ ?_;clear k7 K7
 refine wp_block ?_
 replace S:=S.newNil 3 1 (icl [])
 refine loop_st (X:=Nat×List Int×Option Addr×Nat) (R0:=_) [1] H rfl (fun ⟨k,ml,A9,c9⟩=>[(3,.slice A9 ml.length c9),(4,.int .i64 (k:Int))]) (fun ⟨k,ml,A9,c9⟩=>[ownM 3 1 A9 ml.length c9 (icl ml)]) (fun g ⟨k,ml,A9,c9⟩=>k≤ps.length∧g+k=ps.length∧allN (pasOk pl ps) k=true∧MList ps k ml) (ps.length) (0,[],none,0) ?_ (S.sel [0,1] G G) (H.keep [3,4,1] rfl) ?_
 · exact ⟨by omega,by omega,rfl,MList.nil⟩
 clear H S a
 intro g1 x1 a w1 hp S H K8 k8
 obtain ⟨k,ml,A9,c9⟩:=x1
 dsimp only at hp S H
 obtain ⟨hkl,hgk,hA,hM⟩:=hp
 refine wp_seq_k fun K9 k9=>?_
 refine sS H fun K10 k10=>sr 1 rfl<|sf eE rfl<|sl S 1 fD G G G<|sL eR rfl<|sr 1 rfl<|sE ?_;clear H a;intro a H
 refine k10 _ ?_;clear k10 K10
 refine condL H rfl (fun hc2=>?_) (fun hc2=>?_)
 ·skip
  refine wp_skip ?_
  refine k9 _ _ ?_
  refine wp_seq_k fun K11 k11=>?_
  refine wp_block ?_
  replace H:=H.keep [1,3,4] rfl
  refine aA fun K12 k12=>?_
  refine ls 5 H<|sf eE rfl<|sl S 1 fD G G G<|sr 1 rfl<|si eR dD G G (hps.adr (by omega)) (by omega)<|sd ((aU fO dD rfl S hps (by omega) (by omega)))<|sE ?_;clear H a;intro a H
  refine aM H rfl S kK ?_;clear H a S;intro b5 _ a hb5 hbw5 S H
  refine aH H S (i:=0) G G G G dD G G ?_
  clear H a S;intro _ a S H
  refine k12 _ _ ?_;clear k12 K12
  refine wp_seq_k fun K13 k13=>?_
  replace H:=H.keep [1,3,4,5] rfl
  refine sS H fun K14 k14=>sf fA rfl<|sl S 0 aB G G G<|sf dK rfl<|sl S 2 aB G G G<|sd (aS G G (by unfold i64ok;omega))<|sc rfl Tryz.func55 G G (cW _ _ _ _)<|sr 2 rfl<|sg 7 7 36 43 false G G (fun hg8=>by
      have hq8:=hg8;try simp only [o1,o2,o3,o4,o5,o6,o7,o8,o9,oa] at hq8
      exact sy hg8<|sf eU rfl<|sy hg8<|sl S 0 aB G G G<|sy hg8<|sf dK rfl<|sy hg8<|sl S 2 aB G G G<|sy hg8<|sd (aS G G (by unfold i64ok;omega))<|sy hg8<|sc rfl Tryz.func55 G G (cW _ _ _ _)<|sy hg8<|sr 1 rfl<|sz 7 G G G)<|so G G G<|sr 1 rfl<|sg 5 16 45 50 false G G (fun hg17=>by
      have hq17:=hg17;try simp only [o1,o2,o3,o4,o5,o6,o7,o8,o9,oa] at hq17
      exact sy hg17<|sf fA rfl<|sy hg17<|sl S 0 aB G G G<|sy hg17<|sf eU rfl<|sy hg17<|sl S 0 aB G G G<|sy hg17<|sr 1 rfl<|sz 5 G G G)<|so G G G<|sr 1 rfl<|sg 4 23 52 56 false G G (fun hg24=>by
      have hq24:=hg24;try simp only [o1,o2,o3,o4,o5,o6,o7,o8,o9,oa] at hq24
      exact sy hg24<|sf iO rfl<|sy hg24<|sl S 0 aB G G G<|sy hg24<|sc rfl Tryz.func55 G G (cW _ _ _ _)<|sy hg24<|sr 1 rfl<|sz 4 G G G)<|so G G G<|sr 1 rfl<|sg 4 29 58 62 false G G (fun hg30=>by
      have hq30:=hg30;try simp only [o1,o2,o3,o4,o5,o6,o7,o8,o9,oa] at hq30
      exact sy hg30<|sf qP rfl<|sy hg30<|sl S 0 aB G G G<|sy hg30<|sc rfl Tryz.func55 G G (cW _ _ _ _)<|sy hg30<|sr 1 rfl<|sz 4 G G G)<|so G G G<|sr 1 rfl<|sg 4 35 64 68 false G G (fun hg36=>by
      have hq36:=hg36;try simp only [o1,o2,o3,o4,o5,o6,o7,o8,o9,oa] at hq36
      exact sy hg36<|sf eV rfl<|sy hg36<|sl S 0 aB G G G<|sy hg36<|sc rfl Tryz.func55 G G (cW _ _ _ _)<|sy hg36<|sr 1 rfl<|sz 4 G G G)<|so G G G<|sE ?_;clear H a;intro a H
  refine k14 _ ?_;clear k14 K14
  refine aT H rfl (fun hc3=>?_) (fun hc3=>?_)
  ·skip
   try simp only [o1,o2,o3,o4,o5,o6,o7,o8,o9,oa] at hc3
   replace H:=H.keep [] rfl
   refine sS H fun K15 k15=>sr 1 rfl<|sE ?_;clear H a;intro a H
   refine k15 _ ?_;clear k15 K15
   refine wp_ret ?_
   refine ret1 (fn:=Tryz.f41) rfl H rfl ?_
   exact ⟨congrArg _ (mR (k:=k) (by omega) (by unfold pasOk;rw [Bool.and_eq_false_iff];exact .inl (gU (by omega)))).symm,(S.sel [] G G)⟩
  try simp only [o1,o2,o3,o4,o5,o6,o7,o8,o9,oa] at hc3
  refine wp_skip ?_
  refine k13 _ _ ?_
  refine wp_seq_k fun K16 k16=>?_
  refine sS H fun K17 k17=>sf eV rfl<|sl S 0 aB G G G<|sr 2 rfl<|sg 3 3 73 76 false G G (fun hg4=>by
      have hq4:=hg4;try simp only [o1,o2,o3,o4,o5,o6,o7,o8,o9,oa] at hq4
      exact sy hg4<|sf eV rfl<|sy hg4<|sl S 0 aB G G G<|sy hg4<|sr 1 rfl<|sz 3 G G G)<|so G G G<|sE ?_;clear H a;intro a H
  refine k17 _ ?_;clear k17 K17
  refine aT H rfl (fun hc4=>?_) (fun hc4=>?_)
  ·skip
   try simp only [o1,o2,o3,o4,o5,o6,o7,o8,o9,oa] at hc4
   refine wp_seq_k fun K18 k18=>?_
   replace H:=H.keep [1,3,4,5] rfl
   refine aA fun K19 k19=>?_
   refine ls 2 H<|sf eW rfl<|sl S 0 aB G G G<|sE ?_;clear H a;intro a H
   refine aC H G G Tryz.func55 G G (cW _ _ _ _) ?_;clear H a
   rintro _ _ a ⟨rfl,rfl⟩ H
   refine ls 2 H<|sr 2 rfl<|sE ?_;clear H a;intro a H
   apply eJ (i:=4) (g:=82) (t:=86) (b:=false) 4 H S G G (by kernel_rfl) (by kernel_rfl) G G
   case h1=>
    intro hg5
    have hq5:=hg5;try simp only [o1,o2,o3,o4,o5,o6,o7,o8,o9,oa] at hq5
    refine ls 3 H<|sy hg5<|sr 1 rfl<|sy hg5<|sf eW rfl<|sy hg5<|sl S 0 aB G G G<|sE ?_;intro a H
    refine fL H G G (by assumption) ?_
    refine aC H G G Tryz.func56 G G (Bj ml A9 c9 _ _ (ownM.inS S (i:=1) rfl) (by have:=hM.1;omega)) ?_
    rintro _ _ a ⟨rfl,S2⟩ H
    replace S:=S.call S2;clear S2
    exact wpList_nil ⟨H.strip 4 G G,(S.sel [0,1,2] G G)⟩
   clear H a S;intro a _ H S
   refine ls 1 H<|so G G G<|sE ?_;clear H a;intro a H
   refine k19 _ _ ?_;clear k19 K19
   refine aT H rfl (fun hc5=>?_) (fun hc5=>?_)
   ·skip
    try simp only [o1,o2,o3,o4,o5,o6,o7,o8,o9,oa] at hc5
    replace H:=H.keep [] rfl
    refine sS H fun K20 k20=>sr 1 rfl<|sE ?_;clear H a;intro a H
    refine k20 _ ?_;clear k20 K20
    refine wp_ret ?_
    refine ret1 (fn:=Tryz.f41) rfl H rfl ?_
    exact ⟨congrArg _ (mR (k:=k) (by omega) (Yn hM hc5 hc4)).symm,(S.sel [] G G)⟩
   try simp only [o1,o2,o3,o4,o5,o6,o7,o8,o9,oa] at hc5
   have hz:=hM.fresh hc5.1.1 hc5.2
   refine wp_skip ?_
   refine k18 _ _ ?_
   refine cE ?_
   refine ls 3 H<|sr 1 rfl<|sf eW rfl<|sl S 0 aB G G G<|sE ?_;clear H a;intro a H
   refine aL H rfl S aO aW dQ G G G G G G G G G ?_;clear H a S;intro A1 _ a hA1 S H
   refine aY H rfl S aO aW dQ kJ G G (i:=2) G G G (ownM.inS S (i:=0) rfl) (gJ (w8one rfl)) (by have:=hM.1;omega) (by have:=hM.1;omega) ?_;clear H a S;intro A2 c2 _ a S H
   replace S:=S.recell (i:=2) rfl (cell':=icl (ml++[dB ps k])) (fun q j hq hj=>Hg rfl q j hq hj)
   rw [show ml.length+1=(ml++[dB ps k]).length by simp] at H S
   refine ls 1 H<|sr 1 rfl<|sE ?_;clear H a;intro a H
   refine k16 _ _ ?_
   replace H:=H.keep [1,3,4,5] rfl
   refine sS H fun K22 k22=>sf eV rfl<|sl S 1 aB G G G<|sr 1 rfl<|sE ?_;clear H a;intro a H
   refine k22 _ ?_;clear k22 K22
   refine condE H rfl (fun hc6=>?_) (fun hc6=>?_)
   ·skip
    refine sS H fun K23 k23=>sf jW rfl<|sl S 1 aB G G G<|sc rfl Tryz.func55 G G (cW _ _ _ _)<|sr 1 rfl<|sE ?_;clear H a;intro a H
    refine k23 _ ?_;clear k23 K23
    refine aT H rfl (fun hc7=>?_) (fun hc7=>?_)
    ·skip
     try simp only [o1,o2,o3,o4,o5,o6,o7,o8,o9,oa] at hc7
     refine sS H fun K24 k24=>sr 1 rfl<|sE ?_;clear H a;intro a H
     refine k24 _ ?_;clear k24 K24
     refine wp_ret ?_
     refine ret1 (fn:=Tryz.f41) rfl H rfl ?_
     exact ⟨congrArg _ (mR (k:=k) (by omega) (by unfold pasOk;rw [Bool.and_eq_false_iff];exact .inl (gU (by omega)))).symm,(S.sel [] G G)⟩
    try simp only [o1,o2,o3,o4,o5,o6,o7,o8,o9,oa] at hc7
    refine wp_skip ?_
    refine k11 _ _ ?_
    replace H:=H.keep [1,3,4] rfl
    refine sO H<|sr 1 rfl<|sd (aG G G (by unfold i64ok;omega))<|sr 1 rfl<|sE ?_;clear H a;intro a H
    exact k8 (g1-1) (k+1,_,_,_) a _ (by omega) (by first|exact ⟨by omega,by omega,dA hA (rM (bS.2 (by omega)) hz),hM.add⟩|exact ⟨by omega,by omega,dA hA (rN (bS.2 (by omega)) (by omega)),hM.skip (by unfold dB;omega)⟩) (S.sel [2,3] G G) (H.keep [3,4,1] rfl)
   refine sS H fun K26 k26=>sf jW rfl<|sl S 1 aB G G G<|sr 1 rfl<|sE ?_;clear H a;intro a H
   refine k26 _ ?_;clear k26 K26
   refine condN H rfl (fun hc8=>?_) (fun hc8=>?_)
   ·skip
    refine sS H fun K27 k27=>sr 1 rfl<|sE ?_;clear H a;intro a H
    refine k27 _ ?_;clear k27 K27
    refine wp_ret ?_
    refine ret1 (fn:=Tryz.f41) rfl H rfl ?_
    exact ⟨congrArg _ (mR (k:=k) (by omega) (by unfold pasOk;rw [Bool.and_eq_false_iff];exact .inl (gU (by omega)))).symm,(S.sel [] G G)⟩
   refine wp_skip ?_
   refine k11 _ _ ?_
   replace H:=H.keep [1,3,4] rfl
   refine sO H<|sr 1 rfl<|sd (aG G G (by unfold i64ok;omega))<|sr 1 rfl<|sE ?_;clear H a;intro a H
   exact k8 (g1-1) (k+1,_,_,_) a _ (by omega) (by first|exact ⟨by omega,by omega,dA hA (rM (bS.2 (by omega)) hz),hM.add⟩|exact ⟨by omega,by omega,dA hA (rN (bS.2 (by omega)) (by omega)),hM.skip (by unfold dB;omega)⟩) (S.sel [2,3] G G) (H.keep [3,4,1] rfl)
  try simp only [o1,o2,o3,o4,o5,o6,o7,o8,o9,oa] at hc4
  refine sS H fun K29 k29=>sf eW rfl<|sl S 0 aB G G G<|sr 1 rfl<|sE ?_;clear H a;intro a H
  refine k29 _ ?_;clear k29 K29
  refine condN H rfl (fun hc9=>?_) (fun hc9=>?_)
  ·skip
   refine sS H fun K30 k30=>sr 1 rfl<|sE ?_;clear H a;intro a H
   refine k30 _ ?_;clear k30 K30
   refine wp_ret ?_
   refine ret1 (fn:=Tryz.f41) rfl H rfl ?_
   exact ⟨congrArg _ (mR (k:=k) (by omega) (by unfold pasOk;rw [Bool.and_eq_false_iff];exact .inl (gU (by omega)))).symm,(S.sel [] G G)⟩
  refine wp_skip ?_
  refine k16 _ _ ?_
  replace H:=H.keep [1,3,4,5] rfl
  refine sS H fun K31 k31=>sf eV rfl<|sl S 0 aB G G G<|sr 1 rfl<|sE ?_;clear H a;intro a H
  refine k31 _ ?_;clear k31 K31
  refine condE H rfl (fun hc10=>?_) (fun hc10=>?_)
  ·skip
   refine sS H fun K32 k32=>sf jW rfl<|sl S 0 aB G G G<|sc rfl Tryz.func55 G G (cW _ _ _ _)<|sr 1 rfl<|sE ?_;clear H a;intro a H
   refine k32 _ ?_;clear k32 K32
   refine aT H rfl (fun hc11=>?_) (fun hc11=>?_)
   ·skip
    try simp only [o1,o2,o3,o4,o5,o6,o7,o8,o9,oa] at hc11
    refine sS H fun K33 k33=>sr 1 rfl<|sE ?_;clear H a;intro a H
    refine k33 _ ?_;clear k33 K33
    refine wp_ret ?_
    refine ret1 (fn:=Tryz.f41) rfl H rfl ?_
    exact ⟨congrArg _ (mR (k:=k) (by omega) (by unfold pasOk;rw [Bool.and_eq_false_iff];exact .inl (gU (by omega)))).symm,(S.sel [] G G)⟩
   try simp only [o1,o2,o3,o4,o5,o6,o7,o8,o9,oa] at hc11
   refine wp_skip ?_
   refine k11 _ _ ?_
   replace H:=H.keep [1,3,4] rfl
   refine sO H<|sr 1 rfl<|sd (aG G G (by unfold i64ok;omega))<|sr 1 rfl<|sE ?_;clear H a;intro a H
   exact k8 (g1-1) (k+1,_,_,_) a _ (by omega) (by first|exact ⟨by omega,by omega,dA hA (rM (bS.2 (by omega)) hz),hM.add⟩|exact ⟨by omega,by omega,dA hA (rN (bS.2 (by omega)) (by omega)),hM.skip (by unfold dB;omega)⟩) (S.sel [1,2] G G) (H.keep [3,4,1] rfl)
  refine sS H fun K35 k35=>sf jW rfl<|sl S 0 aB G G G<|sr 1 rfl<|sE ?_;clear H a;intro a H
  refine k35 _ ?_;clear k35 K35
  refine condN H rfl (fun hc12=>?_) (fun hc12=>?_)
  ·skip
   refine sS H fun K36 k36=>sr 1 rfl<|sE ?_;clear H a;intro a H
   refine k36 _ ?_;clear k36 K36
   refine wp_ret ?_
   refine ret1 (fn:=Tryz.f41) rfl H rfl ?_
   exact ⟨congrArg _ (mR (k:=k) (by omega) (by unfold pasOk;rw [Bool.and_eq_false_iff];exact .inl (gU (by omega)))).symm,(S.sel [] G G)⟩
  refine wp_skip ?_
  refine k11 _ _ ?_
  replace H:=H.keep [1,3,4] rfl
  refine sO H<|sr 1 rfl<|sd (aG G G (by unfold i64ok;omega))<|sr 1 rfl<|sE ?_;clear H a;intro a H
  exact k8 (g1-1) (k+1,_,_,_) a _ (by omega) (by first|exact ⟨by omega,by omega,dA hA (rM (bS.2 (by omega)) hz),hM.add⟩|exact ⟨by omega,by omega,dA hA (rN (bS.2 (by omega)) (by omega)),hM.skip (by unfold dB;omega)⟩) (S.sel [1,2] G G) (H.keep [3,4,1] rfl)
 refine wp_exit ?_
 refine k6 _ _ ?_
 refine wp_seq_k fun K38 k38=>?_
 refine sS H fun K39 k39=>sr 1 rfl<|sE ?_;clear H a;intro a H
 refine k39 _ ?_;clear k39 K39
 refine wp_block ?_
 refine loop_st (X:=Nat) (R0:=_) [1] H rfl (fun k2=>[(6,.int .i64 (k2:Int))]) (fun k2=>[]) (fun g k2=>k2≤xs.length∧g+k2=xs.length∧allN (exOk pl xs) k2=true) (xs.length) 0 ?_ (S.sel [0,1] G G) (H.keep [6,1] rfl) ?_
 · exact ⟨by omega,by omega,rfl⟩
 clear H S a
 intro g2 x2 a w2 hp S H K40 k40
 obtain ⟨k2,rfl⟩:∃ y,y=x2:=⟨_,rfl⟩
 refine wp_seq_k fun K41 k41=>?_
 refine sS H fun K42 k42=>sr 1 rfl<|sf gR rfl<|sl S 1 dL G G G<|sL aO rfl<|sr 1 rfl<|sE ?_;clear H a;intro a H
 refine k42 _ ?_;clear k42 K42
 refine condL H rfl (fun hc13=>?_) (fun hc13=>?_)
 ·skip
  refine wp_skip ?_
  refine k41 _ _ ?_
  refine wp_seq_k fun K43 k43=>?_
  refine wp_block ?_
  replace H:=H.keep [1,6] rfl
  replace S:=S.drew
  refine sD H fun K44 k44=>sf gR rfl<|sl S 1 dL G G G<|sr 1 rfl<|si aO aW G G (hxs.adr (by omega)) (by omega)<|slm aB rfl (hxs.rd S (by omega) (by omega))<|sf dK rfl<|sl S 1 aB G G G<|sd (aS G G (by unfold i64ok;omega))<|sc rfl Tryz.func55 G G (cW _ _ _ _)<|sr 2 rfl<|sg 16 10 123 139 false G G (fun hg11=>by
      have hq11:=hg11;try simp only [o1,o2,o3,o4,o5,o6,o7,o8,o9,oa] at hq11
      exact sy hg11<|sr 1 rfl<|sy hg11<|sr 1 rfl<|sy hg11<|sr 1 rfl<|sg 12 13 126 138 true G G (fun hg14=>by
           have hq14:=hg14;try simp only [o1,o2,o3,o4,o5,o6,o7,o8,o9,oa] at hq14
           exact sy hg14<|sf gR rfl<|sy hg14<|sl S 1 dL G G G<|sy hg14<|sr 1 rfl<|sy hg14<|si aO aW G G (hxs.adr (by omega)) (by omega)<|sy hg14<|slm aB rfl (hxs.rd S (by omega) (by omega))<|sy hg14<|sf gR rfl<|sy hg14<|sl S 1 dL G G G<|sy hg14<|sr 1 rfl<|sy hg14<|sd (aS G G (by unfold i64ok;omega))<|sy hg14<|sI aO aW G G (hxs.adr (by omega)) (by omega) (by omega)<|sy hg14<|slm aB rfl (hxs.rd S (by omega) (by omega))<|sy hg14<|sr 1 rfl<|sz 12 G G G)<|sy hg11<|sa G G G<|sz 5 G G G)<|so G G G<|sE ?_;clear H a;intro a H
  refine k44 _ ?_;clear k44 K44
  refine aT H rfl (fun hc14=>?_) (fun hc14=>?_)
  ·skip
   try simp only [o1,o2,o3,o4,o5,o6,o7,o8,o9,oa] at hc14
   rw [show ((k2:Int)-1).toNat=k2-1 by omega] at hc14
   replace H:=H.keep [] rfl
   refine sS H fun K45 k45=>sr 1 rfl<|sE ?_;clear H a;intro a H
   refine k45 _ ?_;clear k45 K45
   refine wp_ret ?_
   refine ret1 (fn:=Tryz.f41) rfl H rfl ?_
   exact ⟨congrArg _ (aAe (k:=k2) (by omega) (Yp (by omega))).symm,(S.sel [] G G)⟩
  try simp only [o1,o2,o3,o4,o5,o6,o7,o8,o9,oa] at hc14
  rw [show ((k2:Int)-1).toNat=k2-1 by omega] at hc14
  refine wp_skip ?_
  refine k43 _ _ ?_
  refine sO H<|sr 1 rfl<|sd (aG G G (by unfold i64ok;omega))<|sr 1 rfl<|sE ?_;clear H a;intro a H
  exact k40 (g2-1) (k2+1) a _ (by omega) (⟨by omega,by omega,dA hp.2.2 (Yo (by omega))⟩) (S.sel [0,1] G G) (H.keep [6,1] rfl)
 refine wp_exit ?_
 refine k38 _ _ ?_
 refine sS H fun K47 k47=>sr 1 rfl<|sE ?_;clear H a;intro a H
 refine k47 _ ?_;clear k47 K47
 refine wp_ret ?_
 refine ret1 (fn:=Tryz.f41) rfl H rfl ?_
 have hk9:k=ps.length:=by omega
 have hk8:k2=xs.length:=by omega
 exact ⟨congrArg _ (aAf (by omega) (hk9 ▸ hA) (hk8 ▸ hp.2.2)).symm,(S.sel [] G G)⟩
theorem zM (p:Psg) (f:Int) (w:World) :
    Calls Tryz.prog 93 [.agg [.int .i64 p.a,.int .i64 p.b,.int .i64 p.kind,.int .i64 p.ticks,.int .i64 p.wide,.int .i64 p.mach,.int .i64 p.still].toArray,.int .i64 f].toArray w (Ret (fun v w'=>v = .int .i64 (othr p f)∧St w noF [] w')):=by
 refine enter Tryz.func93 rfl Tryz.ntmps93 rfl (fun a H=>?_)
 have S:=St.start w
 refine aA fun K1 k1=>?_
 refine aP H rfl S G G ?_;clear H a S;intro b2 _ a hb2 hbw2 S H
 refine ls 1 H<|sr 1 rfl<|sE ?_;clear H a;intro a H
 refine k1 _ _ ?_;clear k1 K1
 refine wp_seq_k fun K2 k2=>?_
 refine sS H fun K3 k3=>sf fA rfl<|sl S 0 aB G G G<|sr 2 rfl<|sE ?_;clear H a;intro a H
 refine k3 _ ?_;clear k3 K3
 refine condE H rfl (fun hc1=>?_) (fun hc1=>?_)
 ·skip
  refine sS H fun K4 k4=>sf eU rfl<|sl S 0 aB G G G<|sr 1 rfl<|sE ?_;clear H a;intro a H
  refine k4 _ ?_;clear k4 K4
  refine wp_ret ?_
  refine ret1 (fn:=Tryz.f93) rfl H rfl ?_
  refine ⟨congrArg (Value.int .i64) ?_,(S.sel [] G G)⟩;unfold othr;rw [if_pos hc1]
 refine wp_skip ?_
 refine k2 _ _ ?_
 refine wp_seq_k fun K5 k5=>?_
 replace H:=H.keep [1,2] rfl
 refine sS H fun K6 k6=>sf eU rfl<|sl S 0 aB G G G<|sr 2 rfl<|sE ?_;clear H a;intro a H
 refine k6 _ ?_;clear k6 K6
 refine condE H rfl (fun hc2=>?_) (fun hc2=>?_)
 ·skip
  refine sS H fun K7 k7=>sf fA rfl<|sl S 0 aB G G G<|sr 1 rfl<|sE ?_;clear H a;intro a H
  refine k7 _ ?_;clear k7 K7
  refine wp_ret ?_
  refine ret1 (fn:=Tryz.f93) rfl H rfl ?_
  refine ⟨congrArg (Value.int .i64) ?_,(S.sel [] G G)⟩;unfold othr;rw [if_neg hc1,if_pos hc2]
 refine wp_skip ?_
 refine k5 _ _ ?_
 refine sS H fun K8 k8=>sr 1 rfl<|sE ?_;clear H a;intro a H
 refine k8 _ ?_;clear k8 K8
 refine wp_ret ?_
 refine ret1 (fn:=Tryz.f93) rfl H rfl ?_
 refine ⟨congrArg (Value.int .i64) ?_,(S.sel [] G G)⟩;unfold othr;rw [if_neg hc1,if_neg hc2]
theorem xO (p:Psg) (out:Int) (help:Bool) (w:World) (hm:p.kind=4→0≤p.mach∧p.mach≤11) :
    Calls Tryz.prog 94 [.agg [.int .i64 p.a,.int .i64 p.b,.int .i64 p.kind,.int .i64 p.ticks,.int .i64 p.wide,.int .i64 p.mach,.int .i64 p.still].toArray,.int .i64 out,.bool help].toArray w (Ret (fun v w'=>v = .bool (opn out help p)∧St w noF [] w')):=by
 refine enter Tryz.func94 rfl Tryz.ntmps94 rfl (fun a H=>?_)
 have S:=St.start w
 refine aA fun K1 k1=>?_
 refine aP H rfl S G G ?_;clear H a S;intro b3 _ a hb3 hbw3 S H
 refine ls 1 H<|sr 1 rfl<|sE ?_;clear H a;intro a H
 refine k1 _ _ ?_;clear k1 K1
 replace H:=H.keep [1,2,3] rfl
 refine sS H fun K2 k2=>sf eV rfl<|sl S 0 aB G G G<|sr 2 rfl<|sg 10 3 10 20 false G G (fun hg4=>by
     have hq4:=hg4;try simp only [o1,o2,o3,o4,o5,o6,o7,o8,o9,oa] at hq4
     exact sy hg4<|sf eV rfl<|sy hg4<|sl S 0 aB G G G<|sy hg4<|sr 1 rfl<|sy hg4<|sr 1 rfl<|sg 5 7 14 19 true G G (fun hg8=>by
          have hq8:=hg8;try simp only [o1,o2,o3,o4,o5,o6,o7,o8,o9,oa] at hq8
          exact sy hg8<|sr 1 rfl<|sy hg8<|sf eW rfl<|sy hg8<|sl S 0 aB G G G<|sy hg8<|sc rfl Tryz.func109 G G (zL _ _ _ (by omega))<|sy hg8<|sr 1 rfl<|sz 5 G G G)<|sy hg4<|sa G G G<|sz 6 G G G)<|so G G G<|sr 1 rfl<|sg 6 15 22 28 false G G (fun hg16=>by
     have hq16:=hg16;try simp only [o1,o2,o3,o4,o5,o6,o7,o8,o9,oa] at hq16
     exact sy hg16<|sf eV rfl<|sy hg16<|sl S 0 aB G G G<|sy hg16<|sr 1 rfl<|sy hg16<|sr 1 rfl<|sg 1 19 26 27 true G G (fun hg20=>by
          have hq20:=hg20;try simp only [o1,o2,o3,o4,o5,o6,o7,o8,o9,oa] at hq20
          exact sy hg20<|sr 1 rfl<|sz 1 G G G)<|sy hg16<|sa G G G<|sz 6 G G G)<|so G G G<|sr 1 rfl<|sE ?_;clear H a;intro a H
 refine k2 _ ?_;clear k2 K2
 refine wp_ret ?_
 refine ret1 (fn:=Tryz.f94) rfl H rfl ?_
 refine ⟨congrArg Value.bool ?_,(S.sel [] G G)⟩;unfold opn bitI;rw [Yq]
theorem tO (pl:Int) (ps:List Psg) (PA:Option Addr) (pc:Nat) (xs:List Int) (XA:Option Addr) (xc:Nat) (out:Int) (l:List Int) (LA:Option Addr) (lc:Nat) (w:World) (hps:InS w noF 7 PA ps.length (pcell ps)) (hpn:ps.length≤9223372036854775807) (hxs:InS w noF 1 XA xs.length (icl xs)) (hxn:xs.length≤9223372036854775807) (hl:InS w noF 1 LA l.length (icl l)) (hln:l.length≤9223372036854775807) :
    Calls Tryz.prog 91 [.agg [.int .i64 pl,.slice PA ps.length pc,.slice XA xs.length xc].toArray,.int .i64 out,.slice LA l.length lc].toArray w (Ret (fun v w'=>v = .int .i64 (askE pl ps xs out l)∧St w noF [] w')):=by
 refine enter Tryz.func91 rfl Tryz.ntmps91 rfl (fun a H=>?_)
 have S:=St.start w
 refine aA fun K1 k1=>?_
 refine aP H rfl S G G ?_;clear H a S;intro b3 _ a hb3 hbw3 S H
 refine ls 1 H<|sr 1 rfl<|sE ?_;clear H a;intro a H
 refine k1 _ _ ?_;clear k1 K1
 refine aA fun K2 k2=>?_
 refine ls 1 H<|sd ((aD cA cP rfl S (i:=0) G G))<|sE ?_;clear H a;intro a H
 refine aC H G G Tryz.func41 G G (lD pl ps PA pc xs XA xc _ (hps.now S) hpn (hxs.now S) hxn) ?_;clear H a
 rintro _ _ a ⟨rfl,S2⟩ H
 replace S:=S.call S2;clear S2
 refine ls 1 H<|sr 1 rfl<|sE ?_;clear H a;intro a H
 refine k2 _ _ ?_;clear k2 K2
 refine wp_seq_k fun K3 k3=>?_
 refine sS H fun K4 k4=>sr 2 rfl<|sE ?_;clear H a;intro a H
 refine k4 _ ?_;clear k4 K4
 refine condN H rfl (fun hc1=>?_) (fun hc1=>?_)
 ·skip
  refine sS H fun K5 k5=>sr 2 rfl<|sE ?_;clear H a;intro a H
  refine k5 _ ?_;clear k5 K5
  refine wp_ret ?_
  refine ret1 (fn:=Tryz.f91) rfl H rfl ?_
  refine ⟨?_,(S.sel [] G G)⟩;unfold askE;rw [if_pos hc1]
 have hst:stE pl ps xs=0:=by omega
 have hsz:=(gK hst).size
 refine wp_skip ?_
 refine k3 _ _ ?_
 refine wp_seq_k fun K6 k6=>?_
 replace H:=H.keep [1,2,3] rfl
 refine sS H fun K7 k7=>sr 1 rfl<|sc rfl Tryz.func60 G G (uQ _ _)<|sr 1 rfl<|sE ?_;clear H a;intro a H
 refine k7 _ ?_;clear k7 K7
 refine aT H rfl (fun hc2=>?_) (fun hc2=>?_)
 ·skip
  try simp only [o1,o2,o3,o4,o5,o6,o7,o8,o9,oa] at hc2
  refine sS H fun K8 k8=>sr 1 rfl<|sE ?_;clear H a;intro a H
  refine k8 _ ?_;clear k8 K8
  refine wp_ret ?_
  refine ret1 (fn:=Tryz.f91) rfl H rfl ?_
  refine ⟨?_,(S.sel [] G G)⟩;unfold askE;rw [if_neg (by omega),decide_eq_false (by omega)];rfl
 try simp only [o1,o2,o3,o4,o5,o6,o7,o8,o9,oa] at hc2
 refine wp_skip ?_
 refine k6 _ _ ?_
 refine wp_seq_k fun K9 k9=>?_
 refine sS H fun K10 k10=>sr 1 rfl<|sE ?_;clear H a;intro a H
 refine k10 _ ?_;clear k10 K10
 refine wp_block ?_
 refine loop_st (X:=Nat) (R0:=_) [2,3] H rfl (fun k=>[(8,.int .i64 (k:Int))]) (fun k=>[]) (fun g k=>k≤l.length∧g+k=l.length∧allN (fun k=>decide (0≤l.getD k 0∧l.getD k 0≤pl-1)) k=true) (l.length) 0 ?_ (S.sel [0] G G) (H.keep [8,2,3] rfl) ?_
 · exact ⟨by omega,by omega,rfl⟩
 clear H S a
 intro g1 x1 a w1 hp S H K11 k11
 obtain ⟨k,rfl⟩:∃ y,y=x1:=⟨_,rfl⟩
 refine wp_seq_k fun K12 k12=>?_
 refine sS H fun K13 k13=>sr 2 rfl<|sL aO rfl<|sr 1 rfl<|sE ?_;clear H a;intro a H
 refine k13 _ ?_;clear k13 K13
 refine condL H rfl (fun hc3=>?_) (fun hc3=>?_)
 ·skip
  refine wp_skip ?_
  refine k12 _ _ ?_
  refine wp_seq_k fun K14 k14=>?_
  refine wp_block ?_
  replace H:=H.keep [2,3,8] rfl
  replace S:=S.drew
  refine sD H fun K15 k15=>sr 2 rfl<|si aO aW G G (hl.adr (by omega)) (by omega)<|slm aB rfl (hl.rd S (by omega) (by omega))<|sf dK rfl<|sl S 0 aB G G G<|sd (aS G G (by unfold i64ok;omega))<|sc rfl Tryz.func55 G G (cW _ _ _ _)<|sr 1 rfl<|sE ?_;clear H a;intro a H
  refine k15 _ ?_;clear k15 K15
  refine aT H rfl (fun hc4=>?_) (fun hc4=>?_)
  ·skip
   try simp only [o1,o2,o3,o4,o5,o6,o7,o8,o9,oa] at hc4
   replace H:=H.keep [] rfl
   refine sS H fun K16 k16=>sr 1 rfl<|sE ?_;clear H a;intro a H
   refine k16 _ ?_;clear k16 K16
   refine wp_ret ?_
   refine ret1 (fn:=Tryz.f91) rfl H rfl ?_
   refine ⟨?_,(S.sel [] G G)⟩;unfold askE;rw [if_neg (by omega),vV (k:=k) (by omega) (by omega),Bool.and_false];rfl
  try simp only [o1,o2,o3,o4,o5,o6,o7,o8,o9,oa] at hc4
  refine wp_skip ?_
  refine k14 _ _ ?_
  refine sO H<|sr 1 rfl<|sd (aG G G (by unfold i64ok;omega))<|sr 1 rfl<|sE ?_;clear H a;intro a H
  exact k11 (g1-1) (k+1) a _ (by omega) (⟨by omega,by omega,dA hp.2.2 (by rw [decide_eq_true_eq];omega)⟩) (S.sel [0] G G) (H.keep [8,2,3] rfl)
 refine wp_exit ?_
 refine k9 _ _ ?_
 refine sS H fun K18 k18=>sr 1 rfl<|sE ?_;clear H a;intro a H
 refine k18 _ ?_;clear k18 K18
 refine wp_ret ?_
 refine ret1 (fn:=Tryz.f91) rfl H rfl ?_
 refine ⟨?_,(S.sel [] G G)⟩;unfold askE plOk;rw [if_neg (by omega),show l.length=k by omega,hp.2.2,decide_eq_true (by omega)];rfl
theorem Mx (P:Nat) (ps:List Psg) (PA:Option Addr) (pc:Nat) (xs:List Int) (XA:Option Addr) (xc:Nat) (out:Int) (help:Bool) (to:Int) (w:World) (hps:InS w noF 7 PA ps.length (pcell ps)) (hpn:ps.length≤9223372036854775807) (hxs:InS w noF 1 XA xs.length (icl xs)) (hxn:xs.length≤9223372036854775807) (hV:StV P ps xs) (hou:0≤out) (hto:0≤to∧to<P) :
    Calls Tryz.prog 92 [.agg [.int .i64 (P:Int),.slice PA ps.length pc,.slice XA xs.length xc].toArray,.int .i64 out,.bool help,.int .i64 to].toArray w (Ret (fun v w'=>∃ A c,v = .slice A P c∧FarOk P ps out help to.toNat (dst P ps out help to.toNat)∧St w noF [ownM 3 1 A P c (rcl (dst P ps out help to.toNat))] w')):=by
 have hP10:=hV.size
 refine enter Tryz.func92 rfl Tryz.ntmps92 rfl (fun a H=>?_)
 have S:=St.start w
 refine aA fun K1 k1=>?_
 refine aP H rfl S G G ?_;clear H a S;intro b4 _ a hb4 hbw4 S H
 refine ls 1 H<|sr 1 rfl<|sE ?_;clear H a;intro a H
 refine k1 _ _ ?_;clear k1 K1
 refine sS H fun K2 k2=>sr 1 rfl<|sE ?_;clear H a;intro a H
 refine k2 _ ?_;clear k2 K2
 refine wp_seq_k fun K3 k3=>?_
 refine sS H fun K4 k4=>sr 1 rfl<|sE ?_;clear H a;intro a H
 refine k4 _ ?_;clear k4 K4
 refine wp_block ?_
 replace S:=S.newNil 3 1 (fun _ _ => .int .i64 1073741824)
 refine loop_st (X:=Nat×Option Addr×Nat) (R0:=_) [1,2,3,4] H rfl (fun ⟨k,A9,c9⟩=>[(9,.slice A9 k c9),(10,.int .i64 (k:Int))]) (fun ⟨k,A9,c9⟩=>[ownM 3 1 A9 k c9 (fun _ _ => .int .i64 1073741824)]) (fun g ⟨k,A9,c9⟩=>k≤P∧g+k=P) (P) (0,none,0) ?_ (S.sel [0,1] G G) (H.keep [9,10,1,2,3,4] rfl) ?_
 · exact ⟨by omega,by omega⟩
 clear H S a
 intro g1 x1 a w1 hp S H K5 k5
 obtain ⟨k,A9,c9⟩:=x1
 dsimp only at hp S H
 refine wp_seq_k fun K6 k6=>?_
 refine sS H fun K7 k7=>sr 1 rfl<|sf dK rfl<|sl S 1 aB G G G<|sr 1 rfl<|sE ?_;clear H a;intro a H
 refine k7 _ ?_;clear k7 K7
 refine condL H rfl (fun hc1=>?_) (fun hc1=>?_)
 ·skip
  refine wp_skip ?_
  refine k6 _ _ ?_
  refine wp_seq_k fun K8 k8=>?_
  refine wp_block ?_
  refine cE ?_
  refine ls 1 H<|sr 1 rfl<|sE ?_;clear H a;intro a H
  refine aL H rfl S aO aW dQ G G G G G G G G G ?_;clear H a S;intro A1 _ a hA1 S H
  refine aY H rfl S aO aW dQ kJ G G (i:=1) G G G (ownM.inS S (i:=0) rfl) (gJ (w8one rfl)) (by omega) (by omega) ?_;clear H a S;intro A2 c2 _ a S H
  replace S:=S.recell (i:=1) rfl (cell':=fun _ _ => .int .i64 1073741824) (fun q j hq hj=>Tk q j hq hj)
  refine ls 1 H<|sr 1 rfl<|sE ?_;clear H a;intro a H
  refine k8 _ _ ?_
  replace H:=H.keep [1,2,3,4,9,10] rfl
  refine sO H<|sr 1 rfl<|sd (aG G G (by unfold i64ok;omega))<|sr 1 rfl<|sE ?_;clear H a;intro a H
  exact k5 (g1-1) (k+1,_,_) a _ (by omega) (⟨by omega,by omega⟩) (S.sel [1,2] G G) (H.keep [9,10,1,2,3,4] rfl)
 refine wp_exit ?_
 refine k3 _ _ ?_
 refine aA fun K11 k11=>?_
 refine ls 3 H<|sr 2 rfl<|sI aO aW G G (ownM.adr S (i:=0) rfl (by omega)) (by omega) (by omega)<|sE ?_;clear H a;intro a H
 refine aZ H S (i:=0) G G G (by omega) (by omega) aW rfl ?_
 clear H a S;intro _ a S H
 replace S:=S.recell (i:=0) rfl (cell':=rcl (tk0 to.toNat)) (fun q j hq hj=>Pu (P:=0) (k:=0) q j hj)
 refine k11 _ _ ?_;clear k11 K11
 refine wp_seq_k fun K12 k12=>?_
 refine sS H fun K13 k13=>sr 1 rfl<|sE ?_;clear H a;intro a H
 refine k13 _ ?_;clear k13 K13
 refine wp_block ?_
 have hkP:P=k:=by omega
 subst hkP
 refine loop_st (X:=(Nat→Int)×Bool) (R0:=_) [1,2,4,9] H rfl (fun ⟨tk,mo⟩=>[(11,.bool mo)]) (fun ⟨tk,mo⟩=>[ownM 3 1 A9 P c9 (rcl tk)]) (fun g ⟨tk,mo⟩=>FarI P ps out help to.toNat tk∧potF P tk+b2i mo≤(g:Int)∧(mo=false→∀ q,q<ps.length→∀ i,i<P→FixAt ps out help tk i q)) ((potF P (tk0 to.toNat)+1).toNat) (tk0 to.toNat,true) ?_ (S.sel [0,1] G G) (H.keep [11,1,2,4,9] rfl) ?_
 · exact ⟨FarI.init (by omega),by have:=uB (P:=P) (tk:=tk0 to.toNat);show potF P (tk0 to.toNat)+1≤_;omega,fun h=>by cases h⟩
 clear H S a
 intro g2 x2 a w2 hp S H K14 k14
 obtain ⟨tk,mo⟩:=x2
 dsimp only at hp S H
 obtain ⟨hI,hpot,hfx⟩:=hp
 have hpn0:=uB (P:=P) (tk:=tk)
 refine wp_seq_k fun K15 k15=>?_
 refine sS H fun K16 k16=>sr 1 rfl<|sE ?_;clear H a;intro a H
 refine k16 _ ?_;clear k16 K16
 refine aT H rfl (fun hc2=>?_) (fun hc2=>?_)
 ·skip
  try simp only [o1,o2,o3,o4,o5,o6,o7,o8,o9,oa] at hc2
  have hb9:=aEg hc2
  refine wp_skip ?_
  refine k15 _ _ ?_
  refine wp_block ?_
  refine sS H fun K17 k17=>sr 1 rfl<|sE ?_;clear H a;intro a H
  refine k17 _ ?_;clear k17 K17
  refine sS H fun K18 k18=>sr 1 rfl<|sE ?_;clear H a;intro a H
  refine k18 _ ?_;clear k18 K18
  refine wp_block ?_
  refine loop_st (X:=Nat×(Nat→Int)×Bool) (R0:=_) [1,2,4,9] H rfl (fun ⟨k,tk2,m2⟩=>[(11,.bool m2),(12,.int .i64 (k:Int))]) (fun ⟨k,tk2,m2⟩=>[ownM 3 1 A9 P c9 (rcl tk2)]) (fun g ⟨k,tk2,m2⟩=>k≤ps.length∧g+k=ps.length∧FarI P ps out help to.toNat tk2∧potF P tk2+b2i m2≤potF P tk∧(m2=false→∀ q,q<k→∀ i,i<P→FixAt ps out help tk2 i q)) (ps.length) (0,tk,false) ?_ (S.sel [0,1] G G) (H.keep [11,12,1,2,4,9] rfl) ?_
  · exact ⟨by omega,by omega,hI,by show potF P tk+0≤_;omega,fun _ i hi=>absurd hi (Nat.not_lt_zero i)⟩
  clear H S a
  intro g3 x3 a w3 hp S H K19 k19
  obtain ⟨k,tk2,m2⟩:=x3
  dsimp only at hp S H
  obtain ⟨hkl,hgk,hI2,hpot2,hfx2⟩:=hp
  refine wp_seq_k fun K20 k20=>?_
  refine sS H fun K21 k21=>sr 1 rfl<|sf eE rfl<|sl S 1 fD G G G<|sL eR rfl<|sr 1 rfl<|sE ?_;clear H a;intro a H
  refine k21 _ ?_;clear k21 K21
  refine condL H rfl (fun hc3=>?_) (fun hc3=>?_)
  ·skip
   have hvb:=hV.psv k (by omega)
   refine wp_skip ?_
   refine k20 _ _ ?_
   refine wp_seq_k fun K22 k22=>?_
   refine wp_block ?_
   replace H:=H.keep [1,2,4,9,11,12] rfl
   refine aA fun K23 k23=>?_
   refine ls 5 H<|sf eE rfl<|sl S 1 fD G G G<|sr 1 rfl<|si eR dD G G (hps.adr (by omega)) (by omega)<|sd ((aU fO dD rfl S hps (by omega) (by omega)))<|sE ?_;clear H a;intro a H
   refine aM H rfl S kK ?_;clear H a S;intro b13 _ a hb13 hbw13 S H
   refine aH H S (i:=0) G G G G dD G G ?_
   clear H a S;intro _ a S H
   refine k23 _ _ ?_;clear k23 K23
   refine wp_seq_k fun K24 k24=>?_
   replace H:=H.keep [1,2,4,9,11,12,13] rfl
   refine aA fun K25 k25=>?_
   refine ls 3 H<|sd ((aD fO dD rfl S (i:=0) G G))<|sr 2 rfl<|sE ?_;clear H a;intro a H
   refine aC H G G Tryz.func94 G G (xO (ps.getD k Psg.zero) out help _ (hV.mch k (by omega))) ?_;clear H a
   rintro _ _ a ⟨rfl,S2⟩ H
   replace S:=S.call S2;clear S2
   refine ls 1 H<|sr 1 rfl<|sE ?_;clear H a;intro a H
   refine k25 _ _ ?_;clear k25 K25
   refine aT H rfl (fun hc4=>?_) (fun hc4=>?_)
   ·skip
    try simp only [o1,o2,o3,o4,o5,o6,o7,o8,o9,oa] at hc4
    refine wp_exit ?_
    refine k22 _ _ ?_
    refine sO H<|sr 1 rfl<|sd (aG G G (by unfold i64ok;omega))<|sr 1 rfl<|sE ?_;clear H a;intro a H
    exact k19 (g3-1) (k+1,_,_) a _ (by omega) (by first|exact ⟨by omega,by omega,hI3.upA hV.psv (by omega) (by omega) (by omega) (by omega) hob hq6 hpot3⟩|exact ⟨by omega,by omega,hI3,hpot3,lV (fun h=>(hfx3 h).1) (fun h=>vW hV.psv (by omega) (hfx3 h).2 hq6)⟩|exact ⟨by omega,by omega,hI2,hpot2,lV hfx2 (fun _=>vX (by omega))⟩) (S.sel [1,2] G G) (H.keep [11,12,1,2,4,9] rfl)
   try simp only [o1,o2,o3,o4,o5,o6,o7,o8,o9,oa] at hc4
   have hop:opn out help (ps.getD k Psg.zero)=true:=hc4
   have hoa:=aEd hV.psv (show k<ps.length by omega) hop
   have hob:=aEe hV.psv (show k<ps.length by omega) hop
   refine wp_skip ?_
   refine k24 _ _ ?_
   have SR:=(S.sel [0,2] G G)
   refine fG (X:=(Nat→Int)×Bool) [1,2,4,9,12,13] H rfl (fun ⟨tk3,m3⟩=>[(11,.bool m3)]) (fun ⟨tk3,m3⟩=>[ownM 3 1 A9 P c9 (rcl tk3)]) (fun ⟨tk3,m3⟩=>FarI P ps out help to.toNat tk3∧potF P tk3+b2i m3≤potF P tk∧(m3=false→(∀ q,q<k→∀ i,i<P→FixAt ps out help tk3 i q)∧(tk3 (ps.getD k Psg.zero).b.toNat<0∨(0≤tk3 (ps.getD k Psg.zero).a.toNat∧tk3 (ps.getD k Psg.zero).a.toNat≤tk3 (ps.getD k Psg.zero).b.toNat+(ps.getD k Psg.zero).ticks)))) SR (fun K28 k28=>?_) ?_
   ·skip
    have hsa:=hI2.small (by omega) (i:=(ps.getD k Psg.zero).a.toNat) (by omega)
    have hsb:=hI2.small (by omega) (i:=(ps.getD k Psg.zero).b.toNat) (by omega)
    have hra:=yK (x:=tk2 (ps.getD k Psg.zero).a.toNat) (by omega)
    have hrb:=yK (x:=tk2 (ps.getD k Psg.zero).b.toNat) (by omega)
    replace H:=H.keep [1,2,4,9,11,12,13] rfl
    replace S:=S.drew
    refine sD H fun K29 k29=>sr 1 rfl<|sf eU rfl<|sl S 0 aB G G G<|sI aO aW G G (ownM.adr S (i:=1) rfl (by omega)) (by omega) (by omega)<|slm aB rfl (ownM.rd S (i:=1) rfl (by omega) (by omega))<|sf iO rfl<|sl S 0 aB G G G<|sd (aG G G (by unfold i64ok;omega))<|sr 1 rfl<|sf fA rfl<|sl S 0 aB G G G<|sI aO aW G G (ownM.adr S (i:=1) rfl (by omega)) (by omega) (by omega)<|slm aB rfl (ownM.rd S (i:=1) rfl (by omega) (by omega))<|sr 1 rfl<|sE ?_;clear H a;intro a H
    refine k29 _ ?_;clear k29 K29
    refine condL H rfl (fun hc5=>?_) (fun hc5=>?_)
    ·skip
     have hq5:=aAg (by omega) (by omega) hvb.2.2 hc5
     replace H:=H.keep [1,2,4,9,12,13] rfl
     replace S:=S.drew
     refine mI 12 (.p 0 (.p 1 (.q 2 (.p 3 (.p 4 (.q 5 (.p 6 (.p 8 (.q 9 (.e 7 (.p 10 (.p 11 (.e 12 .nil))))))))))))) (by kernel_rfl) (by kernel_rfl) (S.sel [0,2] G G) fun K30 k30=>?_
     refine aR H G G (fun _=>aJ rfl) ?_;clear H a;intro a H
     refine aR H G G (fun _=>(aF fA rfl)) ?_;clear H a;intro a H
     refine aI H G G (fun _ S=>aE aB rfl (boxM.rd S (i:=0) G G)) ?_;clear H a;intro a H
     refine aR H G G (fun _=>aJ rfl) ?_;clear H a;intro a H
     refine aR H G G (fun _=>(aF eU rfl)) ?_;clear H a;intro a H
     refine aI H G G (fun _ S=>aE aB rfl (boxM.rd S (i:=0) G G)) ?_;clear H a;intro a H
     refine aR H G G (fun _=>bP aO aW G G (ownM.adr S (i:=1) rfl (by omega)) (by omega) (by omega)) ?_;clear H a;intro a H
     refine aR H G G (fun _=>(aF iO rfl)) ?_;clear H a;intro a H
     refine aI H G G (fun _ S=>aE aB rfl (boxM.rd S (i:=0) G G)) ?_;clear H a;intro a H
     refine bE rfl ?_
     refine ls 1 H<|slm aB rfl (ownM.rd S (i:=1) rfl (by omega) (by omega))<|sE ?_;clear H a;intro a H
     refine wpList_nil (And.intro (Or.inr (S.sel [0,2] G G)) ?_)
     refine aR H G G (fun _=>aG G G (by unfold i64ok;omega)) ?_;clear H a;intro a H
     refine aR H G G (fun _=>bP aO aW G G (ownM.adr S (i:=1) rfl (by omega)) (by omega) (by omega)) ?_;clear H a;intro a H
     refine bE rfl ?_
     refine aZ H S (i:=1) G G G (by omega) (by omega) aW rfl ?_
     clear H a S;intro _ a S H
     replace S:=S.recell (i:=1) rfl (cell':=rcl (upd tk2 (ps.getD k Psg.zero).a.toNat (tk2 (ps.getD k Psg.zero).b.toNat+(ps.getD k Psg.zero).ticks))) (fun q j hq hj=>Ip hq5.1 (by omega) q j hj)
     refine wpList_nil (And.intro (Or.inl rfl) ?_)
     refine dY ?_
     refine k30 _ _ ?_
     clear k30 K30
     replace H:=H.keep [1,2,4,9,12,13] rfl
     refine sO H<|sr 1 rfl<|sE ?_;clear H a;intro a H
     exact k28 (_,true) a _ (hI2.upA hV.psv (by omega) (by omega) (by omega) (by omega) hoa hq5 hpot2) (S.sel [1,0,2] G G) (H.keep [11,1,2,4,9,12,13] rfl)
    have hq5:=aAh (x:=tk2 (ps.getD k Psg.zero).b.toNat) (y:=tk2 (ps.getD k Psg.zero).a.toNat) (by omega) (by omega) hvb.2.2 (by omega)
    refine wp_skip ?_
    exact k28 (_,_) a _ (⟨hI2,hpot2,fun h=>⟨hfx2 h,hq5⟩⟩) (S.sel [1,0,2] G G) (H.keep [11,1,2,4,9,12,13] rfl)
   clear SR H S a
   intro xm a wm hp S H
   obtain ⟨tk3,m3⟩:=xm
   obtain ⟨hI3,hpot3,hfx3⟩:=hp
   have hsa:=hI3.small (by omega) (i:=(ps.getD k Psg.zero).a.toNat) (by omega)
   have hsb:=hI3.small (by omega) (i:=(ps.getD k Psg.zero).b.toNat) (by omega)
   have hra:=yK (x:=tk3 (ps.getD k Psg.zero).a.toNat) (by omega)
   have hrb:=yK (x:=tk3 (ps.getD k Psg.zero).b.toNat) (by omega)
   replace H:=H.keep [1,2,4,9,11,12,13] rfl
   replace S:=S.drew
   refine sD H fun K32 k32=>sr 1 rfl<|sf fA rfl<|sl S 1 aB G G G<|sI aO aW G G (ownM.adr S (i:=0) rfl (by omega)) (by omega) (by omega)<|slm aB rfl (ownM.rd S (i:=0) rfl (by omega) (by omega))<|sf iO rfl<|sl S 1 aB G G G<|sd (aG G G (by unfold i64ok;omega))<|sr 1 rfl<|sf eU rfl<|sl S 1 aB G G G<|sI aO aW G G (ownM.adr S (i:=0) rfl (by omega)) (by omega) (by omega)<|slm aB rfl (ownM.rd S (i:=0) rfl (by omega) (by omega))<|sr 1 rfl<|sE ?_;clear H a;intro a H
   refine k32 _ ?_;clear k32 K32
   refine condL H rfl (fun hc6=>?_) (fun hc6=>?_)
   ·skip
    have hq6:=aAg (by omega) (by omega) hvb.2.2 hc6
    replace H:=H.keep [1,2,4,9,12,13] rfl
    replace S:=S.drew
    refine mI 12 (.p 0 (.p 1 (.q 2 (.p 3 (.p 4 (.q 5 (.p 6 (.p 8 (.q 9 (.e 7 (.p 10 (.p 11 (.e 12 .nil))))))))))))) (by kernel_rfl) (by kernel_rfl) (S.sel [1,2] G G) fun K33 k33=>?_
    refine aR H G G (fun _=>aJ rfl) ?_;clear H a;intro a H
    refine aR H G G (fun _=>(aF eU rfl)) ?_;clear H a;intro a H
    refine aI H G G (fun _ S=>aE aB rfl (boxM.rd S (i:=0) G G)) ?_;clear H a;intro a H
    refine aR H G G (fun _=>aJ rfl) ?_;clear H a;intro a H
    refine aR H G G (fun _=>(aF fA rfl)) ?_;clear H a;intro a H
    refine aI H G G (fun _ S=>aE aB rfl (boxM.rd S (i:=0) G G)) ?_;clear H a;intro a H
    refine aR H G G (fun _=>bP aO aW G G (ownM.adr S (i:=0) rfl (by omega)) (by omega) (by omega)) ?_;clear H a;intro a H
    refine aR H G G (fun _=>(aF iO rfl)) ?_;clear H a;intro a H
    refine aI H G G (fun _ S=>aE aB rfl (boxM.rd S (i:=0) G G)) ?_;clear H a;intro a H
    refine bE rfl ?_
    refine ls 1 H<|slm aB rfl (ownM.rd S (i:=0) rfl (by omega) (by omega))<|sE ?_;clear H a;intro a H
    refine wpList_nil (And.intro (Or.inr (S.sel [1,2] G G)) ?_)
    refine aR H G G (fun _=>aG G G (by unfold i64ok;omega)) ?_;clear H a;intro a H
    refine aR H G G (fun _=>bP aO aW G G (ownM.adr S (i:=0) rfl (by omega)) (by omega) (by omega)) ?_;clear H a;intro a H
    refine bE rfl ?_
    refine aZ H S (i:=0) G G G (by omega) (by omega) aW rfl ?_
    clear H a S;intro _ a S H
    replace S:=S.recell (i:=0) rfl (cell':=rcl (upd tk3 (ps.getD k Psg.zero).b.toNat (tk3 (ps.getD k Psg.zero).a.toNat+(ps.getD k Psg.zero).ticks))) (fun q j hq hj=>Ip hq6.1 (by omega) q j hj)
    refine wpList_nil (And.intro (Or.inl rfl) ?_)
    refine dY ?_
    refine k33 _ _ ?_
    clear k33 K33
    replace H:=H.keep [1,2,4,9,12] rfl
    refine sO H<|sr 1 rfl<|sE ?_;clear H a;intro a H
    refine k22 _ _ ?_
    refine sO H<|sr 1 rfl<|sd (aG G G (by unfold i64ok;omega))<|sr 1 rfl<|sE ?_;clear H a;intro a H
    exact k19 (g3-1) (k+1,_,_) a _ (by omega) (by first|exact ⟨by omega,by omega,hI3.upA hV.psv (by omega) (by omega) (by omega) (by omega) hob hq6 hpot3⟩|exact ⟨by omega,by omega,hI3,hpot3,lV (fun h=>(hfx3 h).1) (fun h=>vW hV.psv (by omega) (hfx3 h).2 hq6)⟩|exact ⟨by omega,by omega,hI2,hpot2,lV hfx2 (fun _=>vX (by omega))⟩) (S.sel [0,2] G G) (H.keep [11,12,1,2,4,9] rfl)
   have hq6:=aAh (x:=tk3 (ps.getD k Psg.zero).a.toNat) (y:=tk3 (ps.getD k Psg.zero).b.toNat) (by omega) (by omega) hvb.2.2 (by omega)
   refine wp_skip ?_
   refine k22 _ _ ?_
   refine sO H<|sr 1 rfl<|sd (aG G G (by unfold i64ok;omega))<|sr 1 rfl<|sE ?_;clear H a;intro a H
   exact k19 (g3-1) (k+1,_,_) a _ (by omega) (by first|exact ⟨by omega,by omega,hI3.upA hV.psv (by omega) (by omega) (by omega) (by omega) hob hq6 hpot3⟩|exact ⟨by omega,by omega,hI3,hpot3,lV (fun h=>(hfx3 h).1) (fun h=>vW hV.psv (by omega) (hfx3 h).2 hq6)⟩|exact ⟨by omega,by omega,hI2,hpot2,lV hfx2 (fun _=>vX (by omega))⟩) (S.sel [0,2] G G) (H.keep [11,12,1,2,4,9] rfl)
  refine wp_exit ?_
  exact k14 (g2-1) (tk2,m2) a _ (by omega) (⟨hI2,by omega,fun h q hq=>hfx2 h q (by omega)⟩) (S.sel [0,1] G G) (H.keep [11,1,2,4,9] rfl)
 try simp only [o1,o2,o3,o4,o5,o6,o7,o8,o9,oa] at hc2
 refine wp_exit ?_
 refine k12 _ _ ?_
 refine sS H fun K37 k37=>sr 2 rfl<|sE ?_;clear H a;intro a H
 refine k37 _ ?_;clear k37 K37
 refine wp_ret ?_
 refine ret1 (fn:=Tryz.f92) rfl H rfl ?_
 have hmf:mo=false:=by (cases mo <;> simp_all)
 have hok:=hI.done (by omega) (fun i hi q hq=>hfx hmf q hq i hi)
 have hdo:=Ps hV.psv (by omega) hok
 replace S:=S.recell (i:=0) rfl (cell':=rcl (dst P ps out help to.toNat)) (fun q j hq hj=>by unfold rcl;rw [kN hV.psv hok hq])
 exact ⟨_,_,rfl,hdo,(S.sel [0] G G)⟩
end
section
theorem sU (l:List Psg):∀ k j,k<l.length→j<7→(pcell l k j).oneCell'=true:=fun k j _ _=>by
  unfold pcell Psg.cell
  split <;> rfl
def sameI (a b:List Int):Bool:=decide (a=b)
theorem Tl {a b:List Int} (h:a.length≠b.length):sameI a b=false:=decide_eq_false fun e=>h (by rw [e])
theorem Ys {a b:List Int} {k:Nat} (h:¬ a.getD k 0=b.getD k 0):sameI a b=false:=decide_eq_false fun e=>h (by rw [e])
theorem Tm {a b:List Int} (hn:a.length=b.length) (h:∀ k,k<a.length→a.getD k 0=b.getD k 0):sameI a b=true:=decide_eq_true (List.ext_getElem hn fun k h1 h2=>by
  have:=h k h1
  rwa [List.getD_eq_getElem?_getD,List.getD_eq_getElem?_getD,List.getElem?_eq_getElem h1,List.getElem?_eq_getElem h2] at this)
theorem Yt {a b:List Int} {k:Nat} (h:∀ q,q<k→a.getD q 0=b.getD q 0) (hk:a.getD k 0=b.getD k 0):∀ q,q<k+1→a.getD q 0=b.getD q 0:=fun q hq=>by
  by_cases e:q=k
  · subst e;exact hk
  · exact h q (by omega)
theorem Hh (pl:Int) (ps:List Psg) (PA:Option Addr) (pc:Nat) (xs:List Int) (XA:Option Addr) (xc:Nat) (w:World) (hps:InS w noF 7 PA ps.length (pcell ps)) (hpn:ps.length≤9223372036854775807) (hxs:InS w noF 1 XA xs.length (icl xs)) (hxn:xs.length≤9223372036854775807) (hps2:56*ps.length≤140737488355328) (hxs2:8*xs.length≤140737488355328) :
    Calls Tryz.prog 24 [.agg [.int .i64 pl,.slice PA ps.length pc,.slice XA xs.length xc].toArray].toArray w (Ret (fun u w'=>∃ A c B d,u = .agg [.int .i64 pl,.slice A ps.length c,.slice B xs.length d].toArray∧St w noF [ownM 89 7 A ps.length c (pcell ps),ownM 3 1 B xs.length d (icl xs)] w')):=by
 refine enter Tryz.func24 rfl Tryz.ntmps24 rfl (fun a H=>?_)
 have S:=St.start w
 refine aA fun K1 k1=>?_
 refine aP H rfl S G G ?_;clear H a S;intro b1 _ a hb1 hbw1 S H
 refine aM H rfl S Oq ?_;clear H a S;intro b2 _ a hb2 hbw2 S H
 refine k1 _ _ ?_;clear k1 K1
 replace H:=H.keep [1,2] rfl
 replace S:=S.drew
 refine mI 11 (.q 0 (.q 1 (.q 3 (.q 4 (.q 7 (.q 8 (.b2 2 (.b2 5 (.e 6 (.e 9 (.q 10 (.e 11 .nil)))) 6 (.e 5 (.e 9 (.q 10 (.e 11 .nil))))) 6 (.e 2 (.e 5 (.e 9 (.q 10 (.e 11 .nil)))))))))))) (by kernel_rfl) (by kernel_rfl) (S.sel [1] G G) fun K2 k2=>?_
 refine aI H G G (fun _ S=>(aF dK rfl)) ?_;clear H a;intro a H
 refine aI H G G (fun _ S=>aE aB rfl (boxM.rd S (i:=0) G G)) ?_;clear H a;intro a H
 refine aI H G G (fun _ S=>(aF eE rfl)) ?_;clear H a;intro a H
 refine aI H G G (fun _ S=>aE fD rfl (boxM.rd S (i:=0) G G)) ?_;clear H a;intro a H
 refine aI H G G (fun _ S=>(aF gR rfl)) ?_;clear H a;intro a H
 refine aI H G G (fun _ S=>aE dL rfl (boxM.rd S (i:=0) G G)) ?_;clear H a;intro a H
 refine sY G G ?_ ?_
 ·skip
  refine cU H rfl S eR dD (pcell ps) ?_;clear H a S;intro A1 _ a S H
  refine wpList_nil (And.intro (Or.inr (S.sel [2] G G)) ?_)
  refine sY G G ?_ ?_
  ·skip
   refine aY H rfl S eR dD kK Ot G G (i:=0) G G G ((hps.now S)) (sU ps) (by omega) (by omega) ?_;clear H a S;intro A2 c2 _ a S H
   rw [Nat.zero_add] at H
   replace S:=S.recell (i:=0) (n:=ps.length) (cell':=pcell ps) (by simp only [Nat.zero_add];rfl) (fun k j hk hj=>by unfold capp;rw [if_neg (by omega)];rfl)
   refine wpList_nil (And.intro (Or.inr (S.sel [2] G G)) ?_)
   refine bE rfl ?_
   refine cU H rfl S aO aW (icl xs) ?_;clear H a S;intro A3 _ a S H
   refine wpList_nil (And.intro (Or.inr (S.sel [3] G G)) ?_)
   refine bE rfl ?_
   refine aY H rfl S aO aW dQ kJ G G (i:=0) G G G ((hxs.now S)) (fun _ _ _ _=>rfl) (by omega) (by omega) ?_;clear H a S;intro A4 c4 _ a S H
   rw [Nat.zero_add] at H
   replace S:=S.recell (i:=0) (n:=xs.length) (cell':=icl xs) (by simp only [Nat.zero_add];rfl) (fun k j hk hj=>by unfold capp;rw [if_neg (by omega)];rfl)
   refine wpList_nil (And.intro (Or.inr (S.sel [3] G G)) ?_)
   refine aI H G G (fun _ S=>aN Ih G G) ?_;clear H a;intro a H
   refine bE rfl ?_
   refine aH H S (i:=2) G G G G cP G G ?_
   clear H a S;intro _ a S H
   refine wpList_nil (And.intro (Or.inl rfl) ?_)
   refine dY ?_
   refine k2 _ _ ?_
   clear k2 K2
   refine wp_ret ?_
   refine retA (fn:=Tryz.f24) rfl H rfl cA (by exact cP) (cT S (i:=2) rfl) ?_
   exact ⟨_,_,_,_,rfl,(S.sel [1,0] G G)⟩
  ·skip
   refine cU H rfl S aO aW (icl xs) ?_;clear H a S;intro A5 _ a S H
   refine wpList_nil (And.intro (Or.inr (S.sel [3] G G)) ?_)
   refine bE rfl ?_
   refine aY H rfl S eR dD kK Ot G G (i:=1) G G G ((hps.now S)) (sU ps) (by omega) (by omega) ?_;clear H a S;intro A6 c6 _ a S H
   rw [Nat.zero_add] at H
   replace S:=S.recell (i:=1) (n:=ps.length) (cell':=pcell ps) (by simp only [Nat.zero_add];rfl) (fun k j hk hj=>by unfold capp;rw [if_neg (by omega)];rfl)
   refine wpList_nil (And.intro (Or.inr (S.sel [3] G G)) ?_)
   refine bE rfl ?_
   refine aY H rfl S aO aW dQ kJ G G (i:=0) G G G ((hxs.now S)) (fun _ _ _ _=>rfl) (by omega) (by omega) ?_;clear H a S;intro A7 c7 _ a S H
   rw [Nat.zero_add] at H
   replace S:=S.recell (i:=0) (n:=xs.length) (cell':=icl xs) (by simp only [Nat.zero_add];rfl) (fun k j hk hj=>by unfold capp;rw [if_neg (by omega)];rfl)
   refine wpList_nil (And.intro (Or.inr (S.sel [3] G G)) ?_)
   refine aI H G G (fun _ S=>aN Ih G G) ?_;clear H a;intro a H
   refine bE rfl ?_
   refine aH H S (i:=2) G G G G cP G G ?_
   clear H a S;intro _ a S H
   refine wpList_nil (And.intro (Or.inl rfl) ?_)
   refine dY ?_
   refine k2 _ _ ?_
   clear k2 K2
   refine wp_ret ?_
   refine retA (fn:=Tryz.f24) rfl H rfl cA (by exact cP) (cT S (i:=2) rfl) ?_
   exact ⟨_,_,_,_,rfl,(S.sel [1,0] G G)⟩
 ·skip
  refine cU H rfl S aO aW (icl xs) ?_;clear H a S;intro A8 _ a S H
  refine wpList_nil (And.intro (Or.inr (S.sel [2] G G)) ?_)
  refine bE rfl ?_
  refine cU H rfl S eR dD (pcell ps) ?_;clear H a S;intro A9 _ a S H
  refine wpList_nil (And.intro (Or.inr (S.sel [3] G G)) ?_)
  refine bE rfl ?_
  refine aY H rfl S eR dD kK Ot G G (i:=0) G G G ((hps.now S)) (sU ps) (by omega) (by omega) ?_;clear H a S;intro A10 c10 _ a S H
  rw [Nat.zero_add] at H
  replace S:=S.recell (i:=0) (n:=ps.length) (cell':=pcell ps) (by simp only [Nat.zero_add];rfl) (fun k j hk hj=>by unfold capp;rw [if_neg (by omega)];rfl)
  refine wpList_nil (And.intro (Or.inr (S.sel [3] G G)) ?_)
  refine bE rfl ?_
  refine aY H rfl S aO aW dQ kJ G G (i:=1) G G G ((hxs.now S)) (fun _ _ _ _=>rfl) (by omega) (by omega) ?_;clear H a S;intro A11 c11 _ a S H
  rw [Nat.zero_add] at H
  replace S:=S.recell (i:=1) (n:=xs.length) (cell':=icl xs) (by simp only [Nat.zero_add];rfl) (fun k j hk hj=>by unfold capp;rw [if_neg (by omega)];rfl)
  refine wpList_nil (And.intro (Or.inr (S.sel [3] G G)) ?_)
  refine aI H G G (fun _ S=>aN Ih G G) ?_;clear H a;intro a H
  refine bE rfl ?_
  refine aH H S (i:=2) G G G G cP G G ?_
  clear H a S;intro _ a S H
  refine wpList_nil (And.intro (Or.inl rfl) ?_)
  refine dY ?_
  refine k2 _ _ ?_
  clear k2 K2
  refine wp_ret ?_
  refine retA (fn:=Tryz.f24) rfl H rfl cA (by exact cP) (cT S (i:=2) rfl) ?_
  exact ⟨_,_,_,_,rfl,(S.sel [0,1] G G)⟩
end
section
theorem Hi {X:Nat→List Nat} {a e:Nat} (q:Nat):upd (fun i=>(X i).length) a ((X a).length+1) q=(upd X a (X a++[e]) q).length:=by
  unfold upd;split <;> simp
theorem aAm {X:Nat→List Nat} {a b e:Nat}:(upd X a (X a++[e]) b).length≤(X b).length+1:=by
  unfold upd;split
  · rename_i h;subst h;simp
  · omega
theorem Em {X:Nat→List Nat} {a e:Nat} {v:Value} (hv:v = .int .i64 (e:Int)):∀ i k j,k<upd (fun i=>(X i).length) a ((X a).length+1) i→j<1 →
    upd (fun i=>wcl (X i)) a (capp (X a).length (wcl (X a)) (fun k' j=>([[v]].getD k' []).getD j undef)) i k j=wcl (upd X a (X a++[e]) i) k j:=by
  intro i k j hk hj
  by_cases h:i=a
  · subst h
    rw [bN] at hk ⊢
    rw [bN]
    exact nS hv k j hk hj
  · rw [bK _ _ h,bK _ _ h]
theorem Tn {X:Nat→List Nat} {a e:Nat} {A:Nat→Option Addr} {c:Nat→Nat} {A1:Option Addr} {c1:Nat}:∀ k j,j<1→cput (hdc A (fun i=>(X i).length) c) a 0 (.slice A1 ((X a).length+1) c1) k j=hdc (upd A a A1) (fun i=>(upd X a (X a++[e]) i).length) (upd c a c1) k j:=by
  intro k j hj
  have:j=0:=by omega
  subst this
  unfold cput hdc
  have e2:=Hi (X:=X) (a:=a) (e:=e) k
  dsimp only
  rw [←e2]
  by_cases h:k=a
  · subst h;simp [bN]
  · simp [bK _ _ h,h]
theorem En {E:List Eg} {r r':Nat→Int} {f t:Nat} {m pas tick:Int} (h:∀ k,k<E.length→r' k=r k) (hm:r' E.length=m):∀ k j,k<E.length+1→j<5 →
    capp E.length (egc E r) (fun k' j=>([[Value.int .i64 (f:Int),.int .i64 (t:Int),.int .i64 m,.int .i64 pas,.int .i64 tick]].getD k' []).getD j undef) k j=egc (E++[⟨f,t,pas,tick⟩]) r' k j:=by
  intro k j hk hj
  unfold capp
  by_cases h1:k<E.length
  · rw [if_pos h1]
    unfold egc
    rw [lZ h1,h k h1]
  · have e:k=E.length:=by omega
    subst e
    rw [if_neg h1,Nat.sub_self]
    unfold egc
    rw [iZ (Nat.le_refl _),Nat.sub_self,hm]
    match j,hj with
    | 0,_=>rfl
    | 1,_=>rfl
    | 2,_=>rfl
    | 3,_=>rfl
    | 4,_=>rfl
theorem Jv {J:List Jn} {a b:Nat} {most pas tick:Int}:egs (J++[⟨a,b,most,⟨pas,0,tick,0⟩⟩])=(egs J++[⟨a,b,pas,tick⟩])++[⟨b,a,-1,0⟩]:=by rw [nU];unfold egs2;simp
theorem five {p:Nat→Prop} (h0:p 0) (h1:p 1) (h2:p 2) (h3:p 3) (h4:p 4):∀ j,j<5→p j:=by
  intro j hj
  match j,hj with
  | 0,_=>exact h0
  | 1,_=>exact h1
  | 2,_=>exact h2
  | 3,_=>exact h3
  | 4,_=>exact h4
theorem Bk {J:List Jn} {a b:Nat} {most pas tick:Int} (h:a≠b) (i:Nat):upd (upd (ixs (egs J)) a (ixs (egs J) a++[(egs J).length])) b (upd (ixs (egs J)) a (ixs (egs J) a++[(egs J).length]) b++[(egs J).length+1]) i=ixs (egs (J++[⟨a,b,most,⟨pas,0,tick,0⟩⟩])) i:=by
  rw [nV (by exact h)]
  dsimp only
  rw [bK (i:=b) _ _ (fun e=>h e.symm),←hY]
  unfold upd
  by_cases h1:i=b
  · subst h1;rw [if_pos rfl,if_neg (fun e=>h e.symm),if_pos rfl]
  · rw [if_neg h1]
    by_cases h2:i=a
    · subst h2;rw [if_pos rfl,if_pos rfl]
    · rw [if_neg h2,if_neg h2,if_neg h1]
theorem oD (E:List Eg) (nb P T:Nat) (st1 st2:Value) (EA:Option Addr) (ec k:Nat) (AA:Option Addr) (A:Nat→Option Addr) (c:Nat→Nat) (vol:Int) (p t:Nat) (w:World) (F:Nat→Prop) (S:St w F [boxM nb 157 [.int .i64 (P:Int),st1,st2,.int .i64 (T:Int),.slice EA (E).length ec,.slice AA (k) (k),.int .i64 (vol)]] w) (hp:p≤1000) (ht:t≤1000) (hT:T≤1000) :
    Calls Tryz.prog 112 [.pointer (some ⟨nb,0,none⟩),.int .i64 (p:Int),.int .i64 (t:Int)].toArray w (Ret (fun u w'=>u = .int .i64 ((ndR T p t:Nat):Int)∧w'=w)):=by
 have hb9:p*(T+1)≤1000*1001:=Nat.mul_le_mul hp (by omega)
 have hc9:((p*(T+1):Nat):Int)=(p:Int)*((T:Int)+1):=by rw [Int.natCast_mul];rfl
 refine enter Tryz.func112 rfl Tryz.ntmps112 rfl (fun a H=>?_)
 skip
 refine sS H fun K1 k1=>sr 1 rfl<|sE ?_;clear H a;intro a H
 refine k1 _ ?_;clear k1 K1
 replace H:=H.keep [0,1,2] rfl
 refine sS H fun K2 k2=>sr 3 rfl<|sf Ce rfl<|sl S 0 aB G G G<|sd (aG G G (by unfold i64ok;omega))<|sd (fJ G G (by rw [←hc9];unfold i64ok;omega))<|sr 1 rfl<|sd (aG G G (by rw [←hc9];unfold i64ok;omega))<|sr 1 rfl<|sE ?_;clear H a;intro a H
 refine k2 _ ?_;clear k2 K2
 refine wp_ret ?_
 refine ret1 (fn:=Tryz.f112) rfl H rfl ?_
 refine ⟨congrArg (Value.int .i64) ?_,rfl⟩
 unfold ndR
 rw [Int.natCast_add,hc9]
theorem sV (E:List Eg) (nb P T:Nat) (st1 st2:Value) (EA:Option Addr) (ec k:Nat) (AA:Option Addr) (A:Nat→Option Addr) (c:Nat→Nat) (vol:Int) (w:World) (F:Nat→Prop) (S:St w F [boxM nb 157 [.int .i64 (P:Int),st1,st2,.int .i64 (T:Int),.slice EA (E).length ec,.slice AA (k) (k),.int .i64 (vol)]] w) (hP:P≤1000) (hT:T≤1000) :
    Calls Tryz.prog 110 [.pointer (some ⟨nb,0,none⟩)].toArray w (Ret (fun u w'=>u = .int .i64 ((P*(T+1):Nat):Int)∧St w F [boxM nb 157 [.int .i64 (P:Int),st1,st2,.int .i64 (T:Int),.slice EA (E).length ec,.slice AA (k) (k),.int .i64 (vol)]] w')):=by
 have hb9:P*(T+1)≤1000*1001:=Nat.mul_le_mul hP (by omega)
 have hc9:((P*(T+1):Nat):Int)=(P:Int)*((T:Int)+1):=by rw [Int.natCast_mul];rfl
 refine enter Tryz.func110 rfl Tryz.ntmps110 rfl (fun a H=>?_)
 skip
 refine sS H fun K1 k1=>sr 1 rfl<|sE ?_;clear H a;intro a H
 refine k1 _ ?_;clear k1 K1
 replace H:=H.keep [0] rfl
 replace S:=S.drew
 refine sD H fun K2 k2=>sr 2 rfl<|sf Oi rfl<|sf dK rfl<|sl S 0 aB G G G<|sr 2 rfl<|sf Ce rfl<|sl S 0 aB G G G<|sd (aG G G (by unfold i64ok;omega))<|sd (fJ G G (by rw [←hc9];unfold i64ok;omega))<|sr 1 rfl<|sE ?_;clear H a;intro a H
 refine k2 _ ?_;clear k2 K2
 refine wp_ret ?_
 refine ret1 (fn:=Tryz.f110) rfl H rfl ?_
 exact ⟨congrArg (Value.int .i64) hc9.symm,(S.sel [0] G G)⟩
theorem uR (J:List Jn) (nb P T:Nat) (st1 st2:Value) (EA:Option Addr) (ec k:Nat) (AA:Option Addr) (A:Nat→Option Addr) (c:Nat→Nat) (vol:Int) (a0 b0:Nat) (most pas tick:Int) (w:World) (F:Nat→Prop) (S:St w F [boxM nb 157 [.int .i64 (P:Int),st1,st2,.int .i64 (T:Int),.slice EA (egs J).length ec,.slice AA (k) (k),.int .i64 (vol)],ownM 184 5 EA (egs J).length ec (egc (egs J) (egr J)),ownM 23 1 AA (k) (k) (hdc A (fun z9=>((ixs (egs J)) z9).length) c),ragM 3 1 (fun q=>q<k) A (fun z9=>((ixs (egs J)) z9).length) c (fun z9=>wcl ((ixs (egs J)) z9))] w) (ha:a0<k) (hb:b0<k) (hab:a0≠b0) (hJ:J.length≤100000) (hlen:∀ i,i<k→(ixs (egs J) i).length≤1000000) :
    Calls Tryz.prog 111 [.pointer (some ⟨nb,0,none⟩),.int .i64 (a0:Int),.int .i64 (b0:Int),.int .i64 most,.int .i64 pas,.int .i64 tick].toArray w (Ret (fun u w'=>u = .tuple #[]∧∃ EA' ec' A' c',St w F [boxM nb 157 [.int .i64 (P:Int),st1,st2,.int .i64 (T:Int),.slice EA' (egs (J++[⟨a0,b0,most,⟨pas,0,tick,0⟩⟩])).length ec',.slice AA (k) (k),.int .i64 (vol)],ownM 184 5 EA' (egs (J++[⟨a0,b0,most,⟨pas,0,tick,0⟩⟩])).length ec' (egc (egs (J++[⟨a0,b0,most,⟨pas,0,tick,0⟩⟩])) (egr (J++[⟨a0,b0,most,⟨pas,0,tick,0⟩⟩]))),ownM 23 1 AA (k) (k) (hdc A' (fun z9=>((ixs (egs (J++[⟨a0,b0,most,⟨pas,0,tick,0⟩⟩]))) z9).length) c'),ragM 3 1 (fun q=>q<k) A' (fun z9=>((ixs (egs (J++[⟨a0,b0,most,⟨pas,0,tick,0⟩⟩]))) z9).length) c' (fun z9=>wcl ((ixs (egs (J++[⟨a0,b0,most,⟨pas,0,tick,0⟩⟩]))) z9))] w')):=by
 have hEl:=hY J
 refine enter Tryz.func111 rfl Tryz.ntmps111 rfl (fun a H=>?_)
 skip
 replace S:=S.drew
 refine mI 20 (.p 0 (.p 1 (.p 2 (.q 3 (.p 4 (.p 5 (.p 6 (.p 7 (.q 8 (.p 9 (.p 10 (.q 11 (.p 12 (.p 13 (.p 14 (.q 15 (.p 16 (.e 17 (.e 18 (.p 19 (.e 20 .nil))))))))))))))))))))) (by kernel_rfl) (by kernel_rfl) (S.sel [0,1,2] G G) fun K1 k1=>?_
 refine aR H G G (fun _=>aJ rfl) ?_;clear H a;intro a H
 refine aR H G G (fun _=>cC rfl) ?_;clear H a;intro a H
 refine aR H G G (fun _=>(aF jL rfl)) ?_;clear H a;intro a H
 refine aI H G G (fun _ S=>aE mL rfl (boxM.rd S (i:=0) G G)) ?_;clear H a;intro a H
 refine aR H G G (fun _=>aJ rfl) ?_;clear H a;intro a H
 refine aR H G G (fun _=>aJ rfl) ?_;clear H a;intro a H
 refine aR H G G (fun _=>cC rfl) ?_;clear H a;intro a H
 refine aR H G G (fun _=>(aF jL rfl)) ?_;clear H a;intro a H
 refine aI H G G (fun _ S=>aE mL rfl (boxM.rd S (i:=0) G G)) ?_;clear H a;intro a H
 refine aR H G G (fun _=>aJ rfl) ?_;clear H a;intro a H
 refine aR H G G (fun _=>aX nK qI G G (ownM.adr S (i:=2) rfl (by omega)) (by omega)) ?_;clear H a;intro a H
 refine aI H G G (fun _ S=>aE dL rfl (ownM.rd S (i:=2) rfl (by omega) (by omega))) ?_;clear H a;intro a H
 refine aR H G G (fun _=>aJ rfl) ?_;clear H a;intro a H
 refine aR H G G (fun _=>cC rfl) ?_;clear H a;intro a H
 refine aR H G G (fun _=>(aF fS rfl)) ?_;clear H a;intro a H
 refine aI H G G (fun _ S=>aE jF rfl (boxM.rd S (i:=0) G G)) ?_;clear H a;intro a H
 refine aR H G G (fun _=>dJ iM rfl) ?_;clear H a;intro a H
 refine bE rfl ?_
 refine aL H rfl S aO aW dQ G G G G G G G G G ?_;clear H a S;intro A1 _ a hA1 S H
 refine wpList_nil (And.intro (Or.inr (S.sel [1,2,3] G G)) ?_)
 refine bE rfl ?_
 replace S:=ragM.pull S (i:=4) rfl ha
 refine aY H rfl S aO aW dQ kJ G G (i:=0) G G G (ownM.inS S (i:=0+1) rfl) (gJ (w8one rfl)) (by have h9:=hlen a0 ha;omega) (by have h9:=hlen a0 ha;omega) ?_;clear H a S;intro Aa0 ca0 _ a S H
 replace S:=ragM.put S (i:=4) (p:=a0) rfl ha
 replace S:=ragM.congr S (i:=4) rfl (n':=fun i=>((upd (ixs (egs J)) a0 ((ixs (egs J)) a0++[(egs J).length])) i).length) (cell':=fun i=>wcl ((upd (ixs (egs J)) a0 ((ixs (egs J)) a0++[(egs J).length])) i)) (fun _ _=>rfl) (fun q _=>Hi q) (fun _ _=>rfl) (fun i _=>Em rfl i)
 refine wpList_nil (And.intro (Or.inr (S.sel [1,2,3] G G)) ?_)
 refine aR H G G (fun _=>aX nK qI G G (ownM.adr S (i:=3) rfl (by omega)) (by omega)) ?_;clear H a;intro a H
 refine bE rfl ?_
 refine aZ H S (i:=3) G G G (by omega) (by omega) qI rfl ?_
 clear H a S;intro _ a S H
 replace S:=S.recell (i:=3) rfl (cell':=hdc (upd A a0 Aa0) (fun i=>((upd (ixs (egs J)) a0 ((ixs (egs J)) a0++[(egs J).length])) i).length) (upd c a0 ca0)) (fun k j hk hj=>Tn k j hj)
 refine wpList_nil (And.intro (Or.inl rfl) ?_)
 refine dY ?_
 refine k1 _ _ ?_
 clear k1 K1
 replace S:=(S.sel [0,1,2,3,4] G G)
 replace H:=H.keep [0,1,2,3,4,5] rfl
 refine aA fun K2 k2=>?_
 refine ls 11 H<|sr 3 rfl<|sf fS rfl<|sl S 1 jF G G G<|sr 5 rfl<|sd (aN Pg G G)<|sE ?_;clear H a;intro a H
 refine aL H rfl S iM iK rZ G G G G G G G G G ?_;clear H a S;intro A2 _ a hA2 S H
 refine aY H rfl S iM iK rZ Oz G G (i:=3) G G G (ownM.inS S (i:=0) rfl) (gJ (five G G G G G)) (by omega) (by omega) ?_;clear H a S;intro A3 c3 _ a S H
 replace S:=S.recell (i:=3) rfl (cell':=egc (egs J++[(⟨a0,b0,pas,tick⟩:Eg)]) (egr (J++[⟨a0,b0,most,⟨pas,0,tick,0⟩⟩]))) (fun k j hk hj=>En (fun q hq=>Iz (by omega)) (by rw [hEl];exact Dg _ _) k j hk hj)
 rw [show (egs J).length+1=(egs J++[(⟨a0,b0,pas,tick⟩:Eg)]).length by simp] at H S
 refine ls 2 H<|sr 1 rfl<|sf fS rfl<|sE ?_;clear H a;intro a H
 refine aH H S (i:=2) G G G G Oe G G ?_
 clear H a S;intro _ a S H
 refine k2 _ _ ?_;clear k2 K2
 replace S:=(S.sel [0,1,2,3,4,5] G G)
 replace H:=H.keep [0,1,2] rfl
 replace S:=S.drew
 refine mI 20 (.p 0 (.p 1 (.p 2 (.q 3 (.p 4 (.p 5 (.p 6 (.p 7 (.q 8 (.p 9 (.p 10 (.q 11 (.p 12 (.p 13 (.p 14 (.q 15 (.p 16 (.e 17 (.e 18 (.p 19 (.e 20 .nil))))))))))))))))))))) (by kernel_rfl) (by kernel_rfl) (S.sel [0,1,2,3,4] G G) fun K3 k3=>?_
 refine aR H G G (fun _=>aJ rfl) ?_;clear H a;intro a H
 refine aR H G G (fun _=>cC rfl) ?_;clear H a;intro a H
 refine aR H G G (fun _=>(aF jL rfl)) ?_;clear H a;intro a H
 refine aI H G G (fun _ S=>aE mL rfl (boxM.rd S (i:=2) G G)) ?_;clear H a;intro a H
 refine aR H G G (fun _=>aJ rfl) ?_;clear H a;intro a H
 refine aR H G G (fun _=>aJ rfl) ?_;clear H a;intro a H
 refine aR H G G (fun _=>cC rfl) ?_;clear H a;intro a H
 refine aR H G G (fun _=>(aF jL rfl)) ?_;clear H a;intro a H
 refine aI H G G (fun _ S=>aE mL rfl (boxM.rd S (i:=2) G G)) ?_;clear H a;intro a H
 refine aR H G G (fun _=>aJ rfl) ?_;clear H a;intro a H
 refine aR H G G (fun _=>aX nK qI G G (ownM.adr S (i:=4) rfl (by omega)) (by omega)) ?_;clear H a;intro a H
 refine aI H G G (fun _ S=>aE dL rfl (ownM.rd S (i:=4) rfl (by omega) (by omega))) ?_;clear H a;intro a H
 refine aR H G G (fun _=>aJ rfl) ?_;clear H a;intro a H
 refine aR H G G (fun _=>cC rfl) ?_;clear H a;intro a H
 refine aR H G G (fun _=>(aF fS rfl)) ?_;clear H a;intro a H
 refine aI H G G (fun _ S=>aE jF rfl (boxM.rd S (i:=2) G G)) ?_;clear H a;intro a H
 refine aR H G G (fun _=>dJ iM rfl) ?_;clear H a;intro a H
 refine bE rfl ?_
 refine aL H rfl S aO aW dQ G G G G G G G G G ?_;clear H a S;intro A4 _ a hA4 S H
 refine wpList_nil (And.intro (Or.inr (S.sel [1,2,3,4,5] G G)) ?_)
 refine bE rfl ?_
 replace S:=ragM.pull S (i:=6) rfl hb
 refine aY H rfl S aO aW dQ kJ G G (i:=0) G G G (ownM.inS S (i:=0+1) rfl) (gJ (w8one rfl)) (by have h9:((upd (ixs (egs J)) a0 (ixs (egs J) a0++[(egs J).length])) b0).length≤(ixs (egs J) b0).length+1:=aAm;have h8:=hlen b0 hb;omega) (by have h9:((upd (ixs (egs J)) a0 (ixs (egs J) a0++[(egs J).length])) b0).length≤(ixs (egs J) b0).length+1:=aAm;have h8:=hlen b0 hb;omega) ?_;clear H a S;intro Ab0 cb0 _ a S H
 replace S:=ragM.put S (i:=6) (p:=b0) rfl hb
 replace S:=ragM.congr S (i:=6) rfl (n':=fun i=>((upd (upd (ixs (egs J)) a0 (ixs (egs J) a0++[(egs J).length])) b0 ((upd (ixs (egs J)) a0 (ixs (egs J) a0++[(egs J).length])) b0++[(egs J).length+1])) i).length) (cell':=fun i=>wcl ((upd (upd (ixs (egs J)) a0 (ixs (egs J) a0++[(egs J).length])) b0 ((upd (ixs (egs J)) a0 (ixs (egs J) a0++[(egs J).length])) b0++[(egs J).length+1])) i)) (fun _ _=>rfl) (fun q _=>Hi q) (fun _ _=>rfl) (fun i _=>Em (by rw [List.length_append];rfl) i)
 refine wpList_nil (And.intro (Or.inr (S.sel [1,2,3,4,5] G G)) ?_)
 refine aR H G G (fun _=>aX nK qI G G (ownM.adr S (i:=5) rfl (by omega)) (by omega)) ?_;clear H a;intro a H
 refine bE rfl ?_
 refine aZ H S (i:=5) G G G (by omega) (by omega) qI rfl ?_
 clear H a S;intro _ a S H
 replace S:=S.recell (i:=5) rfl (cell':=hdc (upd (upd A a0 Aa0) b0 Ab0) (fun i=>((upd (upd (ixs (egs J)) a0 (ixs (egs J) a0++[(egs J).length])) b0 ((upd (ixs (egs J)) a0 (ixs (egs J) a0++[(egs J).length])) b0++[(egs J).length+1])) i).length) (upd (upd c a0 ca0) b0 cb0)) (fun k j hk hj=>Tn k j hj)
 refine wpList_nil (And.intro (Or.inl rfl) ?_)
 refine dY ?_
 refine k3 _ _ ?_
 clear k3 K3
 replace S:=(S.sel [0,1,2,3,4,5,6] G G)
 replace H:=H.keep [0,1,2] rfl
 refine cE ?_
 refine ls 8 H<|sr 3 rfl<|sf fS rfl<|sl S 3 jF G G G<|sr 2 rfl<|sd (aN Pg G G)<|sE ?_;clear H a;intro a H
 refine aL H rfl S iM iK rZ G G G G G G G G G ?_;clear H a S;intro A5 _ a hA5 S H
 refine aY H rfl S iM iK rZ Oz G G (i:=5) G G G (ownM.inS S (i:=0) rfl) (gJ (five G G G G G)) (by simp only [List.length_append,List.length_singleton];omega) (by simp only [List.length_append,List.length_singleton];omega) ?_;clear H a S;intro A6 c6 _ a S H
 replace S:=S.recell (i:=5) rfl (cell':=egc (egs (J++[⟨a0,b0,most,⟨pas,0,tick,0⟩⟩])) (egr (J++[⟨a0,b0,most,⟨pas,0,tick,0⟩⟩]))) (fun k j hk hj=>by rw [Jv];exact En (m:=0) (fun q hq=>rfl) (by rw [List.length_append,hEl];exact Dh _ _) k j hk hj)
 rw [show (egs J++[(⟨a0,b0,pas,tick⟩:Eg)]).length+1=(egs (J++[⟨a0,b0,most,⟨pas,0,tick,0⟩⟩])).length by rw [Jv];simp] at H S
 refine ls 2 H<|sr 1 rfl<|sf fS rfl<|sE ?_;clear H a;intro a H
 refine aH H S (i:=4) G G G G Oe G G ?_
 clear H a S;intro _ a S H
 refine ret0 (fn:=Tryz.f111) rfl H ?_
 replace S:=(S.sel [0,1,2,3,4,5,6,7] G G)
 replace S:=S.recell (i:=6) rfl (cell':=hdc (upd (upd A a0 Aa0) b0 Ab0) (fun i=>(ixs (egs (J++[⟨a0,b0,most,⟨pas,0,tick,0⟩⟩])) i).length) (upd (upd c a0 ca0) b0 cb0)) (fun k j _ _=>by unfold hdc;have e9:=Bk (J:=J) (most:=most) (pas:=pas) (tick:=tick) hab k;dsimp only;rw [e9])
 replace S:=ragM.congr S (i:=7) rfl (n':=fun i=>(ixs (egs (J++[⟨a0,b0,most,⟨pas,0,tick,0⟩⟩])) i).length) (cell':=fun i=>wcl (ixs (egs (J++[⟨a0,b0,most,⟨pas,0,tick,0⟩⟩])) i)) (fun _ _=>rfl) (fun q _=>congrArg List.length (Bk hab q)) (fun _ _=>rfl) (fun i _ k j _ _=>congrArg (fun l=>wcl l k j) (Bk hab i))
 exact ⟨rfl,_,_,_,_,(S.sel [4,5,6,7] G G)⟩
end
section
def w8bcl (L:Nat→Int) (i _j:Nat):Value := .bool (bB L i)
theorem bcl0 {b:Nat} {k j:Nat} (hj:j<1):cput (fun _ _=>Value.bool false) b 0 (.bool true) k j=w8bcl (fun v=>if v=b then 0 else -1) k j:=by
  have:j=0:=by omega
  subst this
  unfold cput w8bcl bB
  dsimp only
  by_cases e:k=b
  · subst e;simp
  · simp [e]
theorem Yu {L:Nat→Int} {p:Nat} {v:Int} (hv:0≤v) {k j:Nat} (hj:j<1):cput (w8bcl L) p 0 (.bool true) k j=w8bcl (upd L p v) k j:=by
  have:j=0:=by omega
  subst this
  unfold cput w8bcl bB upd
  by_cases e:k=p
  · rw [if_pos ⟨e,rfl⟩,if_pos e,decide_eq_true hv]
  · rw [if_neg (fun h=>e h.1),if_neg e]
theorem aBx {n:Nat→Nat} {p v:Nat} {k j:Nat} (hj:j<1):cput (ncl n) p 0 (.int .i64 (v:Int)) k j=ncl (upd n p v) k j:=by
  have:j=0:=by omega
  subst this
  unfold cput ncl upd
  by_cases e:k=p
  · rw [if_pos ⟨e,rfl⟩,if_pos e]
  · rw [if_neg (fun h=>e h.1),if_neg e]
theorem Yv {q:Nat→Nat} {n v:Nat} {x:Value} (hx:x = .int .i64 (v:Int)) {k j:Nat} (hk:k<n+1) (hj:j<1):capp n (ncl q) (fun k' j=>([[x]].getD k' []).getD j undef) k j=ncl (upd q n v) k j:=by
  subst hx
  have:j=0:=by omega
  subst this
  unfold capp ncl upd
  by_cases h:k<n
  · rw [if_pos h,if_neg (by omega)]
  · have e:k=n:=by omega
    subst e
    rw [if_neg h,Nat.sub_self,if_pos rfl];rfl
theorem Eo:∀ k j,j<1→[Value.bool false].getD j undef=(fun _ _=>Value.bool false:Nat→Nat→Value) k j:=by
  intro k j hj
  have:j=0:=by omega
  subst this;rfl
theorem Ep (N:Net) (E:List Eg) (r:Nat→Int) (nb P T:Nat) (st1 st2:Value) (EA:Option Addr) (ec k:Nat) (AA:Option Addr) (A:Nat→Option Addr) (c:Nat→Nat) (vol:Int) (w:World) (F:Nat→Prop) (S:St w F [boxM nb 157 [.int .i64 (P:Int),st1,st2,.int .i64 (T:Int),.slice EA (E).length ec,.slice AA (k) (k),.int .i64 (vol)],ownM 184 5 EA (E).length ec (egc (E) (r)),ownM 23 1 AA (k) (k) (hdc A (fun z9=>((ixs E) z9).length) c),ragM 3 1 (fun q=>q<k) A (fun z9=>((ixs E) z9).length) c (fun z9=>wcl ((ixs E) z9))] w) (K:Lk N E) (W:N.Wf) (hk:N.k=k) (hb0:P*(T+1)<k) (hk2:k≤1000000) (hE:E.length≤1000000) (hP:P≤1000) (hT:T≤1000) :
    Calls Tryz.prog 114 [.pointer (some ⟨nb,0,none⟩)].toArray w (Ret (fun u w'=>∃ IA BA L by_,u = .tuple #[.slice IA k k,.slice BA k k]∧LevOk N (rmE E r) (P*(T+1)) L∧Rch N E r (P*(T+1)) L by_∧St w F [ownM 4 1 IA k k (w8bcl L),ownM 3 1 BA k k (ncl by_),boxM nb 157 [.int .i64 (P:Int),st1,st2,.int .i64 (T:Int),.slice EA (E).length ec,.slice AA (k) (k),.int .i64 (vol)],ownM 184 5 EA (E).length ec (egc (E) (r)),ownM 23 1 AA (k) (k) (hdc A (fun z9=>((ixs E) z9).length) c),ragM 3 1 (fun q=>q<k) A (fun z9=>((ixs E) z9).length) c (fun z9=>wcl ((ixs E) z9))] w')):=by
 refine enter Tryz.func114 rfl Tryz.ntmps114 rfl (fun a H=>?_)
 skip
 refine sS H fun K1 k1=>sr 2 rfl<|sE ?_;clear H a;intro a H
 refine k1 _ ?_;clear k1 K1
 have SR:=(S.sel [0,1,2,3] G G)
 refine fG (X:=Option Addr×Option Addr) [0] H rfl (fun ⟨IA,BA⟩=>[(4,.slice IA k k),(5,.slice BA k k)]) (fun ⟨IA,BA⟩=>[ownM 4 1 IA k k (fun _ _ => .bool false),ownM 3 1 BA k k (ncl (fun _=>0))]) (fun ⟨IA,BA⟩=>True) SR (fun K2 k2=>?_) ?_
 ·skip
  replace H:=H.keep [0] rfl
  replace S:=S.drew
  refine lG 999 (.p 0 (.p 1 (.p 2 (.q 3 (.p 4 (.p 6 (.p 7 (.p 8 (.q 9 (.p 10 (.b2 5 (.p 12 (.e 11 (.p 13 .nil))) 11 (.e 5 (.p 12 (.p 13 .nil)))))))))))))) (by kernel_rfl) (by kernel_rfl) (S.sel [0,1,2,3] G G) ?_
  refine aR H G G (fun _=>aJ rfl) ?_;clear H a;intro a H
  refine aR H G G (fun _=>cC rfl) ?_;clear H a;intro a H
  refine aR H G G (fun _=>(aF jL rfl)) ?_;clear H a;intro a H
  refine aI H G G (fun _ S=>aE mL rfl (boxM.rd S (i:=0) G G)) ?_;clear H a;intro a H
  refine aR H G G (fun _=>dJ nK rfl) ?_;clear H a;intro a H
  refine aR H G G (fun _=>aJ rfl) ?_;clear H a;intro a H
  refine aR H G G (fun _=>cC rfl) ?_;clear H a;intro a H
  refine aR H G G (fun _=>(aF jL rfl)) ?_;clear H a;intro a H
  refine aI H G G (fun _ S=>aE mL rfl (boxM.rd S (i:=0) G G)) ?_;clear H a;intro a H
  refine aR H G G (fun _=>dJ nK rfl) ?_;clear H a;intro a H
  refine sY G G ?_ ?_
  ·skip
   refine eP (n:=k) H rfl S nJ rY Kt Vs rfl (by decide) G G (by omega) (by omega) ?_;clear H a S;intro A1 _ a hA1 S H
   replace S:=S.recell (i:=0) rfl (cell':=fun _ _ => .bool false) (fun k j _ hj=>Eo k j hj)
   refine wpList_nil (And.intro (Or.inr (S.sel [1,2,3,4] G G)) ?_)
   refine aR H G G (fun _=>gF rfl) ?_;clear H a;intro a H
   refine bE rfl ?_
   refine eP (n:=k) H rfl S aO aW dQ kJ rfl (by decide) G G (by omega) (by omega) ?_;clear H a S;intro A2 _ a hA2 S H
   replace S:=S.recell (i:=0) rfl (cell':=ncl (fun _=>0)) (fun k j _ hj=>Ge k j hj)
   refine wpList_nil (And.intro (Or.inr (S.sel [2,3,4,5] G G)) ?_)
   refine aR H G G (fun _=>gF rfl) ?_;clear H a;intro a H
   refine dY ?_
   exact k2 (_,_) a _ (trivial) (S.sel [1,0,2,3,4,5] G G) (H.keep [4,5,0] rfl)
  ·skip
   refine eP (n:=k) H rfl S aO aW dQ kJ rfl (by decide) G G (by omega) (by omega) ?_;clear H a S;intro A3 _ a hA3 S H
   replace S:=S.recell (i:=0) rfl (cell':=ncl (fun _=>0)) (fun k j _ hj=>Ge k j hj)
   refine wpList_nil (And.intro (Or.inr (S.sel [1,2,3,4] G G)) ?_)
   refine bE rfl ?_
   refine eP (n:=k) H rfl S nJ rY Kt Vs rfl (by decide) G G (by omega) (by omega) ?_;clear H a S;intro A4 _ a hA4 S H
   replace S:=S.recell (i:=0) rfl (cell':=fun _ _ => .bool false) (fun k j _ hj=>Eo k j hj)
   refine wpList_nil (And.intro (Or.inr (S.sel [2,3,4,5] G G)) ?_)
   refine aR H G G (fun _=>gF rfl) ?_;clear H a;intro a H
   refine aR H G G (fun _=>gF rfl) ?_;clear H a;intro a H
   refine dY ?_
   exact k2 (_,_) a _ (trivial) (S.sel [0,1,2,3,4,5] G G) (H.keep [4,5,0] rfl)
 clear SR H S a
 intro xm a wm hp S H
 obtain ⟨IA,BA⟩:=xm
 replace H:=H.keep [0,4,5] rfl
 refine aA fun K4 k4=>?_
 refine ls 2 H<|sr 2 rfl<|sE ?_;clear H a;intro a H
 have S1:=(S.sel [2] G G)
 refine aC H G G Tryz.func110 G G (sV E nb P T st1 st2 EA ec k AA A c vol _ _ S1.startR hP hT) ?_;clear H a
 rintro _ _ a ⟨rfl,S2⟩ H
 replace S:=(S.sel [2,0,1,3,4,5] G G).callR (M:=[_]) S2;clear S1 S2
 refine ls 1 H<|si nJ rY G G (ownM.adr S (i:=1) rfl (by omega)) (by omega)<|sE ?_;clear H a;intro a H
 refine aZ H S (i:=1) G G G (by omega) (by omega) rY rfl ?_
 clear H a S;intro _ a S H
 replace S:=S.recell (i:=1) rfl (cell':=w8bcl (fun v=>if v=(P*(T+1)) then 0 else -1)) (fun k j _ hj=>bcl0 hj)
 refine k4 _ _ ?_;clear k4 K4
 refine aA fun K5 k5=>?_
 refine ls 1 H<|sr 1 rfl<|sE ?_;clear H a;intro a H
 have S1:=(S.sel [0] G G)
 refine aC H G G Tryz.func110 G G (sV E nb P T st1 st2 EA ec k AA A c vol _ _ S1.startR hP hT) ?_;clear H a
 rintro _ _ a ⟨rfl,S2⟩ H
 replace S:=(S.sel [0,1,2,3,4,5] G G).callR (M:=[_]) S2;clear S1 S2
 refine aL H rfl S aO aW dQ G G G G G G G G G ?_;clear H a S;intro A5 _ a hA5 S H
 replace S:=S.recell (i:=0) rfl (cell':=ncl (fun _=>(P*(T+1)))) (fun k j hk hj=>Ah hk hj)
 refine ls 1 H<|sr 1 rfl<|sE ?_;clear H a;intro a H
 refine k5 _ _ ?_;clear k5 K5
 refine wp_seq_k fun K6 k6=>?_
 replace H:=H.keep [0,4,5,6] rfl
 refine sS H fun K7 k7=>sr 1 rfl<|sE ?_;clear H a;intro a H
 refine k7 _ ?_;clear k7 K7
 refine wp_block ?_
 refine loop_st (X:=(Nat→Int)×(Nat→Nat)×Nat×Nat×Option Addr×Nat×(Nat→Nat)) (R0:=_) [0,4,5] H rfl (fun ⟨L,qf,ql,h,QA,qc,by_⟩=>[(6,.slice QA ql qc),(7,.int .i64 (h:Int))]) (fun ⟨L,qf,ql,h,QA,qc,by_⟩=>[ownM 4 1 IA k k (w8bcl L),ownM 3 1 BA k k (ncl by_),ownM 3 1 QA ql qc (ncl qf)]) (fun g ⟨L,qf,ql,h,QA,qc,by_⟩=>Bfs N (rmE E r) (P*(T+1)) L qf ql h 0∧Rch N E r (P*(T+1)) L by_∧h≤ql∧g+h=N.k) (N.k) (fun v=>if v=(P*(T+1)) then 0 else -1,fun _=>(P*(T+1)),1,0,_,_,fun _=>0) ?_ (S.sel [2,3,0,1,4,5,6] G G) (H.keep [6,7,0,4,5] rfl) ?_
 · exact ⟨Bfs.start (by omega) (fun _ _=>rfl) rfl,Rch.start (by omega) (fun _ _=>rfl),by omega,by omega⟩
 clear H S a
 intro g1 x1 a w1 hp S H K8 k8
 obtain ⟨L,qf,ql,h,QA,qc,by_⟩:=x1
 dsimp only at hp S H
 obtain ⟨hB,hR,hhq,hgh⟩:=hp
 have hql:=hB.le
 refine wp_seq_k fun K9 k9=>?_
 refine sS H fun K10 k10=>sr 2 rfl<|sL aO rfl<|sr 1 rfl<|sE ?_;clear H a;intro a H
 refine k10 _ ?_;clear k10 K10
 refine condL H rfl (fun hc1=>?_) (fun hc1=>?_)
 ·skip
  refine wp_skip ?_
  refine k9 _ _ ?_
  refine wp_seq_k fun K11 k11=>?_
  refine wp_block ?_
  have hqk:qf h<k:=by have:=(hB.mem h (by omega)).1;omega
  replace H:=H.keep [0,4,5,6,7] rfl
  replace S:=S.drew
  refine sD H fun K12 k12=>sr 2 rfl<|sf jL rfl<|sl S 3 mL G G G<|sr 2 rfl<|si aO aW G G (ownM.adr S (i:=2) rfl (by omega)) (by omega)<|slm aB rfl (ownM.rd S (i:=2) rfl (by omega) (by omega))<|si nK qI G G (ownM.adr S (i:=5) rfl (by omega)) (by omega)<|slm dL rfl (ownM.rd S (i:=5) rfl (by omega) (by omega))<|sr 1 rfl<|sE ?_;clear H a;intro a H
  refine k12 _ ?_;clear k12 K12
  replace H:=H.keep [0,4,5,6,7,8] rfl
  refine sS H fun K13 k13=>sr 1 rfl<|sE ?_;clear H a;intro a H
  refine k13 _ ?_;clear k13 K13
  refine wp_block ?_
  have hln:=K.len (qf h) (by omega)
  refine loop_st (X:=(Nat→Int)×(Nat→Nat)×Nat×Nat×Option Addr×Nat×(Nat→Nat)) (R0:=_) [0,4,5,7,8] H rfl (fun ⟨L2,qf2,ql2,J,QA2,qc2,by2⟩=>[(6,.slice QA2 ql2 qc2),(9,.int .i64 (J:Int))]) (fun ⟨L2,qf2,ql2,J,QA2,qc2,by2⟩=>[ownM 4 1 IA k k (w8bcl L2),ownM 3 1 BA k k (ncl by2),ownM 3 1 QA2 ql2 qc2 (ncl qf2)]) (fun g ⟨L2,qf2,ql2,J,QA2,qc2,by2⟩=>Bfs N (rmE E r) (P*(T+1)) L2 qf2 ql2 h J∧Rch N E r (P*(T+1)) L2 by2∧h<ql2∧J≤N.n (qf h)∧g+J=N.n (qf h)∧qf2 h=qf h) (N.n (qf h)) (L,qf,ql,0,_,_,by_) ?_ (S.sel [0,1,2,3,4,5,6] G G) (H.keep [6,9,0,4,5,7,8] rfl) ?_
  · exact ⟨hB,hR,by omega,by omega,by omega,rfl⟩
  clear H S a
  intro g2 x2 a w2 hp S H K14 k14
  obtain ⟨L2,qf2,ql2,J,QA2,qc2,by2⟩:=x2
  dsimp only at hp S H
  obtain ⟨hB2,hR2,hhq2,hJn,hgJ,hqe⟩:=hp
  have hql2:=hB2.le
  refine wp_seq_k fun K15 k15=>?_
  refine sS H fun K16 k16=>sr 2 rfl<|sL aO rfl<|sr 1 rfl<|sE ?_;clear H a;intro a H
  refine k16 _ ?_;clear k16 K16
  refine condL H rfl (fun hc2=>?_) (fun hc2=>?_)
  ·skip
   dsimp only at hc2
   refine wp_skip ?_
   refine k15 _ _ ?_
   refine wp_seq_k fun K17 k17=>?_
   refine wp_block ?_
   have hbt9:(fun i=>(ixs E i).length) (qf h)=N.n (qf h):=hln
   have hjn:J<N.n (qf h):=by omega
   have hEl:=K.lt (qf h) (by omega) J hjn
   have het:=K.et (qf h) (by omega) J hjn
   have htk:=W.to_lt (qf h) (by omega) J hjn
   rw [←het] at htk
   have hLu:=(hB2.mem h (by omega)).2
   rw [hqe] at hLu
   have hnl:=ragM.le S (i:=6) rfl hqk
   have hmx:maxLen=9223372036854775807:=rfl
   replace H:=H.keep [0,4,5,6,7,8,9] rfl
   replace S:=S.drew
   refine cJ [(0,true),(1,true),(2,true),(3,true),(4,true),(5,true),(6,true),(7,true),(8,true),(9,true),(10,false),(11,false)] (by kernel_rfl) (by kernel_rfl) (S.sel [0,1,2,3,4,5,6] G G) fun K18 k18=>?_
   refine qF H<|qr 2 rfl<|qd rfl (fun _ S=>(aF fS rfl))<|qd rfl (fun _ S=>aE jF rfl (boxM.rd S (i:=3) G G))<|qr 2 rfl<|qd rfl (fun _ S=>aX aO aW G G (ragM.adr S (i:=6) (p:=qf h) rfl hqk (by omega)) (by omega))<|qd rfl (fun _ S=>aE aB rfl (ragM.rd S (i:=6) (p:=qf h) rfl hqk (by omega) (by omega)))<|qd rfl (fun _ S=>aX iM iK G G (ownM.adr S (i:=4) rfl (by omega)) (by omega))<|qd rfl (fun _ S=>(mH Vq iK rfl S (i:=4) rfl (by omega) (by omega)))<|qK ?_;clear H a;intro a H
   refine bA rfl ?_
   refine aM H rfl S rZ ?_;clear H a S;intro b10 _ a hb10 hbw10 S H
   refine wpList_nil (And.intro (S.sel [1,2,3,4,5,6,7] G G) ?_)
   refine bA rfl ?_
   refine aH H S (i:=0) G G G G iK G G ?_
   clear H a S;intro _ a S H
   refine wpList_nil (And.intro (S.sel [1,2,3,4,5,6,7] G G) ?_)
   refine bU ?_
   refine k18 _ _ ?_
   clear k18 K18
   replace H:=H.keep [0,4,5,6,7,8,9,10] rfl
   refine sS H fun K19 k19=>sf lS rfl<|sl S 0 aB G G G<|sr 2 rfl<|sg 6 3 65 71 true G G (fun hg4=>by
       have hq4:=hg4;try simp only [o1,o2,o3,o4,o5,o6,o7,o8,o9,oa] at hq4
       exact sy hg4<|sr 1 rfl<|sy hg4<|sf qS rfl<|sy hg4<|sl S 0 aB G G G<|sy hg4<|si nJ rY G G (ownM.adr S (i:=1) rfl (by omega)) (by omega)<|sy hg4<|slm iV rfl (ownM.rd S (i:=1) rfl (by omega) (by omega))<|sy hg4<|sr 1 rfl<|sz 6 G G G)<|sa G G G<|sE ?_;clear H a;intro a H
   refine k19 _ ?_;clear k19 K19
   refine aT H rfl (fun hc3=>?_) (fun hc3=>?_)
   ·skip
    try simp only [o1,o2,o3,o4,o5,o6,o7,o8,o9,oa] at hc3
    have hLt:L2 (E.getD ((ixs E (qf h)).getD J 0) Eg.zero).t<0:=by have h9:=hc3.2;unfold bB at h9;simpa using h9
    have hvis:=hB2.visit W hhq2 (by rw [hqe];exact hjn) (by rw [hqe];exact hc3.1) (by rw [hqe,←het];exact hLt)
    rw [hqe,←het] at hvis
    have hrv:=hR2.visit (N:=N) (u:=qf h) (j:=J) (by omega) hjn hLu.1 hc3.1 (by rw [←het];exact hLt)
    rw [←het] at hrv
    replace H:=H.keep [0,4,5,6,7,8,9,10] rfl
    refine aA fun K20 k20=>?_
    refine ls 4 H<|sr 1 rfl<|sf qS rfl<|sl S 0 aB G G G<|si nJ rY G G (ownM.adr S (i:=1) rfl (by omega)) (by omega)<|sE ?_;clear H a;intro a H
    refine aZ H S (i:=1) G G G (by omega) (by omega) rY rfl ?_
    clear H a S;intro _ a S H
    replace S:=S.recell (i:=1) rfl (cell':=w8bcl (upd L2 (E.getD ((ixs E (qf h)).getD J 0) Eg.zero).t (L2 (qf h)+1))) (fun k j _ hj=>Yu (by omega) hj)
    refine k20 _ _ ?_;clear k20 K20
    replace H:=H.keep [0,4,5,6,7,8,9,10] rfl
    refine jK 8 (by kernel_rfl) (by kernel_rfl) fun K21 k21=>?_
    replace S:=S.drew
    refine sF H<|sr 1 rfl<|sf qS rfl<|sl S 0 aB G G G<|sr 2 rfl<|si aO aW G G (ragM.adr S (i:=7) (p:=qf h) rfl hqk (by omega)) (by omega)<|slm aB rfl (ragM.rd S (i:=7) (p:=qf h) rfl hqk (by omega) (by omega))<|si aO aW G G (ownM.adr S (i:=2) rfl (by omega)) (by omega)<|sE ?_;clear H a;intro a H
    refine aZ H S (i:=2) G G G (by omega) (by omega) aW rfl ?_
    clear H a S;intro _ a S H
    replace S:=S.recell (i:=2) rfl (cell':=ncl (upd by2 (E.getD ((ixs E (qf h)).getD J 0) Eg.zero).t ((ixs E (qf h)).getD J 0))) (fun k j _ hj=>aBx hj)
    refine k21 _ _ ?_;clear k21 K21
    replace H:=H.keep [0,4,5,6,7,8,9,10] rfl
    refine cE ?_
    refine ls 3 H<|sr 1 rfl<|sf qS rfl<|sl S 0 aB G G G<|sE ?_;clear H a;intro a H
    refine aL H rfl S aO aW dQ G G G G G G G G G ?_;clear H a S;intro A6 _ a hA6 S H
    refine aY H rfl S aO aW dQ kJ G G (i:=4) G G G (ownM.inS S (i:=0) rfl) (gJ (w8one rfl)) (by omega) (by omega) ?_;clear H a S;intro A7 c7 _ a S H
    replace S:=S.recell (i:=4) rfl (cell':=ncl (upd qf2 ql2 (E.getD ((ixs E (qf h)).getD J 0) Eg.zero).t)) (fun k j hk hj=>Yv rfl hk hj)
    refine ls 1 H<|sr 1 rfl<|sE ?_;clear H a;intro a H
    refine k17 _ _ ?_
    refine sO H<|sr 1 rfl<|sd (aG G G (by unfold i64ok;omega))<|sr 1 rfl<|sE ?_;clear H a;intro a H
    exact k14 (g2-1) (_,_,_,J+1,_,_,_) a _ (by omega) (by first|exact ⟨hvis,hrv,by omega,by omega,by omega,by rw [bK _ _ (by omega)];exact hqe⟩|exact ⟨hskp,hR2,hhq2,by omega,by omega,hqe⟩) (S.sel [2,3,4,5,6,7,8] G G) (H.keep [6,9,0,4,5,7,8] rfl)
   try simp only [o1,o2,o3,o4,o5,o6,o7,o8,o9,oa] at hc3
   have hskp:=hB2.skip (by rw [hqe];rintro ⟨h8,h9⟩;rw [←het] at h9;rcases hc3 with h7|h7;(have:0<r ((ixs E (qf h)).getD J 0):=h8;omega);(unfold bB at h7;rw [decide_eq_true_eq] at h7;omega))
   refine wp_skip ?_
   refine k17 _ _ ?_
   replace H:=H.keep [0,4,5,6,7,8,9] rfl
   refine sO H<|sr 1 rfl<|sd (aG G G (by unfold i64ok;omega))<|sr 1 rfl<|sE ?_;clear H a;intro a H
   exact k14 (g2-1) (_,_,_,J+1,_,_,_) a _ (by omega) (by first|exact ⟨hvis,hrv,by omega,by omega,by omega,by rw [bK _ _ (by omega)];exact hqe⟩|exact ⟨hskp,hR2,hhq2,by omega,by omega,hqe⟩) (S.sel [1,2,3,4,5,6,7] G G) (H.keep [6,9,0,4,5,7,8] rfl)
  dsimp only at hc2
  refine wp_exit ?_
  refine k11 _ _ ?_
  refine sO H<|sr 1 rfl<|sd (aG G G (by unfold i64ok;omega))<|sr 1 rfl<|sE ?_;clear H a;intro a H
  exact k8 (g1-1) (L2,qf2,ql2,h+1,QA2,qc2,by2) a _ (by omega) (⟨hB2.next (by rw [hqe];omega),hR2,by omega,by omega⟩) (S.sel [0,1,2,3,4,5,6] G G) (H.keep [6,7,0,4,5] rfl)
 refine wp_exit ?_
 refine k6 _ _ ?_
 replace H:=H.keep [4,5] rfl
 refine sS H fun K26 k26=>sr 4 rfl<|sE ?_;clear H a;intro a H
 refine k26 _ ?_;clear k26 K26
 refine wp_ret ?_
 refine ret2 (fn:=Tryz.f114) rfl H G G ?_
 exact ⟨_,_,L,by_,rfl,hB.done (by omega),hR,(S.sel [0,1,3,4,5,6] G G)⟩
end
section
theorem rO (pl:Int) (ps:List Psg) (PA:Option Addr) (pc:Nat) (xs:List Int) (XA:Option Addr) (xc:Nat) (pe:List Int) (BA:Option Addr) (bc:Nat) (w:World) (hpe:InS w noF 1 BA pe.length (icl pe)) (hpen:pe.length≤9223372036854775807) :
    Calls Tryz.prog 61 [.agg [.int .i64 pl,.slice PA ps.length pc,.slice XA xs.length xc].toArray,.slice BA pe.length bc].toArray w (Ret (fun v w'=>v = .bool (fI pl pe)∧St w noF [] w')):=by
 refine enter Tryz.func61 rfl Tryz.ntmps61 rfl (fun a H=>?_)
 have S:=St.start w
 refine aA fun K1 k1=>?_
 refine aP H rfl S G G ?_;clear H a S;intro b2 _ a hb2 hbw2 S H
 refine ls 1 H<|sr 1 rfl<|sE ?_;clear H a;intro a H
 refine k1 _ _ ?_;clear k1 K1
 refine wp_seq_k fun K2 k2=>?_
 refine sS H fun K3 k3=>sr 1 rfl<|sE ?_;clear H a;intro a H
 refine k3 _ ?_;clear k3 K3
 refine wp_block ?_
 refine loop_st (X:=Nat) (R0:=_) [1,2] H rfl (fun k=>[(5,.int .i64 (k:Int))]) (fun k=>[]) (fun g k=>k≤pe.length∧g+k=pe.length∧allN (fun k=>decide (0≤pe.getD k 0∧pe.getD k 0≤1000)) k=true) (pe.length) 0 ?_ (S.sel [0] G G) (H.keep [5,1,2] rfl) ?_
 · exact ⟨by omega,by omega,rfl⟩
 clear H S a
 intro g1 x1 a w1 hp S H K4 k4
 obtain ⟨k,rfl⟩:∃ y,y=x1:=⟨_,rfl⟩
 refine wp_seq_k fun K5 k5=>?_
 refine sS H fun K6 k6=>sr 2 rfl<|sL aO rfl<|sr 1 rfl<|sE ?_;clear H a;intro a H
 refine k6 _ ?_;clear k6 K6
 refine condL H rfl (fun hc1=>?_) (fun hc1=>?_)
 ·skip
  refine wp_skip ?_
  refine k5 _ _ ?_
  refine wp_seq_k fun K7 k7=>?_
  refine wp_block ?_
  replace H:=H.keep [1,2,5] rfl
  refine sS H fun K8 k8=>sr 2 rfl<|si aO aW G G (hpe.adr (by omega)) (by omega)<|slm aB rfl (hpe.rd S (by omega) (by omega))<|sc rfl Tryz.func55 G G (cW _ _ _ _)<|sr 1 rfl<|sE ?_;clear H a;intro a H
  refine k8 _ ?_;clear k8 K8
  refine aT H rfl (fun hc2=>?_) (fun hc2=>?_)
  ·skip
   try simp only [o1,o2,o3,o4,o5,o6,o7,o8,o9,oa] at hc2
   refine sS H fun K9 k9=>sr 1 rfl<|sE ?_;clear H a;intro a H
   refine k9 _ ?_;clear k9 K9
   refine wp_ret ?_
   refine ret1 (fn:=Tryz.f61) rfl H rfl ?_
   refine ⟨congrArg Value.bool ?_,(S.sel [] G G)⟩;unfold fI;rw [iB (k:=k) (by omega) (by rw [decide_eq_false_iff_not];omega)];rfl
  try simp only [o1,o2,o3,o4,o5,o6,o7,o8,o9,oa] at hc2
  refine wp_skip ?_
  refine k7 _ _ ?_
  replace H:=H.keep [1,2,5] rfl
  refine sO H<|sr 1 rfl<|sd (aG G G (by unfold i64ok;omega))<|sr 1 rfl<|sE ?_;clear H a;intro a H
  exact k4 (g1-1) (k+1) a _ (by omega) (⟨by omega,by omega,dA hp.2.2 (by rw [decide_eq_true_eq];omega)⟩) (S.sel [0] G G) (H.keep [5,1,2] rfl)
 refine wp_exit ?_
 refine k2 _ _ ?_
 refine sS H fun K11 k11=>sr 1 rfl<|sL aO rfl<|sf dK rfl<|sl S 0 aB G G G<|sr 2 rfl<|sE ?_;clear H a;intro a H
 refine k11 _ ?_;clear k11 K11
 refine wp_ret ?_
 refine ret1 (fn:=Tryz.f61) rfl H rfl ?_
 refine ⟨congrArg Value.bool ?_,(S.sel [] G G)⟩;unfold fI;rw [show pe.length=k by omega,hp.2.2,Bool.true_and]
theorem Bl (pl:Int) (ps:List Psg) (PA:Option Addr) (pc:Nat) (xs:List Int) (XA:Option Addr) (xc:Nat) (day:List Hq) (HA:Option Addr) (hcp:Nat) (DA:Nat→Option Addr) (dc:Nat→Nat) (w:World) (hps:InS w noF 7 PA ps.length (pcell ps)) (hpn:ps.length≤9223372036854775807) (hxs:InS w noF 1 XA xs.length (icl xs)) (hxn:xs.length≤9223372036854775807) (hday:InS w noF 3 HA day.length (hcl day DA dc)) (hdn:day.length≤9223372036854775807) (hdp:∀ k,k<day.length→InS w noF 1 (DA k) (day.getD k Hq.zero).pe.length (icl (day.getD k Hq.zero).pe)) (hdl:∀ k,k<day.length→(day.getD k Hq.zero).pe.length≤9223372036854775807) :
    Calls Tryz.prog 57 [.agg [.int .i64 pl,.slice PA ps.length pc,.slice XA xs.length xc].toArray,.slice HA day.length hcp].toArray w (Ret (fun v w'=>v = .int .i64 (dayE pl ps xs day)∧St w noF [] w')):=by
 refine enter Tryz.func57 rfl Tryz.ntmps57 rfl (fun a H=>?_)
 have S:=St.start w
 refine aA fun K1 k1=>?_
 refine aP H rfl S G G ?_;clear H a S;intro b2 _ a hb2 hbw2 S H
 refine ls 1 H<|sr 1 rfl<|sE ?_;clear H a;intro a H
 refine k1 _ _ ?_;clear k1 K1
 refine aA fun K2 k2=>?_
 refine ls 1 H<|sd ((aD cA cP rfl S (i:=0) G G))<|sE ?_;clear H a;intro a H
 refine aC H G G Tryz.func41 G G (lD pl ps PA pc xs XA xc _ (hps.now S) hpn (hxs.now S) hxn) ?_;clear H a
 rintro _ _ a ⟨rfl,S2⟩ H
 replace S:=S.call S2;clear S2
 refine ls 1 H<|sr 1 rfl<|sE ?_;clear H a;intro a H
 refine k2 _ _ ?_;clear k2 K2
 refine wp_seq_k fun K3 k3=>?_
 refine sS H fun K4 k4=>sr 2 rfl<|sE ?_;clear H a;intro a H
 refine k4 _ ?_;clear k4 K4
 refine condN H rfl (fun hc1=>?_) (fun hc1=>?_)
 ·skip
  refine sS H fun K5 k5=>sr 2 rfl<|sE ?_;clear H a;intro a H
  refine k5 _ ?_;clear k5 K5
  refine wp_ret ?_
  refine ret1 (fn:=Tryz.f57) rfl H rfl ?_
  refine ⟨congrArg (Value.int .i64) ?_,(S.sel [] G G)⟩;unfold dayE;rw [if_pos hc1]
 have hst:stE pl ps xs=0:=by omega
 refine wp_skip ?_
 refine k3 _ _ ?_
 refine wp_seq_k fun K6 k6=>?_
 replace H:=H.keep [1,2] rfl
 refine sS H fun K7 k7=>sr 1 rfl<|sL lJ rfl<|sr 1 rfl<|sE ?_;clear H a;intro a H
 refine k7 _ ?_;clear k7 K7
 refine condL H rfl (fun hc2=>?_) (fun hc2=>?_)
 ·skip
  refine sS H fun K8 k8=>sr 1 rfl<|sE ?_;clear H a;intro a H
  refine k8 _ ?_;clear k8 K8
  refine wp_ret ?_
  refine ret1 (fn:=Tryz.f57) rfl H rfl ?_
  refine ⟨congrArg (Value.int .i64) ?_,(S.sel [] G G)⟩;unfold dayE;rw [if_neg (by omega),if_neg];unfold dayOk;rw [decide_eq_false (p:=day.length≤48) (by omega),Bool.and_false];simp
 refine wp_skip ?_
 refine k6 _ _ ?_
 refine wp_seq_k fun K9 k9=>?_
 refine sS H fun K10 k10=>sr 1 rfl<|sE ?_;clear H a;intro a H
 refine k10 _ ?_;clear k10 K10
 refine wp_block ?_
 refine loop_st (X:=Nat) (R0:=_) [1,2] H rfl (fun k=>[(6,.int .i64 (k:Int))]) (fun k=>[]) (fun g k=>k≤day.length∧g+k=day.length∧allN (fun k=>hqOk pl (day.getD k Hq.zero)) k=true) (day.length) 0 ?_ (S.sel [0] G G) (H.keep [6,1,2] rfl) ?_
 · exact ⟨by omega,by omega,rfl⟩
 clear H S a
 intro g1 x1 a w1 hp S H K11 k11
 obtain ⟨k,rfl⟩:∃ y,y=x1:=⟨_,rfl⟩
 refine wp_seq_k fun K12 k12=>?_
 refine sS H fun K13 k13=>sr 2 rfl<|sL lJ rfl<|sr 1 rfl<|sE ?_;clear H a;intro a H
 refine k13 _ ?_;clear k13 K13
 refine condL H rfl (fun hc3=>?_) (fun hc3=>?_)
 ·skip
  refine wp_skip ?_
  refine k12 _ _ ?_
  refine wp_seq_k fun K14 k14=>?_
  refine wp_block ?_
  by_cases hB:0≤(day.getD k Hq.zero).out∧(day.getD k Hq.zero).out≤4095
  ·skip
   replace H:=H.keep [1,2,6] rfl
   replace S:=S.drew
   refine cJ [(0,true),(1,true),(2,true),(3,true),(4,true),(5,false),(6,true),(7,true),(8,true),(9,true),(10,true),(11,true),(12,true),(13,true),(14,false),(15,true),(16,true)] (by kernel_rfl) (by kernel_rfl) (S.sel [0] G G) fun K15 k15=>?_
   refine qF H<|qr 2 rfl<|qd rfl (fun _ S=>aX lJ mK G G (hday.adr (by omega)) (by omega))<|qd rfl (fun _ S=>(bR qQ rfl))<|qd rfl (fun _ S=>aE aB rfl (hday.rd S (by omega) (by omega)))<|qK ?_;clear H a;intro a H
   refine bA rfl ?_
   refine aC H G G Tryz.func60 G G (uQ _ _) ?_;clear H a
   rintro _ _ a ⟨rfl,rfl⟩ H
   rw [decide_eq_true hB.1,decide_eq_true hB.2,Bool.and_self] at H
   refine wpList_nil (And.intro (S.sel [0] G G) ?_)
   refine qF H<|qr 2 rfl<|qK ?_;clear H a;intro a H
   refine aK H G G G G (fun _ S=>(aD cA cP rfl S (i:=0) G G)) ?_;clear H a;intro a H
   refine aK H G G G G (fun _ S=>aJ rfl) ?_;clear H a;intro a H
   refine aK H G G G G (fun _ S=>aJ rfl) ?_;clear H a;intro a H
   refine aK H G G G G (fun _ S=>aX lJ mK G G (hday.adr (by omega)) (by omega)) ?_;clear H a;intro a H
   refine aK H G G G G (fun _ S=>(bR Cd rfl)) ?_;clear H a;intro a H
   refine aK H G G G G (fun _ S=>aE dL rfl (hday.rd S (by omega) (by omega))) ?_;clear H a;intro a H
   refine bA rfl ?_
   refine bZ H G G ?_
   refine aC H G G Tryz.func61 G G (rO pl ps PA pc xs XA xc (day.getD k Hq.zero).pe (DA k) (dc k) _ ((hdp k (by omega)).now S) (hdl k (by omega))) ?_;clear H a
   rintro _ _ a ⟨rfl,S2⟩ H
   replace S:=S.call S2;clear S2
   refine wpList_nil (And.intro (S.sel [0] G G) ?_)
   refine aK H G G G G (fun _ S=>kD rfl) ?_;clear H a;intro a H
   refine qF H<|qd rfl (fun _ S=>(dN G G G))<|qK ?_;clear H a;intro a H
   refine bU ?_
   refine k15 _ _ ?_
   clear k15 K15
   refine aT H rfl (fun hc4=>?_) (fun hc4=>?_)
   ·skip
    try simp only [o1,o2,o3,o4,o5,o6,o7,o8,o9,oa] at hc4
    replace H:=H.keep [] rfl
    refine sS H fun K16 k16=>sr 1 rfl<|sE ?_;clear H a;intro a H
    refine k16 _ ?_;clear k16 K16
    refine wp_ret ?_
    refine ret1 (fn:=Tryz.f57) rfl H rfl ?_
    refine ⟨congrArg (Value.int .i64) ?_,(S.sel [] G G)⟩;unfold dayE;rw [if_neg (by omega),wH (k:=k) (by omega) (by unfold hqOk;rw [hc4.resolve_left (by simp),Bool.and_false])];rfl
   try simp only [o1,o2,o3,o4,o5,o6,o7,o8,o9,oa] at hc4
   refine wp_skip ?_
   refine k14 _ _ ?_
   refine sO H<|sr 1 rfl<|sd (aG G G (by unfold i64ok;omega))<|sr 1 rfl<|sE ?_;clear H a;intro a H
   exact k11 (g1-1) (k+1) a _ (by omega) (⟨by omega,by omega,dA hp.2.2 (by unfold hqOk;rw [decide_eq_true hB,hc4.2];rfl)⟩) (S.sel [0] G G) (H.keep [6,1,2] rfl)
  replace H:=H.keep [1,2,6] rfl
  replace S:=S.drew
  refine cJ [(0,true),(1,true),(2,true),(3,true),(4,true),(5,false),(6,true),(7,true),(8,true),(9,true),(10,true),(11,true),(12,true),(13,true),(14,true),(15,true),(16,true)] (by kernel_rfl) (by kernel_rfl) (S.sel [0] G G) fun K18 k18=>?_
  refine qF H<|qr 2 rfl<|qd rfl (fun _ S=>aX lJ mK G G (hday.adr (by omega)) (by omega))<|qd rfl (fun _ S=>(bR qQ rfl))<|qd rfl (fun _ S=>aE aB rfl (hday.rd S (by omega) (by omega)))<|qK ?_;clear H a;intro a H
  refine bA rfl ?_
  refine aC H G G Tryz.func60 G G (uQ _ _) ?_;clear H a
  rintro _ _ a ⟨rfl,rfl⟩ H
  rw [Bool.and_eq_false_iff.2 (by simp only [decide_eq_false_iff_not];omega)] at H
  refine wpList_nil (And.intro (S.sel [0] G G) ?_)
  refine qF H<|qr 2 rfl<|qK ?_;clear H a;intro a H
  refine aQ H G G G G G ?_;clear H a;intro a H
  refine aQ H G G G G G ?_;clear H a;intro a H
  refine aQ H G G G G G ?_;clear H a;intro a H
  refine aQ H G G G G G ?_;clear H a;intro a H
  refine aQ H G G G G G ?_;clear H a;intro a H
  refine aQ H G G G G G ?_;clear H a;intro a H
  refine aQ H G G G G G ?_;clear H a;intro a H
  refine aQ H G G G G G ?_;clear H a;intro a H
  refine qF H<|qd rfl (fun _ S=>(bH G G G))<|qK ?_;clear H a;intro a H
  refine bU ?_
  refine k18 _ _ ?_
  clear k18 K18
  refine aT H rfl (fun hc5=>?_) (fun hc5=>?_)
  ·skip
   skip
   replace H:=H.keep [] rfl
   refine sS H fun K19 k19=>sr 1 rfl<|sE ?_;clear H a;intro a H
   refine k19 _ ?_;clear k19 K19
   refine wp_ret ?_
   refine ret1 (fn:=Tryz.f57) rfl H rfl ?_
   refine ⟨congrArg (Value.int .i64) ?_,(S.sel [] G G)⟩;unfold dayE;rw [if_neg (by omega),wH (k:=k) (by omega) (by unfold hqOk;rw [decide_eq_false hB];rfl)];rfl
  skip
  cases hc5
 refine wp_exit ?_
 refine k9 _ _ ?_
 refine sS H fun K20 k20=>sr 1 rfl<|sE ?_;clear H a;intro a H
 refine k20 _ ?_;clear k20 K20
 refine wp_ret ?_
 refine ret1 (fn:=Tryz.f57) rfl H rfl ?_
 obtain rfl:k=day.length:=by omega
 exact ⟨congrArg (Value.int .i64) (yP hst (by rw [Cv hp.2.2];exact decide_eq_true (by omega))).symm,(S.sel [] G G)⟩
theorem rP (pl:Int) (ps:List Psg) (PA:Option Addr) (pc:Nat) (xs:List Int) (XA:Option Addr) (xc:Nat) (day:List Hq) (HA:Option Addr) (hcp:Nat) (DA:Nat→Option Addr) (dc:Nat→Nat) (l:List Prm) (LA:Option Addr) (lc:Nat) (w:World) (hps:InS w noF 7 PA ps.length (pcell ps)) (hpn:ps.length≤9223372036854775807) (hxs:InS w noF 1 XA xs.length (icl xs)) (hxn:xs.length≤9223372036854775807) (hday:InS w noF 3 HA day.length (hcl day DA dc)) (hdn:day.length≤9223372036854775807) (hdp:∀ k,k<day.length→InS w noF 1 (DA k) (day.getD k Hq.zero).pe.length (icl (day.getD k Hq.zero).pe)) (hdl:∀ k,k<day.length→(day.getD k Hq.zero).pe.length≤9223372036854775807) (hl:InS w noF 5 LA l.length (dH l)) (hln:l.length≤9223372036854775807) :
    Calls Tryz.prog 42 [.agg [.int .i64 pl,.slice PA ps.length pc,.slice XA xs.length xc].toArray,.slice HA day.length hcp,.slice LA l.length lc].toArray w (Ret (fun v w'=>v = .int .i64 (keptE pl ps xs day l)∧St w noF [] w')):=by
 refine enter Tryz.func42 rfl Tryz.ntmps42 rfl (fun a H=>?_)
 have S:=St.start w
 refine aA fun K1 k1=>?_
 refine aP H rfl S G G ?_;clear H a S;intro b3 _ a hb3 hbw3 S H
 refine ls 1 H<|sr 1 rfl<|sE ?_;clear H a;intro a H
 refine k1 _ _ ?_;clear k1 K1
 refine aA fun K2 k2=>?_
 refine ls 2 H<|sd ((aD cA cP rfl S (i:=0) G G))<|sr 1 rfl<|sE ?_;clear H a;intro a H
 refine aC H G G Tryz.func57 G G (Bl pl ps PA pc xs XA xc day HA hcp DA dc _ (hps.now S) hpn (hxs.now S) hxn (hday.now S) hdn (fun k hk=>(hdp k hk).now S) hdl) ?_;clear H a
 rintro _ _ a ⟨rfl,S2⟩ H
 replace S:=S.call S2;clear S2
 refine ls 1 H<|sr 1 rfl<|sE ?_;clear H a;intro a H
 refine k2 _ _ ?_;clear k2 K2
 refine wp_seq_k fun K3 k3=>?_
 refine sS H fun K4 k4=>sr 2 rfl<|sE ?_;clear H a;intro a H
 refine k4 _ ?_;clear k4 K4
 refine condN H rfl (fun hc1=>?_) (fun hc1=>?_)
 ·skip
  replace H:=H.keep [7] rfl
  refine sS H fun K5 k5=>sr 2 rfl<|sE ?_;clear H a;intro a H
  refine k5 _ ?_;clear k5 K5
  refine wp_ret ?_
  refine ret1 (fn:=Tryz.f42) rfl H rfl ?_
  refine ⟨congrArg (Value.int .i64) ?_,(S.sel [] G G)⟩;unfold keptE;rw [if_pos hc1]
 have hdE:dayE pl ps xs day=0:=by omega
 have hV:=gK (qW hdE).1
 have hP10:=hV.size
 refine wp_skip ?_
 refine k3 _ _ ?_
 refine wp_seq_k fun K6 k6=>?_
 refine sS H fun K7 k7=>sr 1 rfl<|sL eS rfl<|sr 1 rfl<|sE ?_;clear H a;intro a H
 refine k7 _ ?_;clear k7 K7
 refine condL H rfl (fun hc2=>?_) (fun hc2=>?_)
 ·skip
  refine sS H fun K8 k8=>sr 1 rfl<|sE ?_;clear H a;intro a H
  refine k8 _ ?_;clear k8 K8
  refine wp_ret ?_
  refine ret1 (fn:=Tryz.f42) rfl H rfl ?_
  exact ⟨congrArg (Value.int .i64) (oO hdE (Cw (by omega))).symm,(S.sel [] G G)⟩
 refine wp_skip ?_
 refine k6 _ _ ?_
 refine wp_seq_k fun K9 k9=>?_
 refine sS H fun K10 k10=>sr 1 rfl<|sE ?_;clear H a;intro a H
 refine k10 _ ?_;clear k10 K10
 refine wp_block ?_
 refine loop_st (X:=Nat) (R0:=_) [2,3] H rfl (fun k=>[(8,.int .i64 (k:Int))]) (fun k=>[]) (fun g k=>k≤l.length∧g+k=l.length∧allN (fun k=>prmOk pl (l.getD k Prm.zero)) k=true) (l.length) 0 ?_ (S.sel [0] G G) (H.keep [8,2,3] rfl) ?_
 · exact ⟨by omega,by omega,rfl⟩
 clear H S a
 intro g1 x1 a w1 hp S H K11 k11
 obtain ⟨k,rfl⟩:∃ y,y=x1:=⟨_,rfl⟩
 refine wp_seq_k fun K12 k12=>?_
 refine sS H fun K13 k13=>sr 2 rfl<|sL eS rfl<|sr 1 rfl<|sE ?_;clear H a;intro a H
 refine k13 _ ?_;clear k13 K13
 refine condL H rfl (fun hc3=>?_) (fun hc3=>?_)
 ·skip
  refine wp_skip ?_
  refine k12 _ _ ?_
  refine wp_seq_k fun K14 k14=>?_
  refine wp_block ?_
  replace H:=H.keep [2,3,8] rfl
  refine aA fun K15 k15=>?_
  refine ls 4 H<|sr 2 rfl<|si eS eL G G (hl.adr (by omega)) (by omega)<|sd ((aU vK eL rfl S hl (by omega) (by omega)))<|sE ?_;clear H a;intro a H
  refine aM H rfl S gI ?_;clear H a S;intro b9 _ a hb9 hbw9 S H
  refine aH H S (i:=0) G G G G eL G G ?_
  clear H a S;intro _ a S H
  refine k15 _ _ ?_;clear k15 K15
  replace H:=H.keep [2,3,8,9] rfl
  refine sS H fun K16 k16=>sf mO rfl<|sl S 0 aB G G G<|sf dK rfl<|sl S 1 aB G G G<|sd (aS G G (by unfold i64ok;omega))<|sc rfl Tryz.func55 G G (cW _ _ _ _)<|sr 2 rfl<|sg 7 7 36 43 false G G (fun hg8=>by
      have hq8:=hg8;try simp only [o1,o2,o3,o4,o5,o6,o7,o8,o9,oa] at hq8
      exact sy hg8<|sf mP rfl<|sy hg8<|sl S 0 aB G G G<|sy hg8<|sf dK rfl<|sy hg8<|sl S 1 aB G G G<|sy hg8<|sd (aS G G (by unfold i64ok;omega))<|sy hg8<|sc rfl Tryz.func55 G G (cW _ _ _ _)<|sy hg8<|sr 1 rfl<|sz 7 G G G)<|so G G G<|sr 1 rfl<|sg 6 16 45 51 false G G (fun hg17=>by
      have hq17:=hg17;try simp only [o1,o2,o3,o4,o5,o6,o7,o8,o9,oa] at hq17
      exact sy hg17<|sf mQ rfl<|sy hg17<|sl S 0 aB G G G<|sy hg17<|sf kZ rfl<|sy hg17<|sl S 0 aB G G G<|sy hg17<|sc rfl Tryz.func55 G G (cW _ _ _ _)<|sy hg17<|sr 1 rfl<|sz 6 G G G)<|so G G G<|sr 1 rfl<|sg 3 24 53 56 false G G (fun hg25=>by
      have hq25:=hg25;try simp only [o1,o2,o3,o4,o5,o6,o7,o8,o9,oa] at hq25
      exact sy hg25<|sf kZ rfl<|sy hg25<|sl S 0 aB G G G<|sy hg25<|sr 1 rfl<|sz 3 G G G)<|so G G G<|sE ?_;clear H a;intro a H
  refine k16 _ ?_;clear k16 K16
  refine aT H rfl (fun hc4=>?_) (fun hc4=>?_)
  ·skip
   try simp only [o1,o2,o3,o4,o5,o6,o7,o8,o9,oa] at hc4
   replace H:=H.keep [] rfl
   refine sS H fun K17 k17=>sr 1 rfl<|sE ?_;clear H a;intro a H
   refine k17 _ ?_;clear k17 K17
   refine wp_ret ?_
   refine ret1 (fn:=Tryz.f42) rfl H rfl ?_
   exact ⟨congrArg (Value.int .i64) (oO hdE (It (k:=k) (by omega) (Qt (by omega)))).symm,(S.sel [] G G)⟩
  try simp only [o1,o2,o3,o4,o5,o6,o7,o8,o9,oa] at hc4
  refine wp_skip ?_
  refine k14 _ _ ?_
  refine sO H<|sr 1 rfl<|sd (aG G G (by unfold i64ok;omega))<|sr 1 rfl<|sE ?_;clear H a;intro a H
  exact k11 (g1-1) (k+1) a _ (by omega) (⟨by omega,by omega,dA hp.2.2 (oN.2 (by omega))⟩) (S.sel [1] G G) (H.keep [8,2,3] rfl)
 refine wp_exit ?_
 refine k9 _ _ ?_
 refine sS H fun K19 k19=>sr 1 rfl<|sE ?_;clear H a;intro a H
 refine k19 _ ?_;clear k19 K19
 refine wp_ret ?_
 refine ret1 (fn:=Tryz.f42) rfl H rfl ?_
 obtain rfl:k=l.length:=by omega
 exact ⟨congrArg (Value.int .i64) (wK hdE (Iu hp.2.2 (by omega))).symm,(S.sel [] G G)⟩
end
section
theorem zN (E:List Eg) (nb P T:Nat) (st1 st2:Value) (EA:Option Addr) (ec k:Nat) (AA:Option Addr) (A:Nat→Option Addr) (c:Nat→Nat) (vol:Int) (p:Int) (t:Nat) (w:World) (F:Nat→Prop) (S:St w F [boxM nb 157 [.int .i64 (P:Int),st1,st2,.int .i64 (T:Int),.slice EA (E).length ec,.slice AA (k) (k),.int .i64 (vol)]] w) (hp:0≤p∧p≤1000) (ht:t≤1000) (hT:T≤1000) :
    Calls Tryz.prog 112 [.pointer (some ⟨nb,0,none⟩),.int .i64 p,.int .i64 (t:Int)].toArray w (Ret fun u w'=>u = .int .i64 ((ndR T p.toNat t:Nat):Int)∧w'=w):=by
  have h:=oD E nb P T st1 st2 EA ec k AA A c vol p.toNat t w F S (by omega) ht hT
  rw [Int.toNat_of_nonneg hp.1] at h
  exact h
def jrKs (T:Nat) (xs:List Int) (out:Int) (p:Psg) (i t:Nat):Nat→List Jn
  | 0=>[]
  | k+1=>jrKs T xs out p i t k++jrOne T xs out p i t k
theorem To {T:Nat} {xs:List Int} {out:Int} {p:Psg} {i t:Nat}:∀ k,(jrKs T xs out p i t k).length≤k:=by
  intro k
  induction k with
  | zero=>exact Nat.le_refl 0
  | succ k ih=>rw [jrKs,List.length_append];have:=sK (T:=T) (xs:=xs) (out:=out) (p:=p) (i:=i) (t:=t) (k:=k);omega
section
variable {P T:Nat} {pe xs:List Int} {out:Int} {ps:List Psg} {p t i k:Nat} {A:List Jn} {b:Jn}
theorem Yw (h:hasI xs p=true):(A++(b::cN P T xs p t))++[⟨ndR T p t,P*(T+1)+1,1073741824,⟨-1,0,0,0⟩⟩]=A++(b::cN P T xs p (t+1)):=by
  rw [cN,fM,if_pos h];simp [farI,rmv]
theorem Yx (h:hasI xs p=false) (ht:t<T):(A++(b::cN P T xs p t))++[⟨ndR T p t,ndR T p (t+1),1073741824,⟨-1,0,0,0⟩⟩]=A++(b::cN P T xs p (t+1)):=by
  rw [cN,fM,if_neg (by rw [h];simp),if_pos ht];simp [farI,rmv]
theorem Yy (h:hasI xs p=false) (ht:¬ t<T):A++(b::cN P T xs p t)=A++(b::cN P T xs p (t+1)):=by
  rw [cN,fM,if_neg (by rw [h];simp),if_neg ht,List.append_nil]
theorem aBy:A++[⟨P*(T+1),ndR T p 0,pe.getD p 0,⟨-1,0,0,0⟩⟩]=A++(jrBeg P T pe p::cN P T xs p 0):=rfl
theorem Tp:aV P T pe xs p++(jrBeg P T pe p::cN P T xs p (T+1))=aV P T pe xs (p+1):=rfl
theorem aBz:(A++(bM T xs out ps t++dF T xs out ps t i))++jrKs T xs out (ps.getD i Psg.zero) i t 2=A++(bM T xs out ps t++dF T xs out ps t (i+1)):=by
  simp [dF,jrKs]
theorem aCa:A++(bM T xs out ps t++dF T xs out ps t ps.length)=A++bM T xs out ps (t+1):=rfl
theorem Tq {q:Psg} (h:jrOne T xs out q i t k=[]):A++jrKs T xs out q i t k=A++jrKs T xs out q i t (k+1):=by rw [jrKs,h,List.append_nil]
theorem aCb {q:Psg} {j:Jn} (h:jrOne T xs out q i t k=[j]):(A++jrKs T xs out q i t k)++[j]=A++jrKs T xs out q i t (k+1):=by rw [jrKs,h];simp
theorem Hj {q:Psg} (h:¬ ((0≤goneI out q (endI q k)∧(t:Int)+goneI out q (endI q k)≤T)∧hasI xs (endI q k)=false)):jrOne T xs out q i t k=[]:=if_neg h
theorem Yz {q:Psg} (h:(0≤goneI out q (endI q k)∧(t:Int)+goneI out q (endI q k)≤T)∧hasI xs (endI q k)=false):jrOne T xs out q i t k=[⟨ndR T (endI q k).toNat t,ndR T (endI q (1-k)).toNat (t+(goneI out q (endI q k)).toNat),q.wide,⟨i,0,t,0⟩⟩]:=if_pos h
end
theorem go3 (d T t:Int):d<0∨(0≤d∧¬ t+d≤T)∨(0≤d∧t+d≤T):=by omega
def ecl (p:Psg) (k _j:Nat):Value := .int .i64 (endI p k)
theorem Za {p:Psg}:∀ k j,k<2→j<1→([[Value.int .i64 p.a],[Value.int .i64 p.b]].getD k []).getD j undef=ecl p k j:=by
  intro k j hk hj
  have:j=0:=by omega
  subst this
  match k,hk with
  | 0,_=>rfl
  | 1,_=>rfl
theorem Zb:∀ k j,j<1→[Value.slice none 0 0].getD j undef=hdc (fun _=>none) (fun i=>(ixs (egs []) i).length) (fun _=>0) k j:=by
  intro k j hj
  have:j=0:=by omega
  subst this;rfl
theorem Hk {E:List Eg} {r:Nat→Int} {e:Nat} {m:Int}:∀ k j,j<5→cput (egc E (upd r e (r e-m))) (tw e) 2 (.int .i64 (upd r e (r e-m) (tw e)+m)) k j=egc E (pushE r e m) k j:=by
  intro k j hj
  rw [Je k j hj,bK _ _ (fun h=>Rg h)]
  rfl
theorem Tr (p:Psg) (out f:Int) (w:World) (hm:p.kind=3→0≤p.mach∧p.mach≤11) :
    Calls Tryz.prog 113 [.agg [.int .i64 p.a,.int .i64 p.b,.int .i64 p.kind,.int .i64 p.ticks,.int .i64 p.wide,.int .i64 p.mach,.int .i64 p.still].toArray,.int .i64 out,.int .i64 f].toArray w (Ret (fun v w'=>v = .int .i64 (goneI out p f)∧St w noF [] w')):=by
 refine enter Tryz.func113 rfl Tryz.ntmps113 rfl (fun a H=>?_)
 have S:=St.start w
 refine aA fun K1 k1=>?_
 refine aP H rfl S G G ?_;clear H a S;intro b3 _ a hb3 hbw3 S H
 refine ls 1 H<|sr 1 rfl<|sE ?_;clear H a;intro a H
 refine k1 _ _ ?_;clear k1 K1
 refine wp_seq_k fun K2 k2=>?_
 refine wp_block ?_
 replace H:=H.keep [1,2,3] rfl
 refine aA fun K3 k3=>?_
 refine ls 2 H<|sd ((aD fO dD rfl S (i:=0) G G))<|sr 1 rfl<|sE ?_;clear H a;intro a H
 refine aC H G G Tryz.func93 G G (zM p f _) ?_;clear H a
 rintro _ _ a ⟨rfl,S2⟩ H
 replace S:=S.call S2;clear S2
 refine ls 7 H<|sr 2 rfl<|sg 3 4 12 15 false G G (fun hg5=>by
     have hq5:=hg5;try simp only [o1,o2,o3,o4,o5,o6,o7,o8,o9,oa] at hq5
     exact sy hg5<|sf eV rfl<|sy hg5<|sl S 0 aB G G G<|sy hg5<|sr 1 rfl<|sz 3 G G G)<|so G G G<|sr 1 rfl<|sE ?_;clear H a;intro a H
 refine k3 _ _ ?_;clear k3 K3
 refine aT H rfl (fun hc1=>?_) (fun hc1=>?_)
 ·skip
  try simp only [o1,o2,o3,o4,o5,o6,o7,o8,o9,oa] at hc1
  replace H:=H.keep [] rfl
  refine sS H fun K4 k4=>sr 1 rfl<|sE ?_;clear H a;intro a H
  refine k4 _ ?_;clear k4 K4
  refine wp_ret ?_
  refine ret1 (fn:=Tryz.f113) rfl H rfl ?_
  refine ⟨congrArg (Value.int .i64) ?_,(S.sel [] G G)⟩;unfold goneI;rw [if_pos hc1]
 try simp only [o1,o2,o3,o4,o5,o6,o7,o8,o9,oa] at hc1
 replace H:=H.keep [1,2,3] rfl
 refine sS H fun K5 k5=>sf eV rfl<|sl S 0 aB G G G<|sr 2 rfl<|sg 4 3 21 25 true G G (fun hg4=>by
     have hq4:=hg4;try simp only [o1,o2,o3,o4,o5,o6,o7,o8,o9,oa] at hq4
     exact sy hg4<|sr 1 rfl<|sy hg4<|sf eW rfl<|sy hg4<|sl S 0 aB G G G<|sy hg4<|sc rfl Tryz.func109 G G (zL _ _ _ (by omega))<|sz 4 G G G)<|sa G G G<|sr 1 rfl<|sE ?_;clear H a;intro a H
 refine k5 _ ?_;clear k5 K5
 refine aT H rfl (fun hc2=>?_) (fun hc2=>?_)
 ·skip
  try simp only [o1,o2,o3,o4,o5,o6,o7,o8,o9,oa] at hc2
  replace H:=H.keep [3] rfl
  refine sS H fun K6 k6=>sf jW rfl<|sl S 0 aB G G G<|sr 1 rfl<|sE ?_;clear H a;intro a H
  refine k6 _ ?_;clear k6 K6
  refine wp_ret ?_
  refine ret1 (fn:=Tryz.f113) rfl H rfl ?_
  refine ⟨congrArg (Value.int .i64) ?_,(S.sel [] G G)⟩;unfold goneI bitI;rw [if_neg (by omega),if_pos hc2]
 try simp only [o1,o2,o3,o4,o5,o6,o7,o8,o9,oa] at hc2
 replace H:=H.keep [2,3] rfl
 refine sS H fun K7 k7=>sf eV rfl<|sl S 0 aB G G G<|sr 2 rfl<|sg 4 3 33 37 true G G (fun hg4=>by
     have hq4:=hg4;try simp only [o1,o2,o3,o4,o5,o6,o7,o8,o9,oa] at hq4
     exact sy hg4<|sr 1 rfl<|sy hg4<|sf eU rfl<|sy hg4<|sl S 0 aB G G G<|sy hg4<|sr 1 rfl<|sz 4 G G G)<|sa G G G<|sr 1 rfl<|sE ?_;clear H a;intro a H
 refine k7 _ ?_;clear k7 K7
 refine aT H rfl (fun hc3=>?_) (fun hc3=>?_)
 ·skip
  try simp only [o1,o2,o3,o4,o5,o6,o7,o8,o9,oa] at hc3
  replace H:=H.keep [] rfl
  refine sS H fun K8 k8=>sr 1 rfl<|sE ?_;clear H a;intro a H
  refine k8 _ ?_;clear k8 K8
  refine wp_ret ?_
  refine ret1 (fn:=Tryz.f113) rfl H rfl ?_
  refine ⟨congrArg (Value.int .i64) ?_,(S.sel [] G G)⟩;unfold goneI bitI;rw [if_neg (by omega),if_neg (by omega),if_pos hc3]
 try simp only [o1,o2,o3,o4,o5,o6,o7,o8,o9,oa] at hc3
 refine wp_skip ?_
 refine k2 _ _ ?_
 refine sS H fun K9 k9=>sf iO rfl<|sl S 0 aB G G G<|sr 1 rfl<|sE ?_;clear H a;intro a H
 refine k9 _ ?_;clear k9 K9
 refine wp_ret ?_
 refine ret1 (fn:=Tryz.f113) rfl H rfl ?_
 refine ⟨congrArg (Value.int .i64) ?_,(S.sel [] G G)⟩;unfold goneI bitI;rw [if_neg (by omega),if_neg (by omega),if_neg (by omega)]
theorem kR (pl:Int) (ps:List Psg) (PA:Option Addr) (pc:Nat) (xs:List Int) (XA:Option Addr) (xc:Nat) (out:Int) (pe:List Int) (BA:Option Addr) (bc:Nat) (T:Int) (w:World) (hps:InS w noF 7 PA ps.length (pcell ps)) (hpn:ps.length≤9223372036854775807) (hxs:InS w noF 1 XA xs.length (icl xs)) (hxn:xs.length≤9223372036854775807) (hpe:InS w noF 1 BA pe.length (icl pe)) (hpen:pe.length≤9223372036854775807) :
    Calls Tryz.prog 45 [.agg [.int .i64 pl,.slice PA ps.length pc,.slice XA xs.length xc].toArray,.int .i64 out,.slice BA pe.length bc,.int .i64 T].toArray w (Ret (fun v w'=>v = .int .i64 (dS pl ps xs out pe T)∧St w noF [] w')):=by
 refine enter Tryz.func45 rfl Tryz.ntmps45 rfl (fun a H=>?_)
 have S:=St.start w
 refine aA fun K1 k1=>?_
 refine aP H rfl S G G ?_;clear H a S;intro b4 _ a hb4 hbw4 S H
 refine ls 1 H<|sr 1 rfl<|sE ?_;clear H a;intro a H
 refine k1 _ _ ?_;clear k1 K1
 refine aA fun K2 k2=>?_
 refine ls 1 H<|sd ((aD cA cP rfl S (i:=0) G G))<|sE ?_;clear H a;intro a H
 refine aC H G G Tryz.func41 G G (lD pl ps PA pc xs XA xc _ (hps.now S) hpn (hxs.now S) hxn) ?_;clear H a
 rintro _ _ a ⟨rfl,S2⟩ H
 replace S:=S.call S2;clear S2
 refine ls 1 H<|sr 1 rfl<|sE ?_;clear H a;intro a H
 refine k2 _ _ ?_;clear k2 K2
 refine wp_seq_k fun K3 k3=>?_
 refine sS H fun K4 k4=>sr 2 rfl<|sE ?_;clear H a;intro a H
 refine k4 _ ?_;clear k4 K4
 refine condN H rfl (fun hc1=>?_) (fun hc1=>?_)
 ·skip
  refine sS H fun K5 k5=>sr 2 rfl<|sE ?_;clear H a;intro a H
  refine k5 _ ?_;clear k5 K5
  refine wp_ret ?_
  refine ret1 (fn:=Tryz.f45) rfl H rfl ?_
  refine ⟨?_,(S.sel [] G G)⟩;unfold dS;rw [if_pos hc1]
 refine wp_skip ?_
 refine k3 _ _ ?_
 refine wp_seq_k fun K6 k6=>?_
 replace H:=H.keep [1,2,3,4] rfl
 refine aA fun K7 k7=>?_
 refine ls 1 H<|sr 1 rfl<|sE ?_;clear H a;intro a H
 refine aC H G G Tryz.func60 G G (uQ _ _) ?_;clear H a
 rintro _ _ a ⟨rfl,rfl⟩ H
 refine ls 2 H<|sr 2 rfl<|sE ?_;clear H a;intro a H
 apply eJ (i:=3) (g:=18) (t:=22) (b:=false) 4 H S G G (by kernel_rfl) (by kernel_rfl) G G
 case h1=>
  intro hg4
  have hq4:=hg4;try simp only [o1,o2,o3,o4,o5,o6,o7,o8,o9,oa] at hq4
  refine ls 2 H<|sy hg4<|sd ((aD cA cP rfl S (i:=0) G G))<|sy hg4<|sr 1 rfl<|sE ?_;intro a H
  refine fL H G G (by assumption) ?_
  refine aC H G G Tryz.func61 G G (rO pl ps PA pc xs XA xc pe BA bc _ (hpe.now S) hpen) ?_
  rintro _ _ a ⟨rfl,S2⟩ H
  replace S:=S.call S2;clear S2
  refine ls 1 H<|sy hg4<|sr 1 rfl<|sE ?_;intro a H
  exact wpList_nil ⟨H.strip 4 G G,(S.sel [0] G G)⟩
 clear H a S;intro a _ H S
 refine ls 6 H<|so G G G<|sr 1 rfl<|sg 3 9 24 27 false G G (fun hg10=>by
     have hq10:=hg10;try simp only [o1,o2,o3,o4,o5,o6,o7,o8,o9,oa] at hq10
     exact sy hg10<|sr 1 rfl<|sy hg10<|sc rfl Tryz.func55 G G (cW _ _ _ _)<|sy hg10<|sr 1 rfl<|sz 3 G G G)<|so G G G<|sE ?_;clear H a;intro a H
 refine k7 _ _ ?_;clear k7 K7
 refine aT H rfl (fun hc2=>?_) (fun hc2=>?_)
 ·skip
  try simp only [o1,o2,o3,o4,o5,o6,o7,o8,o9,oa] at hc2
  replace H:=H.keep [] rfl
  refine sS H fun K8 k8=>sr 1 rfl<|sE ?_;clear H a;intro a H
  refine k8 _ ?_;clear k8 K8
  refine wp_ret ?_
  refine ret1 (fn:=Tryz.f45) rfl H rfl ?_
  refine ⟨?_,(S.sel [] rfl rfl)⟩;unfold dS;rw [if_neg (by omega),if_neg (by simp only [Bool.and_eq_true,decide_eq_true_eq];rcases hc2 with (h|h)|h <;> first|(intro h9;omega)|(rw [h];simp))]
 try simp only [o1,o2,o3,o4,o5,o6,o7,o8,o9,oa] at hc2
 refine wp_skip ?_
 refine k6 _ _ ?_
 refine sS H fun K9 k9=>sr 1 rfl<|sE ?_;clear H a;intro a H
 refine k9 _ ?_;clear k9 K9
 refine wp_ret ?_
 refine ret1 (fn:=Tryz.f45) rfl H rfl ?_
 refine ⟨?_,(S.sel [] G G)⟩;unfold dS;rw [if_neg (by omega),if_pos (by simp only [Bool.and_eq_true,decide_eq_true_eq];exact ⟨⟨by omega,hc2.1.2⟩,by omega⟩)]
set_option maxHeartbeats 16000000 in
theorem My (P T:Nat) (ps:List Psg) (PA:Option Addr) (pc:Nat) (xs:List Int) (XA:Option Addr) (xc:Nat) (out:Int) (pe:List Int) (BA:Option Addr) (bc:Nat) (w:World) (hps:InS w noF 7 PA ps.length (pcell ps)) (hpn:ps.length≤9223372036854775807) (hxs:InS w noF 1 XA xs.length (icl xs)) (hxn:xs.length≤9223372036854775807) (hpe:InS w noF 1 BA pe.length (icl pe)) (hpl:pe.length=P) (hV:StV P ps xs) (hou:0≤out∧out≤4095) (hpp:∀ k,k<pe.length→0≤pe.getD k 0∧pe.getD k 0≤1000) (hT:T≤60) :
    Calls Tryz.prog 95 [.agg [.int .i64 (P:Int),.slice PA ps.length pc,.slice XA xs.length xc].toArray,.int .i64 out,.slice BA pe.length bc,.int .i64 (T:Int)].toArray w (Ret (fun u w'=>∃ b28 EA ec AA A' c' r v L,u = .pointer (some ⟨b28,0,none⟩)∧EndR P T pe xs out ps v (rmE (egs (jrAll P T pe xs out ps)) r) L∧St w noF [boxM b28 157 [.int .i64 (P:Int),.slice PA ps.length pc,.slice XA xs.length xc,.int .i64 (T:Int),.slice EA (egs (jrAll P T pe xs out ps)).length ec,.slice AA ((P*(T+1)+2)) ((P*(T+1)+2)),.int .i64 (v)],ownM 184 5 EA (egs (jrAll P T pe xs out ps)).length ec (egc (egs (jrAll P T pe xs out ps)) (r)),ownM 23 1 AA ((P*(T+1)+2)) ((P*(T+1)+2)) (hdc A' (fun z9=>((ixs (egs (jrAll P T pe xs out ps))) z9).length) c'),ragM 3 1 (fun q=>q<(P*(T+1)+2)) A' (fun z9=>((ixs (egs (jrAll P T pe xs out ps))) z9).length) c' (fun z9=>wcl ((ixs (egs (jrAll P T pe xs out ps))) z9))] w')):=by
 have hP10:=hV.size
 have hC:P*(T+1)≤10*61:=Nat.mul_le_mul (by omega) (by omega)
 have hC2:((P*(T+1):Nat):Int)=(P:Int)*((T:Int)+1):=by rw [Int.natCast_mul];rfl
 have hOR:=Rm (T:=T) (out:=out) hV hpp
 refine enter Tryz.func95 rfl Tryz.ntmps95 rfl (fun a H=>?_)
 have S:=St.start w
 refine aA fun K1 k1=>?_
 refine aP H rfl S G G ?_;clear H a S;intro b4 _ a hb4 hbw4 S H
 refine ls 1 H<|sr 1 rfl<|sE ?_;clear H a;intro a H
 refine k1 _ _ ?_;clear k1 K1
 refine aA fun K2 k2=>?_
 refine ls 3 H<|sd ((aD cA cP rfl S (i:=0) G G))<|sr 1 rfl<|sd (aN aAy G G)<|sE ?_;clear H a;intro a H
 refine aP H rfl S G G ?_;clear H a S;intro b28 _ a hb28 hbw28 S H
 refine ls 1 H<|sr 1 rfl<|sE ?_;clear H a;intro a H
 refine k2 _ _ ?_;clear k2 K2
 replace H:=H.keep [1,2,3,4,9] rfl
 refine aA fun K3 k3=>?_
 refine ls 7 H<|sr 1 rfl<|sf dK rfl<|sl S 1 aB G G G<|sr 1 rfl<|sd (aG G G (by unfold i64ok;omega))<|sd ((fJ G G (by rw [←hC2];unfold i64ok;omega)).to (v' := .int .i64 ((P*(T+1):Nat):Int)) (by rw [hC2]))<|sd ((aG G G (by unfold i64ok;omega)).to (v' := .int .i64 ((P*(T+1)+2:Nat):Int)) rfl)<|sE ?_;clear H a;intro a H
 refine eP (n:=P*(T+1)+2) H rfl S nK qI aDs aDt rfl (by decide) G G (by omega) (by omega) ?_;clear H a S;intro A1 _ a hA1 S H
 replace S:=S.recell (i:=0) rfl (cell':=hdc (fun _=>none) (fun i=>(ixs (egs []) i).length) (fun _=>0)) (fun k j _ hj=>Zb k j hj)
 obtain ⟨AA,rfl⟩:∃ y,y=A1:=⟨_,rfl⟩
 refine ls 2 H<|sr 1 rfl<|sf jL rfl<|sE ?_;clear H a;intro a H
 refine aH H S (i:=1) G G G G aAr G G ?_
 clear H a S;intro _ a S H
 refine k3 _ _ ?_;clear k3 K3
 replace H:=H.keep [1,2,3,4,9] rfl
 refine aA fun K4 k4=>?_
 refine ls 1 H<|sr 1 rfl<|sE ?_;clear H a;intro a H
 have S1:=(S.sel [1] G G)
 refine aC H G G Tryz.func110 G G (sV (egs []) b28 P T _ _ none 0 (P*(T+1)+2) AA (fun _=>none) (fun _=>0) 0 _ _ S1.startR (by omega) (by omega)) ?_;clear H a
 rintro _ _ a ⟨rfl,S2⟩ H
 replace S:=(S.sel [1,0,2] G G).callR (M:=[_]) S2;clear S1 S2
 refine ls 1 H<|sr 1 rfl<|sE ?_;clear H a;intro a H
 refine k4 _ _ ?_;clear k4 K4
 refine sS H fun K5 k5=>sr 1 rfl<|sd ((aG G G (by unfold i64ok;omega)).to (v' := .int .i64 ((P*(T+1)+1:Nat):Int)) rfl)<|sr 1 rfl<|sE ?_;clear H a;intro a H
 refine k5 _ ?_;clear k5 K5
 refine wp_seq_k fun K6 k6=>?_
 refine sS H fun K7 k7=>sr 1 rfl<|sE ?_;clear H a;intro a H
 refine k7 _ ?_;clear k7 K7
 refine wp_block ?_
 replace S:=S.newNil 184 5 (egc (egs []) (egr []))
 replace S:=ragM.zero S 3 1 (fun q=>q<(P*(T+1)+2)) (fun i=>wcl (ixs (egs []) i))
 refine loop_st (X:=Nat×Option Addr×Nat×(Nat→Option Addr)×(Nat→Nat)) (R0:=_) [1,2,3,4,9,10,11] H rfl (fun ⟨p,EA,ec,A',c'⟩=>[(12,.int .i64 (p:Int))]) (fun ⟨p,EA,ec,A',c'⟩=>[boxM b28 157 [.int .i64 (P:Int),.slice PA ps.length pc,.slice XA xs.length xc,.int .i64 (T:Int),.slice EA (egs (aV P T pe xs p)).length ec,.slice AA ((P*(T+1)+2)) ((P*(T+1)+2)),.int .i64 (0)],ownM 184 5 EA (egs (aV P T pe xs p)).length ec (egc (egs (aV P T pe xs p)) (egr (aV P T pe xs p))),ownM 23 1 AA ((P*(T+1)+2)) ((P*(T+1)+2)) (hdc A' (fun z9=>((ixs (egs (aV P T pe xs p))) z9).length) c'),ragM 3 1 (fun q=>q<(P*(T+1)+2)) A' (fun z9=>((ixs (egs (aV P T pe xs p))) z9).length) c' (fun z9=>wcl ((ixs (egs (aV P T pe xs p))) z9))]) (fun g ⟨p,EA,ec,A',c'⟩=>p≤P∧g+p=P) (P) (0,none,0,fun _=>none,fun _=>0) ?_ (S.sel [2,1,3,0,4] G G) (H.keep [12,1,2,3,4,9,10,11] rfl) ?_
 · exact ⟨by omega,by omega⟩
 clear H S a
 intro g1 x1 a w1 hp S H K8 k8
 obtain ⟨p,EA,ec,A',c'⟩:=x1
 dsimp only at hp S H
 refine wp_seq_k fun K9 k9=>?_
 refine sS H fun K10 k10=>sr 1 rfl<|sf dK rfl<|sl S 4 aB G G G<|sr 1 rfl<|sE ?_;clear H a;intro a H
 refine k10 _ ?_;clear k10 K10
 refine condL H rfl (fun hc1=>?_) (fun hc1=>?_)
 ·skip
  refine wp_skip ?_
  refine k9 _ _ ?_
  refine wp_seq_k fun K11 k11=>?_
  refine wp_block ?_
  have hpP:p<P:=by omega
  have hn0:=jA (P:=P) (T:=T) (t:=0) hpP (by omega)
  have hb1:p*(T+2)≤10*62:=Nat.mul_le_mul (by omega) (by omega)
  have hl1:=mW (P:=P) (T:=T) (pe:=pe) (xs:=xs) p
  have hJl:(aV P T pe xs p).length≤100000:=by omega
  replace H:=H.keep [1,2,3,4,9,10,11,12] rfl
  replace S:=S.drew
  refine cJ [(0,true),(1,true),(2,true),(3,true),(5,true),(6,true),(7,true),(8,true),(4,false),(9,false)] (by kernel_rfl) (by kernel_rfl) (S.sel [4] G G) fun K12 k12=>?_
  refine qF H<|qr 6 rfl<|qd rfl (fun _ S=>aX aO aW G G (hpe.adr (by omega)) (by omega))<|qd rfl (fun _ S=>aE aB rfl (hpe.rd S (by omega) (by omega)))<|qK ?_;clear H a;intro a H
  refine bA rfl ?_
  refine aC H G G Tryz.func112 G G (oD (egs (aV P T pe xs p)) b28 P T _ _ EA ec (P*(T+1)+2) AA A' c' 0 p 0 _ _ ((S.sel [0] G G).startR) (by omega) (by omega) (by omega)) ?_;clear H a
  rintro _ _ a ⟨rfl,rfl⟩ H
  refine wpList_nil (And.intro (S.sel [4] G G) ?_)
  refine bA rfl ?_
  have S1:=(S.sel [0,1,2,3] G G)
  refine aC H G G Tryz.func111 G G (uR (aV P T pe xs p) b28 P T _ _ EA ec (P*(T+1)+2) AA A' c' 0 (P*(T+1)) (ndR T p 0) (pe.getD p 0) (-1) 0 _ _ S1.startR (by omega) (by omega) (by omega) hJl (fun i _=>Nat.le_trans Ba (by omega))) ?_;clear H a
  rintro _ _ a ⟨rfl,EA2,ec2,A2,c2,S2⟩ H
  replace S:=(S.sel [0,1,2,3,4] G G).callR (M:=[_,_,_,_]) S2;clear S1 S2
  rw [aBy (xs:=xs)] at S
  refine wpList_nil (And.intro (S.sel [4] G G) ?_)
  refine bU ?_
  refine k12 _ _ ?_
  clear k12 K12
  replace H:=H.keep [1,2,3,4,9,10,11,12] rfl
  refine sS H fun K13 k13=>sr 1 rfl<|sE ?_;clear H a;intro a H
  refine k13 _ ?_;clear k13 K13
  refine wp_block ?_
  refine loop_st (X:=Nat×Option Addr×Nat×(Nat→Option Addr)×(Nat→Nat)) (R0:=_) [1,2,3,4,9,10,11,12] H rfl (fun ⟨t,EA,ec,A',c'⟩=>[(13,.int .i64 (t:Int))]) (fun ⟨t,EA,ec,A',c'⟩=>[boxM b28 157 [.int .i64 (P:Int),.slice PA ps.length pc,.slice XA xs.length xc,.int .i64 (T:Int),.slice EA (egs (aV P T pe xs p++(jrBeg P T pe p::cN P T xs p t))).length ec,.slice AA ((P*(T+1)+2)) ((P*(T+1)+2)),.int .i64 (0)],ownM 184 5 EA (egs (aV P T pe xs p++(jrBeg P T pe p::cN P T xs p t))).length ec (egc (egs (aV P T pe xs p++(jrBeg P T pe p::cN P T xs p t))) (egr (aV P T pe xs p++(jrBeg P T pe p::cN P T xs p t)))),ownM 23 1 AA ((P*(T+1)+2)) ((P*(T+1)+2)) (hdc A' (fun z9=>((ixs (egs (aV P T pe xs p++(jrBeg P T pe p::cN P T xs p t)))) z9).length) c'),ragM 3 1 (fun q=>q<(P*(T+1)+2)) A' (fun z9=>((ixs (egs (aV P T pe xs p++(jrBeg P T pe p::cN P T xs p t)))) z9).length) c' (fun z9=>wcl ((ixs (egs (aV P T pe xs p++(jrBeg P T pe p::cN P T xs p t)))) z9))]) (fun g ⟨t,EA,ec,A',c'⟩=>t≤T+1∧g+t=T+1) (T+1) (0,_,_,_,_) ?_ (S.sel [0,1,2,3,4] G G) (H.keep [13,1,2,3,4,9,10,11,12] rfl) ?_
  · exact ⟨by omega,by omega⟩
  clear H S a
  intro g2 x2 a w2 hp S H K14 k14
  obtain ⟨t,EA,ec,A',c'⟩:=x2
  dsimp only at hp S H
  refine wp_seq_k fun K15 k15=>?_
  refine sS H fun K16 k16=>sr 3 rfl<|sE ?_;clear H a;intro a H
  refine k16 _ ?_;clear k16 K16
  refine condG H rfl (fun hc2=>?_) (fun hc2=>?_)
  ·skip
   refine wp_skip ?_
   refine k15 _ _ ?_
   refine wp_seq_k fun K17 k17=>?_
   refine wp_block ?_
   have hnt:=jA (P:=P) (T:=T) (t:=t) hpP (by omega)
   have hl2:=tH (P:=P) (T:=T) (xs:=xs) (p:=p) t
   have hJl:((aV P T pe xs p++(jrBeg P T pe p::cN P T xs p t))).length≤100000:=by rw [List.length_append,List.length_cons];omega
   refine aA fun K18 k18=>?_
   refine ls 3 H<|sf gR rfl<|sl S 4 dL G G G<|sr 1 rfl<|sE ?_;clear H a;intro a H
   refine aC H G G Tryz.func56 G G (Bj xs XA xc _ _ (hxs.now S) hxn) ?_;clear H a
   rintro _ _ a ⟨rfl,S2⟩ H
   replace S:=S.call S2;clear S2
   refine k18 _ _ ?_;clear k18 K18
   refine aT H rfl (fun hc3=>?_) (fun hc3=>?_)
   ·skip
    try simp only [o1,o2,o3,o4,o5,o6,o7,o8,o9,oa] at hc3
    replace H:=H.keep [1,2,3,4,9,10,11,12,13] rfl
    refine cE ?_
    refine ls 4 H<|sr 4 rfl<|sE ?_;clear H a;intro a H
    refine aC H G G Tryz.func112 G G (oD (egs (aV P T pe xs p++(jrBeg P T pe p::cN P T xs p t))) b28 P T _ _ EA ec (P*(T+1)+2) AA A' c' 0 p t _ _ ((S.sel [0] G G).startR) (by omega) (by omega) (by omega)) ?_;clear H a
    rintro _ _ a ⟨rfl,rfl⟩ H
    refine ls 1 H<|sr 1 rfl<|sE ?_;clear H a;intro a H
    have S1:=(S.sel [0,1,2,3] G G)
    refine aC H G G Tryz.func111 G G (uR (aV P T pe xs p++(jrBeg P T pe p::cN P T xs p t)) b28 P T _ _ EA ec (P*(T+1)+2) AA A' c' 0 (ndR T p t) (P*(T+1)+1) 1073741824 (-1) 0 _ _ S1.startR (by omega) (by omega) (by omega) hJl (fun i _=>Nat.le_trans Ba (by omega))) ?_;clear H a
    rintro _ _ a ⟨rfl,EA2,ec2,A2,c2,S2⟩ H
    replace S:=(S.sel [0,1,2,3,4] G G).callR (M:=[_,_,_,_]) S2;clear S1 S2
    rw [Yw hc3] at S
    refine k17 _ _ ?_
    replace H:=H.keep [1,2,3,4,9,10,11,12,13] rfl
    refine sO H<|sr 1 rfl<|sd (aG G G (by unfold i64ok;omega))<|sr 1 rfl<|sE ?_;clear H a;intro a H
    exact k14 (g2-1) (t+1,_,_,_,_) a _ (by omega) (⟨by omega,by omega⟩) (S.sel [0,1,2,3,4] G G) (H.keep [13,1,2,3,4,9,10,11,12] rfl)
   try simp only [o1,o2,o3,o4,o5,o6,o7,o8,o9,oa] at hc3
   refine sS H fun K21 k21=>sr 3 rfl<|sE ?_;clear H a;intro a H
   refine k21 _ ?_;clear k21 K21
   refine condL H rfl (fun hc4=>?_) (fun hc4=>?_)
   ·skip
    skip
    replace H:=H.keep [1,2,3,4,9,10,11,12,13] rfl
    refine cE ?_
    refine ls 4 H<|sr 4 rfl<|sE ?_;clear H a;intro a H
    refine aC H G G Tryz.func112 G G (oD (egs (aV P T pe xs p++(jrBeg P T pe p::cN P T xs p t))) b28 P T _ _ EA ec (P*(T+1)+2) AA A' c' 0 p t _ _ ((S.sel [0] G G).startR) (by omega) (by omega) (by omega)) ?_;clear H a
    rintro _ _ a ⟨rfl,rfl⟩ H
    refine ls 4 H<|sr 3 rfl<|sd (aG G G (by unfold i64ok;omega))<|sE ?_;clear H a;intro a H
    refine aC H G G Tryz.func112 G G (oD (egs (aV P T pe xs p++(jrBeg P T pe p::cN P T xs p t))) b28 P T _ _ EA ec (P*(T+1)+2) AA A' c' 0 p (t+1) _ _ ((S.sel [0] G G).startR) (by omega) (by omega) (by omega)) ?_;clear H a
    rintro _ _ a ⟨rfl,rfl⟩ H
    have S1:=(S.sel [0,1,2,3] G G)
    refine aC H G G Tryz.func111 G G (uR (aV P T pe xs p++(jrBeg P T pe p::cN P T xs p t)) b28 P T _ _ EA ec (P*(T+1)+2) AA A' c' 0 (ndR T p t) (ndR T p (t+1)) 1073741824 (-1) 0 _ _ S1.startR (by omega) (by have:=jA (P:=P) (T:=T) (t:=t+1) hpP (by omega);omega) (Ax (by omega) (by omega) (by omega)) hJl (fun i _=>Nat.le_trans Ba (by omega))) ?_;clear H a
    rintro _ _ a ⟨rfl,EA2,ec2,A2,c2,S2⟩ H
    replace S:=(S.sel [0,1,2,3,4] G G).callR (M:=[_,_,_,_]) S2;clear S1 S2
    rw [Yx hc3 (by omega)] at S
    refine k17 _ _ ?_
    replace H:=H.keep [1,2,3,4,9,10,11,12,13] rfl
    refine sO H<|sr 1 rfl<|sd (aG G G (by unfold i64ok;omega))<|sr 1 rfl<|sE ?_;clear H a;intro a H
    exact k14 (g2-1) (t+1,_,_,_,_) a _ (by omega) (⟨by omega,by omega⟩) (S.sel [0,1,2,3,4] G G) (H.keep [13,1,2,3,4,9,10,11,12] rfl)
   have hJ9:=Yy (P:=P) (b:=jrBeg P T pe p) (A:=aV P T pe xs p) hc3 (by omega:¬ t<T)
   rw [hJ9] at S
   refine wp_skip ?_
   refine k17 _ _ ?_
   refine sO H<|sr 1 rfl<|sd (aG G G (by unfold i64ok;omega))<|sr 1 rfl<|sE ?_;clear H a;intro a H
   exact k14 (g2-1) (t+1,_,_,_,_) a _ (by omega) (⟨by omega,by omega⟩) (S.sel [0,1,2,3,4] G G) (H.keep [13,1,2,3,4,9,10,11,12] rfl)
  refine wp_exit ?_
  refine k11 _ _ ?_
  refine sO H<|sr 1 rfl<|sd (aG G G (by unfold i64ok;omega))<|sr 1 rfl<|sE ?_;clear H a;intro a H
  rw [show t=T+1 by omega,Tp] at S
  exact k8 (g1-1) (p+1,_,_,_,_) a _ (by omega) (⟨by omega,by omega⟩) (S.sel [0,1,2,3,4] G G) (H.keep [12,1,2,3,4,9,10,11] rfl)
 refine wp_exit ?_
 refine k6 _ _ ?_
 refine wp_seq_k fun K26 k26=>?_
 replace H:=H.keep [1,3,4,9,10,11] rfl
 refine sS H fun K27 k27=>sr 1 rfl<|sE ?_;clear H a;intro a H
 refine k27 _ ?_;clear k27 K27
 refine wp_block ?_
 rw [show p=P by omega,show aV P T pe xs P=(aV P T pe xs P++bM T xs out ps 0) from (List.append_nil _).symm] at S
 refine loop_st (X:=Nat×Option Addr×Nat×(Nat→Option Addr)×(Nat→Nat)) (R0:=_) [1,3,4,9,10,11] H rfl (fun ⟨t,EA,ec,A',c'⟩=>[(14,.int .i64 (t:Int))]) (fun ⟨t,EA,ec,A',c'⟩=>[boxM b28 157 [.int .i64 (P:Int),.slice PA ps.length pc,.slice XA xs.length xc,.int .i64 (T:Int),.slice EA (egs (aV P T pe xs P++bM T xs out ps t)).length ec,.slice AA ((P*(T+1)+2)) ((P*(T+1)+2)),.int .i64 (0)],ownM 184 5 EA (egs (aV P T pe xs P++bM T xs out ps t)).length ec (egc (egs (aV P T pe xs P++bM T xs out ps t)) (egr (aV P T pe xs P++bM T xs out ps t))),ownM 23 1 AA ((P*(T+1)+2)) ((P*(T+1)+2)) (hdc A' (fun z9=>((ixs (egs (aV P T pe xs P++bM T xs out ps t))) z9).length) c'),ragM 3 1 (fun q=>q<(P*(T+1)+2)) A' (fun z9=>((ixs (egs (aV P T pe xs P++bM T xs out ps t))) z9).length) c' (fun z9=>wcl ((ixs (egs (aV P T pe xs P++bM T xs out ps t))) z9))]) (fun g ⟨t,EA,ec,A',c'⟩=>t≤T+1∧g+t=T+1) (T+1) (0,_,_,_,_) ?_ (S.sel [0,1,2,3,4] G G) (H.keep [14,1,3,4,9,10,11] rfl) ?_
 · exact ⟨by omega,by omega⟩
 clear H S a
 intro g3 x3 a w3 hp S H K28 k28
 obtain ⟨t,EA,ec,A',c'⟩:=x3
 dsimp only at hp S H
 refine wp_seq_k fun K29 k29=>?_
 refine sS H fun K30 k30=>sr 3 rfl<|sE ?_;clear H a;intro a H
 refine k30 _ ?_;clear k30 K30
 refine condG H rfl (fun hc5=>?_) (fun hc5=>?_)
 ·skip
  refine wp_skip ?_
  refine k29 _ _ ?_
  refine wp_seq_k fun K31 k31=>?_
  refine wp_block ?_
  refine sS H fun K32 k32=>sr 1 rfl<|sE ?_;clear H a;intro a H
  refine k32 _ ?_;clear k32 K32
  refine wp_block ?_
  rw [show (aV P T pe xs P++bM T xs out ps t)=(aV P T pe xs P++(bM T xs out ps t++dF T xs out ps t 0)) by simp [dF]] at S
  refine loop_st (X:=Nat×Option Addr×Nat×(Nat→Option Addr)×(Nat→Nat)) (R0:=_) [1,3,4,9,10,11,14] H rfl (fun ⟨i,EA,ec,A',c'⟩=>[(15,.int .i64 (i:Int))]) (fun ⟨i,EA,ec,A',c'⟩=>[boxM b28 157 [.int .i64 (P:Int),.slice PA ps.length pc,.slice XA xs.length xc,.int .i64 (T:Int),.slice EA (egs (aV P T pe xs P++(bM T xs out ps t++dF T xs out ps t i))).length ec,.slice AA ((P*(T+1)+2)) ((P*(T+1)+2)),.int .i64 (0)],ownM 184 5 EA (egs (aV P T pe xs P++(bM T xs out ps t++dF T xs out ps t i))).length ec (egc (egs (aV P T pe xs P++(bM T xs out ps t++dF T xs out ps t i))) (egr (aV P T pe xs P++(bM T xs out ps t++dF T xs out ps t i)))),ownM 23 1 AA ((P*(T+1)+2)) ((P*(T+1)+2)) (hdc A' (fun z9=>((ixs (egs (aV P T pe xs P++(bM T xs out ps t++dF T xs out ps t i)))) z9).length) c'),ragM 3 1 (fun q=>q<(P*(T+1)+2)) A' (fun z9=>((ixs (egs (aV P T pe xs P++(bM T xs out ps t++dF T xs out ps t i)))) z9).length) c' (fun z9=>wcl ((ixs (egs (aV P T pe xs P++(bM T xs out ps t++dF T xs out ps t i)))) z9))]) (fun g ⟨i,EA,ec,A',c'⟩=>i≤ps.length∧g+i=ps.length) (ps.length) (0,_,_,_,_) ?_ (S.sel [0,1,2,3,4] G G) (H.keep [15,1,3,4,9,10,11,14] rfl) ?_
  · exact ⟨by omega,by omega⟩
  clear H S a
  intro g4 x4 a w4 hp S H K33 k33
  obtain ⟨i,EA,ec,A',c'⟩:=x4
  dsimp only at hp S H
  refine wp_seq_k fun K34 k34=>?_
  refine sS H fun K35 k35=>sr 1 rfl<|sf eE rfl<|sl S 4 fD G G G<|sL eR rfl<|sr 1 rfl<|sE ?_;clear H a;intro a H
  refine k35 _ ?_;clear k35 K35
  refine condL H rfl (fun hc6=>?_) (fun hc6=>?_)
  ·skip
   refine wp_skip ?_
   refine k34 _ _ ?_
   refine wp_seq_k fun K36 k36=>?_
   refine wp_block ?_
   replace H:=H.keep [1,3,4,9,10,11,14,15] rfl
   refine aA fun K37 k37=>?_
   refine ls 5 H<|sf eE rfl<|sl S 4 fD G G G<|sr 1 rfl<|si eR dD G G (hps.adr (by omega)) (by omega)<|sd ((aU fO dD rfl S hps (by omega) (by omega)))<|sE ?_;clear H a;intro a H
   refine aM H rfl S kK ?_;clear H a S;intro b16 _ a hb16 hbw16 S H
   refine aH H S (i:=0) G G G G dD G G ?_
   clear H a S;intro _ a S H
   refine k37 _ _ ?_;clear k37 K37
   replace H:=H.keep [1,3,4,9,10,11,14,15,16] rfl
   refine aA fun K38 k38=>?_
   refine ls 4 H<|sf fA rfl<|sl S 0 aB G G G<|sf eU rfl<|sl S 0 aB G G G<|sE ?_;clear H a;intro a H
   refine aL H rfl S aO aW dQ G G G G G G G G G ?_;clear H a S;intro A2 _ a hA2 S H
   replace S:=S.recell (i:=0) rfl (cell':=ecl (ps.getD i Psg.zero)) (fun k j hk hj=>Za k j hk hj)
   refine ls 1 H<|sr 1 rfl<|sE ?_;clear H a;intro a H
   refine k38 _ _ ?_;clear k38 K38
   refine sS H fun K39 k39=>sr 1 rfl<|sE ?_;clear H a;intro a H
   refine k39 _ ?_;clear k39 K39
   refine wp_block ?_
   rw [show (aV P T pe xs P++(bM T xs out ps t++dF T xs out ps t i))=((aV P T pe xs P++(bM T xs out ps t++dF T xs out ps t i))++jrKs T xs out (ps.getD i Psg.zero) i t 0) from (List.append_nil _).symm] at S
   refine loop_st (X:=Nat×Option Addr×Nat×(Nat→Option Addr)×(Nat→Nat)) (R0:=_) [1,3,4,9,10,11,14,15,16,17] H rfl (fun ⟨k,EA,ec,A',c'⟩=>[(18,.int .i64 (k:Int))]) (fun ⟨k,EA,ec,A',c'⟩=>[boxM b28 157 [.int .i64 (P:Int),.slice PA ps.length pc,.slice XA xs.length xc,.int .i64 (T:Int),.slice EA (egs ((aV P T pe xs P++(bM T xs out ps t++dF T xs out ps t i))++jrKs T xs out (ps.getD i Psg.zero) i t k)).length ec,.slice AA ((P*(T+1)+2)) ((P*(T+1)+2)),.int .i64 (0)],ownM 184 5 EA (egs ((aV P T pe xs P++(bM T xs out ps t++dF T xs out ps t i))++jrKs T xs out (ps.getD i Psg.zero) i t k)).length ec (egc (egs ((aV P T pe xs P++(bM T xs out ps t++dF T xs out ps t i))++jrKs T xs out (ps.getD i Psg.zero) i t k)) (egr ((aV P T pe xs P++(bM T xs out ps t++dF T xs out ps t i))++jrKs T xs out (ps.getD i Psg.zero) i t k))),ownM 23 1 AA ((P*(T+1)+2)) ((P*(T+1)+2)) (hdc A' (fun z9=>((ixs (egs ((aV P T pe xs P++(bM T xs out ps t++dF T xs out ps t i))++jrKs T xs out (ps.getD i Psg.zero) i t k))) z9).length) c'),ragM 3 1 (fun q=>q<(P*(T+1)+2)) A' (fun z9=>((ixs (egs ((aV P T pe xs P++(bM T xs out ps t++dF T xs out ps t i))++jrKs T xs out (ps.getD i Psg.zero) i t k))) z9).length) c' (fun z9=>wcl ((ixs (egs ((aV P T pe xs P++(bM T xs out ps t++dF T xs out ps t i))++jrKs T xs out (ps.getD i Psg.zero) i t k))) z9))]) (fun g ⟨k,EA,ec,A',c'⟩=>k≤2∧g+k=2) (2) (0,_,_,_,_) ?_ (S.sel [2,3,4,5,0,1,6] G G) (H.keep [18,1,3,4,9,10,11,14,15,16,17] rfl) ?_
   · exact ⟨by omega,by omega⟩
   clear H S a
   intro g5 x5 a w5 hp S H K40 k40
   obtain ⟨k,EA,ec,A',c'⟩:=x5
   dsimp only at hp S H
   refine wp_seq_k fun K41 k41=>?_
   refine sS H fun K42 k42=>sr 2 rfl<|sE ?_;clear H a;intro a H
   refine k42 _ ?_;clear k42 K42
   refine condL H rfl (fun hc7=>?_) (fun hc7=>?_)
   ·skip
    refine wp_skip ?_
    refine k41 _ _ ?_
    refine wp_seq_k fun K43 k43=>?_
    refine wp_block ?_
    have hpi:=bS.1 (hV.pas i (by omega))
    have he0:0≤endI (ps.getD i Psg.zero) k∧endI (ps.getD i Psg.zero) k<P:=by unfold endI;split <;> omega
    have he1:0≤endI (ps.getD i Psg.zero) (1-k)∧endI (ps.getD i Psg.zero) (1-k)<P:=by unfold endI;split <;> omega
    have hgb:=Jc (out:=out) hV (show i<ps.length by omega) k
    replace H:=H.keep [1,3,4,9,10,11,14,15,16,17,18] rfl
    replace S:=S.drew
    refine cJ [(0,true),(1,true),(2,true),(3,true),(4,true),(5,true),(6,false),(7,true)] (by kernel_rfl) (by kernel_rfl) (S.sel [0,1,2,3,4,5,6] G G) fun K44 k44=>?_
    refine qF H<|qd rfl (fun _ S=>(aD fO dD rfl S (i:=5) G G))<|qr 3 rfl<|qd rfl (fun _ S=>aX aO aW G G (ownM.adr S (i:=4) rfl (by omega)) (by omega))<|qd rfl (fun _ S=>aE aB rfl (ownM.rd S (i:=4) rfl (by omega) (by omega)))<|qK ?_;clear H a;intro a H
    refine bA rfl ?_
    refine aC H G G Tryz.func113 G G (Tr (ps.getD i Psg.zero) out (endI (ps.getD i Psg.zero) k) _ (fun h3=>by have:=bS.1 (hV.pas i (by omega));omega)) ?_;clear H a
    rintro _ _ a ⟨rfl,S2⟩ H
    replace S:=S.call S2;clear S2
    refine wpList_nil (And.intro (S.sel [0,1,2,3,4,5,6] G G) ?_)
    refine qF H<|qr 1 rfl<|qK ?_;clear H a;intro a H
    refine bU ?_
    refine k44 _ _ ?_
    clear k44 K44
    rcases go3 (goneI out (ps.getD i Psg.zero) (endI (ps.getD i Psg.zero) k)) (T:Int) (t:Int) with hB|hB|hB
    ·skip
     replace H:=H.keep [1,3,4,9,10,11,14,15,16,17,18,19] rfl
     replace S:=S.drew
     refine cJ [(0,true),(1,true),(2,true),(3,true),(4,true),(5,true),(6,true),(7,true),(8,true),(9,true),(10,true),(11,true),(12,true),(13,true),(14,true),(15,true),(16,true),(17,true),(18,true)] (by kernel_rfl) (by kernel_rfl) (S.sel [0,1,2,3,4,5,6] G G) fun K45 k45=>?_
     refine qF H<|qr 1 rfl<|qd rfl (fun _ S=>yA G G (by omega))<|qr 1 rfl<|qK ?_;clear H a;intro a H
     refine aQ H G G G G G ?_;clear H a;intro a H
     refine aQ H G G G G G ?_;clear H a;intro a H
     refine aQ H G G G G G ?_;clear H a;intro a H
     refine aQ H G G G G G ?_;clear H a;intro a H
     refine aQ H G G G G G ?_;clear H a;intro a H
     refine qF H<|qd rfl (fun _ S=>(bH G G G))<|qr 1 rfl<|qK ?_;clear H a;intro a H
     refine aQ H G G G G G ?_;clear H a;intro a H
     refine aQ H G G G G G ?_;clear H a;intro a H
     refine aQ H G G G G G ?_;clear H a;intro a H
     refine aQ H G G G G G ?_;clear H a;intro a H
     refine aQ H G G G G G ?_;clear H a;intro a H
     refine aQ H G G G G G ?_;clear H a;intro a H
     refine aQ H G G G G G ?_;clear H a;intro a H
     refine aQ H G G G G G ?_;clear H a;intro a H
     refine qF H<|qd rfl (fun _ S=>(bH G G G))<|qK ?_;clear H a;intro a H
     refine bU ?_
     refine k45 _ _ ?_
     clear k45 K45
     refine aT H rfl (fun hc8=>?_) (fun hc8=>?_)
     ·skip
      skip
      cases hc8
     skip
     rw [Tq (Hj (xs:=xs) (T:=T) (t:=t) (i:=i) (fun h9=>by omega))] at S
     refine wp_skip ?_
     refine k43 _ _ ?_
     replace H:=H.keep [1,3,4,9,10,11,14,15,16,17,18] rfl
     refine sO H<|sr 1 rfl<|sd (aG G G (by unfold i64ok;omega))<|sr 1 rfl<|sE ?_;clear H a;intro a H
     exact k40 (g5-1) (k+1,_,_,_,_) a _ (by omega) (⟨by omega,by omega⟩) (S.sel [0,1,2,3,4,5,6] G G) (H.keep [18,1,3,4,9,10,11,14,15,16,17] rfl)
    ·skip
     replace H:=H.keep [1,3,4,9,10,11,14,15,16,17,18,19] rfl
     replace S:=S.drew
     refine cJ [(0,true),(1,true),(2,true),(3,true),(4,true),(5,true),(6,true),(7,true),(8,true),(9,true),(10,true),(11,true),(12,true),(13,true),(14,true),(15,true),(16,true),(17,true),(18,true)] (by kernel_rfl) (by kernel_rfl) (S.sel [0,1,2,3,4,5,6] G G) fun K47 k47=>?_
     refine qF H<|qr 1 rfl<|qd rfl (fun _ S=>oE G G hB.1)<|qr 1 rfl<|qK ?_;clear H a;intro a H
     refine aK H G G G G (fun _ S=>aJ rfl) ?_;clear H a;intro a H
     refine aK H G G G G (fun _ S=>aJ rfl) ?_;clear H a;intro a H
     refine aK H G G G G (fun _ S=>aG G G (by unfold i64ok;omega)) ?_;clear H a;intro a H
     refine aK H G G G G (fun _ S=>aJ rfl) ?_;clear H a;intro a H
     refine aK H G G G G (fun _ S=>Km G G hB.2) ?_;clear H a;intro a H
     refine qF H<|qd rfl (fun _ S=>(gG G G G))<|qr 1 rfl<|qK ?_;clear H a;intro a H
     refine aQ H G G G G G ?_;clear H a;intro a H
     refine aQ H G G G G G ?_;clear H a;intro a H
     refine aQ H G G G G G ?_;clear H a;intro a H
     refine aQ H G G G G G ?_;clear H a;intro a H
     refine aQ H G G G G G ?_;clear H a;intro a H
     refine aQ H G G G G G ?_;clear H a;intro a H
     refine aQ H G G G G G ?_;clear H a;intro a H
     refine aQ H G G G G G ?_;clear H a;intro a H
     refine qF H<|qd rfl (fun _ S=>(bH G G G))<|qK ?_;clear H a;intro a H
     refine bU ?_
     refine k47 _ _ ?_
     clear k47 K47
     refine aT H rfl (fun hc9=>?_) (fun hc9=>?_)
     ·skip
      skip
      cases hc9
     skip
     rw [Tq (Hj (xs:=xs) (T:=T) (t:=t) (i:=i) (fun h9=>by omega))] at S
     refine wp_skip ?_
     refine k43 _ _ ?_
     replace H:=H.keep [1,3,4,9,10,11,14,15,16,17,18] rfl
     refine sO H<|sr 1 rfl<|sd (aG G G (by unfold i64ok;omega))<|sr 1 rfl<|sE ?_;clear H a;intro a H
     exact k40 (g5-1) (k+1,_,_,_,_) a _ (by omega) (⟨by omega,by omega⟩) (S.sel [0,1,2,3,4,5,6] G G) (H.keep [18,1,3,4,9,10,11,14,15,16,17] rfl)
    replace H:=H.keep [1,3,4,9,10,11,14,15,16,17,18,19] rfl
    replace S:=S.drew
    refine cJ [(0,true),(1,true),(2,true),(3,true),(4,true),(5,true),(6,true),(7,true),(8,true),(9,true),(10,true),(11,true),(12,true),(13,true),(14,true),(15,true),(16,false),(17,true),(18,true)] (by kernel_rfl) (by kernel_rfl) (S.sel [0,1,2,3,4,5,6] G G) fun K49 k49=>?_
    refine qF H<|qr 1 rfl<|qd rfl (fun _ S=>oE G G hB.1)<|qr 1 rfl<|qK ?_;clear H a;intro a H
    refine aK H G G G G (fun _ S=>aJ rfl) ?_;clear H a;intro a H
    refine aK H G G G G (fun _ S=>aJ rfl) ?_;clear H a;intro a H
    refine aK H G G G G (fun _ S=>aG G G (by unfold i64ok;omega)) ?_;clear H a;intro a H
    refine aK H G G G G (fun _ S=>aJ rfl) ?_;clear H a;intro a H
    refine aK H G G G G (fun _ S=>Kl G G hB.2) ?_;clear H a;intro a H
    refine qF H<|qd rfl (fun _ S=>(gG G G G))<|qr 1 rfl<|qK ?_;clear H a;intro a H
    refine aK H G G G G (fun _ S=>(aF gR rfl)) ?_;clear H a;intro a H
    refine aK H G G G G (fun _ S=>aE dL rfl (boxM.rd S (i:=6) G G)) ?_;clear H a;intro a H
    refine aK H G G G G (fun _ S=>aJ rfl) ?_;clear H a;intro a H
    refine aK H G G G G (fun _ S=>aJ rfl) ?_;clear H a;intro a H
    refine aK H G G G G (fun _ S=>aX aO aW G G (ownM.adr S (i:=4) rfl (by omega)) (by omega)) ?_;clear H a;intro a H
    refine aK H G G G G (fun _ S=>aE aB rfl (ownM.rd S (i:=4) rfl (by omega) (by omega))) ?_;clear H a;intro a H
    refine bA rfl ?_
    refine bZ H G G ?_
    refine aC H G G Tryz.func56 G G (Bj xs XA xc _ _ (hxs.now S) hxn) ?_;clear H a
    rintro _ _ a ⟨rfl,S2⟩ H
    replace S:=S.call S2;clear S2
    refine wpList_nil (And.intro (S.sel [0,1,2,3,4,5,6] G G) ?_)
    refine aK H G G G G (fun _ S=>kD rfl) ?_;clear H a;intro a H
    refine qF H<|qd rfl (fun _ S=>(gG G G G))<|qK ?_;clear H a;intro a H
    refine bU ?_
    refine k49 _ _ ?_
    clear k49 K49
    refine aT H rfl (fun hc10=>?_) (fun hc10=>?_)
    ·skip
     try simp only [o1,o2,o3,o4,o5,o6,o7,o8,o9,oa] at hc10
     have hc10:=hc10.2
     have hnt:=jA (P:=P) (T:=T) (p:=(endI (ps.getD i Psg.zero) k).toNat) (t:=t) (by omega) (by omega)
     have hnt2:=jA (P:=P) (T:=T) (p:=(endI (ps.getD i Psg.zero) (1-k)).toNat) (t:=t+(goneI out (ps.getD i Psg.zero) (endI (ps.getD i Psg.zero) k)).toNat) (by omega) (by omega)
     have hl1:=mW (P:=P) (T:=T) (pe:=pe) (xs:=xs) P
     have hb1:P*(T+2)≤10*62:=Nat.mul_le_mul (by omega) (by omega)
     have hl2:=tI (T:=T) (xs:=xs) (out:=out) (ps:=ps) (by omega) t
     have hl3:=wU (T:=T) (xs:=xs) (out:=out) (ps:=ps) (t:=t) i
     have hl4:=To (T:=T) (xs:=xs) (out:=out) (p:=(ps.getD i Psg.zero)) (i:=i) (t:=t) k
     have hJl:(((aV P T pe xs P++(bM T xs out ps t++dF T xs out ps t i))++jrKs T xs out (ps.getD i Psg.zero) i t k)).length≤100000:=by rw [List.length_append,List.length_append,List.length_append];omega
     replace H:=H.keep [1,3,4,9,10,11,14,15,16,17,18,19] rfl
     replace S:=S.drew
     refine one_wq [(0,true),(1,true),(2,true),(3,true),(4,true),(5,true),(6,true),(8,true),(9,true),(10,true),(11,true),(12,true),(13,true),(14,true),(15,true),(16,true),(18,true),(19,true),(20,true),(21,true),(7,false),(17,false),(22,false)] (by kernel_rfl) (by kernel_rfl) (S.sel [4,5,6] G G) ?_
     refine qF H<|qr 4 rfl<|qd rfl (fun _ S=>aX aO aW G G (ownM.adr S (i:=0) rfl (by omega)) (by omega))<|qd rfl (fun _ S=>aE aB rfl (ownM.rd S (i:=0) rfl (by omega) (by omega)))<|qr 4 rfl<|qd rfl (fun _ S=>(aS G G (by unfold i64ok;omega)).to (v' := .int .i64 ((1-k:Nat):Int)) (by congr 1;omega))<|qd rfl (fun _ S=>aX aO aW G G (ownM.adr S (i:=0) rfl (by omega)) (by omega))<|qd rfl (fun _ S=>aE aB rfl (ownM.rd S (i:=0) rfl (by omega) (by omega)))<|qr 2 rfl<|qd rfl (fun _ S=>(aG G G (by unfold i64ok;omega)).to (v' := .int .i64 ((t+(goneI out (ps.getD i Psg.zero) (endI (ps.getD i Psg.zero) k)).toNat:Nat):Int)) (by congr 1;omega))<|qd rfl (fun _ S=>(aF qP rfl))<|qd rfl (fun _ S=>aE aB rfl (boxM.rd S (i:=1) G G))<|qr 2 rfl<|qK ?_;clear H a;intro a H
     refine bA rfl ?_
     refine aC H G G Tryz.func112 G G (zN (egs ((aV P T pe xs P++(bM T xs out ps t++dF T xs out ps t i))++jrKs T xs out (ps.getD i Psg.zero) i t k)) b28 P T _ _ EA ec (P*(T+1)+2) AA A' c' 0 (endI (ps.getD i Psg.zero) k) t _ _ ((S.sel [0] G G).startR) (by omega) (by omega) (by omega)) ?_;clear H a
     rintro _ _ a ⟨rfl,rfl⟩ H
     refine wpList_nil (And.intro (S.sel [4,5,6] G G) ?_)
     refine bA rfl ?_
     refine aC H G G Tryz.func112 G G (zN (egs ((aV P T pe xs P++(bM T xs out ps t++dF T xs out ps t i))++jrKs T xs out (ps.getD i Psg.zero) i t k)) b28 P T _ _ EA ec (P*(T+1)+2) AA A' c' 0 (endI (ps.getD i Psg.zero) (1-k)) (t+(goneI out (ps.getD i Psg.zero) (endI (ps.getD i Psg.zero) k)).toNat) _ _ ((S.sel [0] G G).startR) (by omega) (by omega) (by omega)) ?_;clear H a
     rintro _ _ a ⟨rfl,rfl⟩ H
     refine wpList_nil (And.intro (S.sel [4,5,6] G G) ?_)
     refine bA rfl ?_
     have S1:=(S.sel [0,1,2,3] G G)
     refine aC H G G Tryz.func111 G G (uR ((aV P T pe xs P++(bM T xs out ps t++dF T xs out ps t i))++jrKs T xs out (ps.getD i Psg.zero) i t k) b28 P T _ _ EA ec (P*(T+1)+2) AA A' c' 0 (ndR T (endI (ps.getD i Psg.zero) k).toNat t) (ndR T (endI (ps.getD i Psg.zero) (1-k)).toNat (t+(goneI out (ps.getD i Psg.zero) (endI (ps.getD i Psg.zero) k)).toNat)) (ps.getD i Psg.zero).wide (i:Int) (t:Int) _ _ S1.startR (by omega) (by omega) (Ax (by omega) (by omega) (by omega)) hJl (fun i _=>Nat.le_trans Ba (by omega))) ?_;clear H a
     rintro _ _ a ⟨rfl,EA2,ec2,A2,c2,S2⟩ H
     replace S:=(S.sel [0,1,2,3,4,5,6] G G).callR (M:=[_,_,_,_]) S2;clear S1 S2
     rw [aCb (Yz ⟨hB,hc10⟩)] at S
     refine wpList_nil (And.intro (S.sel [4,5,6] G G) ?_)
     refine bU ?_
     refine k43 _ _ ?_
     replace H:=H.keep [1,3,4,9,10,11,14,15,16,17,18] rfl
     refine sO H<|sr 1 rfl<|sd (aG G G (by unfold i64ok;omega))<|sr 1 rfl<|sE ?_;clear H a;intro a H
     exact k40 (g5-1) (k+1,_,_,_,_) a _ (by omega) (⟨by omega,by omega⟩) (S.sel [0,1,2,3,4,5,6] G G) (H.keep [18,1,3,4,9,10,11,14,15,16,17] rfl)
    try simp only [o1,o2,o3,o4,o5,o6,o7,o8,o9,oa] at hc10
    have hx9:hasI xs (endI (ps.getD i Psg.zero) k)=true:=by rcases hc10 with (h|h)|h;cases h;cases h;exact h
    rw [Tq (Hj (xs:=xs) (T:=T) (t:=t) (i:=i) (fun h9=>by rw [hx9] at h9;cases h9.2))] at S
    refine wp_skip ?_
    refine k43 _ _ ?_
    refine sO H<|sr 1 rfl<|sd (aG G G (by unfold i64ok;omega))<|sr 1 rfl<|sE ?_;clear H a;intro a H
    exact k40 (g5-1) (k+1,_,_,_,_) a _ (by omega) (⟨by omega,by omega⟩) (S.sel [0,1,2,3,4,5,6] G G) (H.keep [18,1,3,4,9,10,11,14,15,16,17] rfl)
   refine wp_exit ?_
   refine k36 _ _ ?_
   refine sO H<|sr 1 rfl<|sd (aG G G (by unfold i64ok;omega))<|sr 1 rfl<|sE ?_;clear H a;intro a H
   rw [show k=2 by omega,aBz] at S
   exact k33 (g4-1) (i+1,_,_,_,_) a _ (by omega) (⟨by omega,by omega⟩) (S.sel [0,1,2,3,6] G G) (H.keep [15,1,3,4,9,10,11,14] rfl)
  refine wp_exit ?_
  refine k31 _ _ ?_
  replace H:=H.keep [1,3,4,9,10,11,14] rfl
  refine sO H<|sr 1 rfl<|sd (aG G G (by unfold i64ok;omega))<|sr 1 rfl<|sE ?_;clear H a;intro a H
  rw [show i=ps.length by omega,aCa] at S
  exact k28 (g3-1) (t+1,_,_,_,_) a _ (by omega) (⟨by omega,by omega⟩) (S.sel [0,1,2,3,4] G G) (H.keep [14,1,3,4,9,10,11] rfl)
 refine wp_exit ?_
 refine k26 _ _ ?_
 refine wp_block ?_
 rw [show t=T+1 by omega] at S
 have hK:Lk (layR P T pe xs out ps) (egs (jrAll P T pe xs out ps)):=aBj hOR.ne
 have hl1:=mW (P:=P) (T:=T) (pe:=pe) (xs:=xs) P
 have hb1:P*(T+2)≤10*62:=Nat.mul_le_mul (by omega) (by omega)
 have hl2:=tI (T:=T) (xs:=xs) (out:=out) (ps:=ps) (by omega) (T+1)
 have hEl:(egs (jrAll P T pe xs out ps)).length≤10000:=by rw [hY];unfold jrAll;rw [List.length_append];omega
 have hbR:=aEm (T:=T) (out:=out) hV hpp
 refine loop_st (X:=(Nat→Int)×Int) (R0:=_) [9,10,11] H rfl (fun ⟨r,vol⟩=>[]) (fun ⟨r,vol⟩=>[boxM b28 157 [.int .i64 (P:Int),.slice PA ps.length pc,.slice XA xs.length xc,.int .i64 (T:Int),.slice EA (egs (jrAll P T pe xs out ps)).length ec,.slice AA ((P*(T+1)+2)) ((P*(T+1)+2)),.int .i64 (vol)],ownM 184 5 EA (egs (jrAll P T pe xs out ps)).length ec (egc (egs (jrAll P T pe xs out ps)) (r))]) (fun g ⟨r,vol⟩=>Fl (layR P T pe xs out ps) (roomR P T pe xs out ps) (rmE (egs (jrAll P T pe xs out ps)) r) (P*(T+1)) (P*(T+1)+1) vol∧0≤vol∧(g:Int)+vol=resid (layR P T pe xs out ps) (roomR P T pe xs out ps) (fun v=>decide (v=P*(T+1)))) ((resid (layR P T pe xs out ps) (roomR P T pe xs out ps) (fun v=>decide (v=P*(T+1)))).toNat) (egr (jrAll P T pe xs out ps),0) ?_ (S.sel [0,1,2,3,4] G G) (H.keep [9,10,11] rfl) ?_
 · exact ⟨(Fl.zero hOR.ok).congr hOR.wf (aBk hOR.ne),by omega,by have:=lQ (S:=fun v=>decide (v=P*(T+1))) hOR.ok;omega⟩
 clear H S a
 intro g6 x6 a w6 hp S H K55 k55
 obtain ⟨r,vol⟩:=x6
 dsimp only at hp S H
 obtain ⟨hF,h0v,hgv⟩:=hp
 have hO1:=hF.ok hOR.ok
 have hFb0:=hF.bound hOR.ok (by omega)
 refine wp_block ?_
 refine aA fun K56 k56=>?_
 refine ls 1 H<|sr 1 rfl<|sE ?_;clear H a;intro a H
 have S1:=(S.sel [0,1,2,3] G G)
 refine aC H G G Tryz.func114 G G (Ep (layR P T pe xs out ps) (egs (jrAll P T pe xs out ps)) r b28 P T _ _ EA ec (P*(T+1)+2) AA A' c' vol _ _ S1.startR hK hOR.wf rfl (by omega) (by omega) (by omega) (by omega) (by omega)) ?_;clear H a
 rintro _ _ a ⟨IA,BA,L,by_,rfl,hLv,hRc,S2⟩ H
 replace S:=(S.sel [0,1,2,3,4] G G).callR (M:=[_,_,_,_]) S2;clear S1 S2
 refine ls 5 H<|sr 5 rfl<|sE ?_;clear H a;intro a H
 refine k56 _ _ ?_;clear k56 K56
 refine wp_seq_k fun K57 k57=>?_
 replace H:=H.keep [9,10,11,20,21] rfl
 refine sS H fun K58 k58=>sr 2 rfl<|si nJ rY G G (ownM.adr S (i:=0) rfl (by omega)) (by omega)<|slm iV rfl (ownM.rd S (i:=0) rfl (by omega) (by omega))<|sr 1 rfl<|sE ?_;clear H a;intro a H
 refine k58 _ ?_;clear k58 K58
 refine aT H rfl (fun hc11=>?_) (fun hc11=>?_)
 ·skip
  try simp only [o1,o2,o3,o4,o5,o6,o7,o8,o9,oa] at hc11
  have hfull:L (P*(T+1)+1)<0:=by unfold bB at hc11;simpa using hc11
  refine sS H fun K59 k59=>sr 2 rfl<|sE ?_;clear H a;intro a H
  refine k59 _ ?_;clear k59 K59
  refine wp_ret ?_
  refine ret1 (fn:=Tryz.f95) rfl H rfl ?_
  exact ⟨_,_,_,_,_,_,r,vol,L,rfl,⟨hF,h0v,hLv,hfull⟩,(S.sel [2,3,4,5] G G)⟩
 try simp only [o1,o2,o3,o4,o5,o6,o7,o8,o9,oa] at hc11
 have hx0:0≤L (P*(T+1)+1):=by unfold bB at hc11;simpa using hc11
 have hxk:=hLv.rng (P*(T+1)+1) (by show (P*(T+1)+1)<(P*(T+1)+2);omega)
 refine wp_skip ?_
 refine k57 _ _ ?_
 refine sS H fun K60 k60=>sr 1 rfl<|sE ?_;clear H a;intro a H
 refine k60 _ ?_;clear k60 K60
 refine wp_seq_k fun K61 k61=>?_
 replace H:=H.keep [9,10,11,21,22] rfl
 refine sS H fun K62 k62=>sr 2 rfl<|sE ?_;clear H a;intro a H
 refine k62 _ ?_;clear k62 K62
 refine wp_block ?_
 refine loop_st (X:=Nat×Int) (R0:=_) [9,10,11,21] H rfl (fun ⟨i,most⟩=>[(22,.int .i64 most),(23,.int .i64 (((pth (egs (jrAll P T pe xs out ps)) by_ (P*(T+1)+1) i):Nat):Int))]) (fun ⟨i,most⟩=>[]) (fun g ⟨i,most⟩=>(i:Int)≤L (P*(T+1)+1)∧(g:Int)+i=L (P*(T+1)+1)∧1≤most∧most≤1073741824∧∀ q,q<i→most≤r (by_ (pth (egs (jrAll P T pe xs out ps)) by_ (P*(T+1)+1) q))) ((L (P*(T+1)+1)).toNat) (0,1073741824) ?_ (S.sel [0,1,2,3,4,5,6] G G) (H.keep [22,23,9,10,11,21] rfl) ?_
 · exact ⟨by omega,by omega,by omega,by omega,fun q hq=>absurd hq (Nat.not_lt_zero q)⟩
 clear H S a
 intro g7 x7 a w7 hp S H K63 k63
 obtain ⟨i,most⟩:=x7
 dsimp only at hp S H
 obtain ⟨hiLe,hgi,hm1,hmx,hml⟩:=hp
 refine wp_seq_k fun K64 k64=>?_
 refine sS H fun K65 k65=>sr 3 rfl<|sE ?_;clear H a;intro a H
 refine k65 _ ?_;clear k65 K65
 refine condN H rfl (fun hc12=>?_) (fun hc12=>?_)
 ·skip
  have hiL:(i:Int)<L (P*(T+1)+1):=by
    rcases Int.lt_or_le (i:Int) (L (P*(T+1)+1)) with h|h
    · exact h
    · exact absurd (congrArg (fun n:Nat=>(n:Int)) (Az hK hRc hLv.b0 (by show (P*(T+1)+1)<(P*(T+1)+2);omega) (i:=i) (by omega))) hc12
  refine wp_skip ?_
  refine k64 _ _ ?_
  refine wp_seq_k fun K66 k66=>?_
  refine wp_block ?_
  have hpa:=pQ hK hRc hLv.b0 (by show (P*(T+1)+1)<(P*(T+1)+2);omega) i (by omega)
  have hpk:(pth (egs (jrAll P T pe xs out ps)) by_ (P*(T+1)+1) i)<(P*(T+1)+2):=hpa.1
  obtain ⟨je,hq1,hq2,hq3,hq4,hq5,hq6,hq7⟩:=mA hK hRc hLv.b0 (by show (P*(T+1)+1)<(P*(T+1)+2);omega) (i:=i) (by omega)
  replace H:=H.keep [9,10,11,21,22,23] rfl
  replace S:=S.drew
  refine sP H<|sr 3 rfl<|sf fS rfl<|sl S 2 jF G G G<|sr 2 rfl<|si aO aW G G (ownM.adr S (i:=1) rfl (by omega)) (by omega)<|slm aB rfl (ownM.rd S (i:=1) rfl (by omega) (by omega))<|si iM iK G G (ownM.adr S (i:=3) rfl (by omega)) (by omega)<|sp lS rfl<|slm aB rfl (ownM.rd S (i:=3) rfl (by omega) (by omega))<|sd (mZ G G)<|sr 1 rfl<|sE ?_;clear H a;intro a H
  refine k66 _ _ ?_
  skip
  replace H:=H.keep [9,10,11,21,22,23] rfl
  replace S:=S.drew
  refine sP H<|sr 2 rfl<|sf fS rfl<|sl S 2 jF G G G<|sr 2 rfl<|si aO aW G G (ownM.adr S (i:=1) rfl (by omega)) (by omega)<|slm aB rfl (ownM.rd S (i:=1) rfl (by omega) (by omega))<|si iM iK G G (ownM.adr S (i:=3) rfl (by omega)) (by omega)<|sp Ch rfl<|slm aB rfl (ownM.rd S (i:=3) rfl (by omega) (by omega))<|sr 1 rfl<|sE ?_;clear H a;intro a H
  exact k63 (g7-1) (i+1,min most (r (by_ (pth (egs (jrAll P T pe xs out ps)) by_ (P*(T+1)+1) i)))) a _ (by omega) (⟨by omega,by omega,by omega,by omega,fun q hq=>by
    by_cases e:q=i
    · subst e;omega
    · have:=hml q (by omega);omega⟩) (S.sel [0,1,2,3,4,5,6] G G) (H.keep [22,23,9,10,11,21] rfl)
 have hiL:(i:Int)=L (P*(T+1)+1):=by
   rcases Int.lt_or_le (i:Int) (L (P*(T+1)+1)) with h|h
   · exact absurd (by omega) (Gt hK hRc hLv.b0 (by show (P*(T+1)+1)<(P*(T+1)+2);omega) h)
   · omega
 refine wp_exit ?_
 refine k61 _ _ ?_
 refine wp_seq_k fun K69 k69=>?_
 replace H:=H.keep [9,10,11,21,22] rfl
 refine sS H fun K70 k70=>sr 2 rfl<|sE ?_;clear H a;intro a H
 refine k70 _ ?_;clear k70 K70
 refine wp_block ?_
 refine loop_st (X:=Nat×(Nat→Int)) (R0:=_) [9,10,11,21,22] H rfl (fun ⟨i2,r2⟩=>[(24,.int .i64 (((pth (egs (jrAll P T pe xs out ps)) by_ (P*(T+1)+1) i2):Nat):Int))]) (fun ⟨i2,r2⟩=>[ownM 184 5 EA (egs (jrAll P T pe xs out ps)).length ec (egc (egs (jrAll P T pe xs out ps)) (r2))]) (fun g ⟨i2,r2⟩=>(i2:Int)≤L (P*(T+1)+1)∧(g:Int)+i2=L (P*(T+1)+1)∧Fl (layR P T pe xs out ps) (rmE (egs (jrAll P T pe xs out ps)) r) (rmE (egs (jrAll P T pe xs out ps)) r2) (pth (egs (jrAll P T pe xs out ps)) by_ (P*(T+1)+1) i2) (P*(T+1)+1) most∧∀ q:Nat,i2≤q→(q:Int)<L (P*(T+1)+1)→most≤r2 (by_ (pth (egs (jrAll P T pe xs out ps)) by_ (P*(T+1)+1) q))) ((L (P*(T+1)+1)).toNat) (0,r) ?_ (S.sel [3,0,1,2,4,5,6] G G) (H.keep [24,9,10,11,21,22] rfl) ?_
 · exact ⟨by omega,by omega,Fl.here hO1,fun q _ hq=>hml q (by omega)⟩
 clear H S a
 intro g8 x8 a w8 hp S H K71 k71
 obtain ⟨i2,r2⟩:=x8
 dsimp only at hp S H
 obtain ⟨hi2Le,hgi2,hF2,hke⟩:=hp
 have hO2:=hF2.ok hO1
 refine wp_seq_k fun K72 k72=>?_
 refine sS H fun K73 k73=>sr 3 rfl<|sE ?_;clear H a;intro a H
 refine k73 _ ?_;clear k73 K73
 refine condN H rfl (fun hc13=>?_) (fun hc13=>?_)
 ·skip
  have hiL2:(i2:Int)<L (P*(T+1)+1):=by
    rcases Int.lt_or_le (i2:Int) (L (P*(T+1)+1)) with h|h
    · exact h
    · exact absurd (congrArg (fun n:Nat=>(n:Int)) (Az hK hRc hLv.b0 (by show (P*(T+1)+1)<(P*(T+1)+2);omega) (i:=i2) (by omega))) hc13
  refine wp_skip ?_
  refine k72 _ _ ?_
  refine wp_seq_k fun K74 k74=>?_
  refine wp_block ?_
  have hpa:=pQ hK hRc hLv.b0 (by show (P*(T+1)+1)<(P*(T+1)+2);omega) i2 (by omega)
  have hpk:(pth (egs (jrAll P T pe xs out ps)) by_ (P*(T+1)+1) i2)<(P*(T+1)+2):=hpa.1
  obtain ⟨je,hq1,hq2,hq3,hq4,hq5,hq6,hq7⟩:=mA hK hRc hLv.b0 (by show (P*(T+1)+1)<(P*(T+1)+2);omega) (i:=i2) (by omega)
  obtain ⟨hrg1,hrg2,hrg3⟩:=Wz (r2:=r2) hK hOR.wf hRc hLv.b0 (by show (P*(T+1)+1)<(P*(T+1)+2);omega) hO2 (i:=i2) (by omega)
  have hm2:=hke i2 (Nat.le_refl _) (by omega)
  replace H:=H.keep [9,10,11,21,22,24] rfl
  refine jK 15 (by kernel_rfl) (by kernel_rfl) fun K75 k75=>?_
  replace S:=S.drew
  refine sF H<|sr 2 rfl<|sf fS rfl<|sl S 3 jF G G G<|sr 2 rfl<|si aO aW G G (ownM.adr S (i:=2) rfl (by omega)) (by omega)<|slm aB rfl (ownM.rd S (i:=2) rfl (by omega) (by omega))<|si iM iK G G (ownM.adr S (i:=0) rfl (by omega)) (by omega)<|sp lS rfl<|slm aB rfl (ownM.rd S (i:=0) rfl (by omega) (by omega))<|sr 1 rfl<|sd (aS G G (by unfold i64ok;omega))<|si iM iK G G (ownM.adr S (i:=0) rfl (by omega)) (by omega)<|sp lS rfl<|sE ?_;clear H a;intro a H
  refine aZ H S (i:=0) G G G (by omega) (by omega) aW rfl ?_
  clear H a S;intro _ a S H
  replace S:=S.recell (i:=0) rfl (cell':=egc (egs (jrAll P T pe xs out ps)) (upd r2 (by_ (pth (egs (jrAll P T pe xs out ps)) by_ (P*(T+1)+1) i2)) (r2 (by_ (pth (egs (jrAll P T pe xs out ps)) by_ (P*(T+1)+1) i2))-most))) (fun k j _ hj=>Je k j hj)
  refine k75 _ _ ?_;clear k75 K75
  skip
  replace H:=H.keep [9,10,11,21,22,24] rfl
  refine iH 16 (by kernel_rfl) (by kernel_rfl) ?_
  replace S:=S.drew
  refine sF H<|sr 2 rfl<|sf fS rfl<|sl S 3 jF G G G<|sr 2 rfl<|si aO aW G G (ownM.adr S (i:=2) rfl (by omega)) (by omega)<|slm aB rfl (ownM.rd S (i:=2) rfl (by omega) (by omega))<|sd (Lu G G (by omega))<|si iM iK G G (ownM.adr S (i:=0) rfl (by omega)) (by omega)<|sp lS rfl<|slm aB rfl (ownM.rd S (i:=0) rfl (by omega) (by omega))<|sr 1 rfl<|sd (aG G G (by rw [bK _ _ (fun h=>Rg h)];unfold i64ok;omega))<|si iM iK G G (ownM.adr S (i:=0) rfl (by omega)) (by omega)<|sp lS rfl<|sE ?_;clear H a;intro a H
  refine aZ H S (i:=0) G G G (by omega) (by omega) aW rfl ?_
  clear H a S;intro _ a S H
  replace S:=S.recell (i:=0) rfl (cell':=egc (egs (jrAll P T pe xs out ps)) (pushE r2 (by_ (pth (egs (jrAll P T pe xs out ps)) by_ (P*(T+1)+1) i2)) most)) (fun k j _ hj=>Hk k j hj)
  refine k74 _ _ ?_
  replace H:=H.keep [9,10,11,21,22,24] rfl
  replace S:=S.drew
  refine sP H<|sr 2 rfl<|sf fS rfl<|sl S 3 jF G G G<|sr 2 rfl<|si aO aW G G (ownM.adr S (i:=2) rfl (by omega)) (by omega)<|slm aB rfl (ownM.rd S (i:=2) rfl (by omega) (by omega))<|si iM iK G G (ownM.adr S (i:=0) rfl (by omega)) (by omega)<|sp Ch rfl<|slm aB rfl (ownM.rd S (i:=0) rfl (by omega) (by omega))<|sr 1 rfl<|sE ?_;clear H a;intro a H
  exact k71 (g8-1) (i2+1,pushE r2 (by_ (pth (egs (jrAll P T pe xs out ps)) by_ (P*(T+1)+1) i2)) most) a _ (by omega) (⟨by omega,by omega,Ro hK hOR.wf hRc hLv.b0 (by show (P*(T+1)+1)<(P*(T+1)+2);omega) (by omega) hF2 (by omega) hm2,Lv hK hRc hLv.b0 (by show (P*(T+1)+1)<(P*(T+1)+2);omega) (by omega) (by omega) hrg2.1 hke⟩) (S.sel [0,1,2,3,4,5,6] G G) (H.keep [24,9,10,11,21,22] rfl)
 have hiL2:(i2:Int)=L (P*(T+1)+1):=by
   rcases Int.lt_or_le (i2:Int) (L (P*(T+1)+1)) with h|h
   · exact absurd (by omega) (Gt hK hRc hLv.b0 (by show (P*(T+1)+1)<(P*(T+1)+2);omega) h)
   · omega
 have hpe2:=Az hK hRc hLv.b0 (by show (P*(T+1)+1)<(P*(T+1)+2);omega) (i:=i2) hiL2
 rw [hpe2] at hF2
 have hF3:=hF.more hF2
 have hFb:=hF3.bound hOR.ok (by omega)
 refine wp_exit ?_
 refine k69 _ _ ?_
 replace H:=H.keep [9,10,11,22] rfl
 refine cE ?_
 refine ls 8 H<|sr 2 rfl<|sf vQ rfl<|sl S 3 aB G G G<|sr 1 rfl<|sd (aG G G (by unfold i64ok;omega))<|sr 1 rfl<|sf vQ rfl<|sE ?_;clear H a;intro a H
 refine aH H S (i:=3) G G G G aW G G ?_
 clear H a S;intro _ a S H
 exact k55 ((resid (layR P T pe xs out ps) (roomR P T pe xs out ps) (fun v=>decide (v=P*(T+1)))-(vol+most)).toNat) (r2,vol+most) a _ (by omega) (⟨hF3,by omega,by omega⟩) (S.sel [3,0,4,5,6] G G) (H.keep [9,10,11] rfl)
end
section
theorem aCc {pe:List Int} (hpp:∀ k,k<pe.length→0≤pe.getD k 0∧pe.getD k 0≤1000) (hl:pe.length≤12) {k:Nat} (hk:k≤pe.length):0≤sumI pe k∧sumI pe k≤12000:=by
  have:=Bh hpp k hk
  omega
theorem Ts (pl:Int) (ps:List Psg) (PA:Option Addr) (pc:Nat) (xs:List Int) (XA:Option Addr) (xc:Nat) (out:Int) (pe:List Int) (BA:Option Addr) (bc:Nat) (T0:Int) (w:World) (hps:InS w noF 7 PA ps.length (pcell ps)) (hpn:ps.length≤9223372036854775807) (hxs:InS w noF 1 XA xs.length (icl xs)) (hxn:xs.length≤9223372036854775807) (hpe:InS w noF 1 BA pe.length (icl pe)) (hpen:pe.length≤9223372036854775807) :
    Calls Tryz.prog 75 [.agg [.int .i64 pl,.slice PA ps.length pc,.slice XA xs.length xc].toArray,.int .i64 out,.slice BA pe.length bc,.int .i64 T0].toArray w (Ret (fun u w'=>(dS pl ps xs out pe T0≠0∧u = .tuple #[.int .i64 0,.int .i64 (dS pl ps xs out pe T0)]∧St w noF [] w')∨(dS pl ps xs out pe T0=0∧u = .tuple #[.int .i64 (mfv pl.toNat T0.toNat pe xs (hds out xs ps)),.int .i64 0]∧St w noF [] w'))):=by
 refine enter Tryz.func75 rfl Tryz.ntmps75 rfl (fun a H=>?_)
 have S:=St.start w
 refine aA fun K1 k1=>?_
 refine aP H rfl S G G ?_;clear H a S;intro b4 _ a hb4 hbw4 S H
 refine ls 2 H<|sr 2 rfl<|sE ?_;clear H a;intro a H
 refine k1 _ _ ?_;clear k1 K1
 refine aA fun K2 k2=>?_
 refine ls 4 H<|sd ((aD cA cP rfl S (i:=0) G G))<|sr 3 rfl<|sE ?_;clear H a;intro a H
 refine aC H G G Tryz.func45 G G (kR pl ps PA pc xs XA xc out pe BA bc T0 _ (hps.now S) hpn (hxs.now S) hxn (hpe.now S) hpen) ?_;clear H a
 rintro _ _ a ⟨rfl,S2⟩ H
 replace S:=S.call S2;clear S2
 refine ls 1 H<|sr 1 rfl<|sE ?_;clear H a;intro a H
 refine k2 _ _ ?_;clear k2 K2
 refine wp_seq_k fun K3 k3=>?_
 replace H:=H.keep [1,2,3,4,10] rfl
 refine sS H fun K4 k4=>sr 2 rfl<|sE ?_;clear H a;intro a H
 refine k4 _ ?_;clear k4 K4
 refine condN H rfl (fun hc1=>?_) (fun hc1=>?_)
 ·skip
  refine sS H fun K5 k5=>sr 3 rfl<|sE ?_;clear H a;intro a H
  refine k5 _ ?_;clear k5 K5
  refine wp_ret ?_
  refine ret2 (fn:=Tryz.f75) rfl H G G ?_
  exact .inl ⟨hc1,rfl,(S.sel [] G G)⟩
 obtain ⟨hst,hou,hcr,hti⟩:=oJ hc1
 have hV0:=gK hst
 obtain ⟨P,rfl⟩:∃ P:Nat,pl=P:=⟨pl.toNat,by have:=hV0.size;omega⟩
 have hV:=hV0
 obtain ⟨hpp,hpl'⟩:=qU hcr
 have hpl:pe.length=P:=by omega
 obtain ⟨T,rfl⟩:∃ T:Nat,T0=T:=⟨T0.toNat,by omega⟩
 have hT:T≤60:=by omega
 refine wp_skip ?_
 refine k3 _ _ ?_
 replace H:=H.keep [1,2,3,4] rfl
 refine aA fun K6 k6=>?_
 refine ls 4 H<|sd ((aD cA cP rfl S (i:=0) G G))<|sr 3 rfl<|sE ?_;clear H a;intro a H
 refine aC H G G Tryz.func95 G G (My P T ps PA pc xs XA xc out pe BA bc _ (hps.now S) hpn (hxs.now S) hxn (hpe.now S) hpl hV hou hpp hT) ?_;clear H a
 rintro _ _ a ⟨b28,EA,ec,AA,A',c',r,v,L,rfl,hE,S2⟩ H
 replace S:=S.call S2;clear S2
 refine ls 5 H<|sr 1 rfl<|sf vQ rfl<|sl S 0 aB G G G<|sr 2 rfl<|sE ?_;clear H a;intro a H
 refine k6 _ _ ?_;clear k6 K6
 refine wp_ret ?_
 refine ret2 (fn:=Tryz.f75) rfl H G G ?_
 refine .inr ⟨hc1,?_,(S.sel [] G G)⟩
 rw [Int.toNat_natCast,Int.toNat_natCast,aEk hV hou.1 hpp hE]
end
section
inductive Xt where
  | nil
  | q (i:Nat) (t:Xt)
  | p (i:Nat) (t:Xt)
  | e (i:Nat) (t:Xt)
  | b2 (i:Nat) (t:Xt) (j:Nat) (u:Xt)
  | b3 (i:Nat) (t:Xt) (j:Nat) (u:Xt) (k:Nat) (v:Xt)
  | b4 (i:Nat) (t:Xt) (j:Nat) (u:Xt) (k:Nat) (v:Xt) (m:Nat) (x:Xt)
section
variable {P:Program} {ops:Array Oper} {C:World→Prop} {Qn:Act→World→Prop}
def xt (P:Program) (ops:Array Oper) (C:World→Prop) (z:Nat) (Qn:Act→World→Prop):Xt→Act→World→Prop
  | .nil,a,w=>Qn a w
  | .q i t,a,w=>∃ o v,ops[i]?=some o∧Yd P ops C o v a∧xt P ops C z Qn t (a.put o.dst v) w
  | .p i t,a,w=>∃ o v,ops[i]?=some o∧Yd P ops (fun _=>True) o v a∧xt P ops C z Qn t (a.put o.dst v) w
  | .e i t,a,w=>wpOp P ops NoQ i (fun a' w'=>(i=z∨C w')∧xt P ops C z Qn t a' w') a w
  | .b2 i t j u,a,w=>wpOp P ops NoQ i (fun a' w'=>(i=z∨C w')∧xt P ops C z Qn t a' w') a w∧wpOp P ops NoQ j (fun a' w'=>(j=z∨C w')∧xt P ops C z Qn u a' w') a w
  | .b3 i t j u k v,a,w=>wpOp P ops NoQ i (fun a' w'=>(i=z∨C w')∧xt P ops C z Qn t a' w') a w∧wpOp P ops NoQ j (fun a' w'=>(j=z∨C w')∧xt P ops C z Qn u a' w') a w∧wpOp P ops NoQ k (fun a' w'=>(k=z∨C w')∧xt P ops C z Qn v a' w') a w
  | .b4 i t j u k v m x,a,w=>wpOp P ops NoQ i (fun a' w'=>(i=z∨C w')∧xt P ops C z Qn t a' w') a w∧wpOp P ops NoQ j (fun a' w'=>(j=z∨C w')∧xt P ops C z Qn u a' w') a w∧wpOp P ops NoQ k (fun a' w'=>(k=z∨C w')∧xt P ops C z Qn v a' w') a w∧wpOp P ops NoQ m (fun a' w'=>(m=z∨C w')∧xt P ops C z Qn x a' w') a w
def ckx (ops:Array Oper) (z:Nat):Xt→Bool→Nat→Array Bool→Bool
  | .nil,_,n,listed=>Nat.beq n 0&&(Region.ready .any ops listed).isEmpty
  | .q i t,f,n,listed=>Nat.blt 0 n&&(Region.ready .any ops listed).contains i&&Region.free .any ops listed i&&tP ops z i&&!Nat.beq i z&&!f&&ckx ops z t f (n-1) (listed.setIfInBounds i true)
  | .p i t,f,n,listed=>Nat.blt 0 n&&(Region.ready .any ops listed).contains i&&Region.free .any ops listed i&&!Nat.beq i z&&ckx ops z t f (n-1) (listed.setIfInBounds i true)
  | .e i t,f,n,listed=>Nat.blt 0 n&&eqL (Region.ready .any ops listed) [i]&&ckx ops z t (f||Nat.beq i z) (n-1) (listed.setIfInBounds i true)
  | .b2 i t j u,f,n,listed=>Nat.blt 0 n&&eqL (Region.ready .any ops listed) [i,j]&&ckx ops z t (f||Nat.beq i z) (n-1) (listed.setIfInBounds i true)&&ckx ops z u (f||Nat.beq j z) (n-1) (listed.setIfInBounds j true)
  | .b3 i t j u k v,f,n,listed=>Nat.blt 0 n&&eqL (Region.ready .any ops listed) [i,j,k]&&ckx ops z t (f||Nat.beq i z) (n-1) (listed.setIfInBounds i true)&&ckx ops z u (f||Nat.beq j z) (n-1) (listed.setIfInBounds j true)&&ckx ops z v (f||Nat.beq k z) (n-1) (listed.setIfInBounds k true)
  | .b4 i t j u k v m x,f,n,listed=>Nat.blt 0 n&&eqL (Region.ready .any ops listed) [i,j,k,m]&&ckx ops z t (f||Nat.beq i z) (n-1) (listed.setIfInBounds i true)&&ckx ops z u (f||Nat.beq j z) (n-1) (listed.setIfInBounds j true)&&ckx ops z v (f||Nat.beq k z) (n-1) (listed.setIfInBounds k true)&&ckx ops z x (f||Nat.beq m z) (n-1) (listed.setIfInBounds m true)
theorem Hl {z:Nat} (hs:Region.noSelect ops=true):∀ (π:Xt) (f:Bool) (n:Nat) (listed:Array Bool) (a:Act) (w:World),ckx ops z π f n listed=true→(f=true∨C w)→xt P ops C z Qn π a w→anyZ P ops C z Qn f n listed a w:=by
  intro π
  induction π with
  | nil=>
    intro f n listed a w hc _ h
    simp only [ckx,Bool.and_eq_true] at hc
    have:n=0:=Nat.eq_of_beq_eq_true hc.1
    subst this
    exact ⟨by simpa using hc.2,h⟩
  | q i t ih=>
    intro f n listed a w hc hC h
    simp only [ckx,Bool.and_eq_true] at hc
    obtain ⟨⟨⟨⟨⟨⟨hn,hr⟩,hf⟩,hb⟩,hiz⟩,hff⟩,hc'⟩:=hc
    obtain ⟨m,rfl⟩:∃ m,n=m+1:=gH hn
    obtain ⟨o,v,ho,hy,h'⟩:=h
    have hf0:f=false:=by simpa using hff
    subst hf0
    have hC2:C w:=by
      rcases hC with h|h
      · cases h
      · exact h
    exact vE ho (by simpa using hiz) (qG hb) (Region.noSelect_spec hs) m listed a w (Region.free_spec ho hf) (by simpa using hr) hy hC2 (ih _ _ _ _ _ hc' (.inr hC2) h')
  | p i t ih=>
    intro f n listed a w hc hC h
    simp only [ckx,Bool.and_eq_true] at hc
    obtain ⟨⟨⟨⟨hn,hr⟩,hf⟩,hiz⟩,hc'⟩:=hc
    obtain ⟨m,rfl⟩:∃ m,n=m+1:=gH hn
    obtain ⟨o,v,ho,hy,h'⟩:=h
    exact yB ho (by simpa using hiz) (Region.noSelect_spec hs) m f listed a w (Region.free_spec ho hf) (by simpa using hr) hy hC (ih _ _ _ _ _ hc' hC h')
  | e i t ih=>
    intro f n listed a w hc hC h
    simp only [ckx,Bool.and_eq_true] at hc
    obtain ⟨⟨hn,hr⟩,hc'⟩:=hc
    obtain ⟨m,rfl⟩:∃ m,n=m+1:=gH hn
    have hri:=oY hr
    refine ⟨fun h0=>(by rw [hri] at h0;cases h0),fun j hj=>?_⟩
    rw [hri] at hj
    simp only [List.mem_cons,List.not_mem_nil,or_false] at hj
    subst hj
    exact wpOp_mono (fun a' w' h'=>⟨flag h'.1,ih _ _ _ _ _ hc' (flag h'.1) h'.2⟩) h
  | b2 i t j u ih1 ih2=>
    intro f n listed a w hc hC h
    simp only [ckx,Bool.and_eq_true] at hc
    obtain ⟨⟨⟨hn,hr⟩,hc1⟩,hc2⟩:=hc
    obtain ⟨m,rfl⟩:∃ m,n=m+1:=gH hn
    have hri:=oY hr
    refine ⟨fun h0=>(by rw [hri] at h0;cases h0),fun j hj=>?_⟩
    rw [hri] at hj
    simp only [List.mem_cons,List.not_mem_nil,or_false] at hj
    rcases hj with rfl|rfl
    · exact wpOp_mono (fun a' w' h'=>⟨flag h'.1,ih1 _ _ _ _ _ hc1 (flag h'.1) h'.2⟩) h.1
    · exact wpOp_mono (fun a' w' h'=>⟨flag h'.1,ih2 _ _ _ _ _ hc2 (flag h'.1) h'.2⟩) h.2
  | b3 i t j u k v ih1 ih2 ih3=>
    intro f n listed a w hc hC h
    simp only [ckx,Bool.and_eq_true] at hc
    obtain ⟨⟨⟨⟨hn,hr⟩,hc1⟩,hc2⟩,hc3⟩:=hc
    obtain ⟨m,rfl⟩:∃ m,n=m+1:=gH hn
    have hri:=oY hr
    refine ⟨fun h0=>(by rw [hri] at h0;cases h0),fun j hj=>?_⟩
    rw [hri] at hj
    simp only [List.mem_cons,List.not_mem_nil,or_false] at hj
    rcases hj with rfl|rfl|rfl
    · exact wpOp_mono (fun a' w' h'=>⟨flag h'.1,ih1 _ _ _ _ _ hc1 (flag h'.1) h'.2⟩) h.1
    · exact wpOp_mono (fun a' w' h'=>⟨flag h'.1,ih2 _ _ _ _ _ hc2 (flag h'.1) h'.2⟩) h.2.1
    · exact wpOp_mono (fun a' w' h'=>⟨flag h'.1,ih3 _ _ _ _ _ hc3 (flag h'.1) h'.2⟩) h.2.2
  | b4 i t j u k v m x ih1 ih2 ih3 ih4=>
    intro f n listed a w hc hC h
    simp only [ckx,Bool.and_eq_true] at hc
    obtain ⟨⟨⟨⟨⟨hn,hr⟩,hc1⟩,hc2⟩,hc3⟩,hc4⟩:=hc
    obtain ⟨m',rfl⟩:∃ m',n=m'+1:=gH hn
    have hri:=oY hr
    refine ⟨fun h0=>(by rw [hri] at h0;cases h0),fun j hj=>?_⟩
    rw [hri] at hj
    simp only [List.mem_cons,List.not_mem_nil,or_false] at hj
    rcases hj with rfl|rfl|rfl|rfl
    · exact wpOp_mono (fun a' w' h'=>⟨flag h'.1,ih1 _ _ _ _ _ hc1 (flag h'.1) h'.2⟩) h.1
    · exact wpOp_mono (fun a' w' h'=>⟨flag h'.1,ih2 _ _ _ _ _ hc2 (flag h'.1) h'.2⟩) h.2.1
    · exact wpOp_mono (fun a' w' h'=>⟨flag h'.1,ih3 _ _ _ _ _ hc3 (flag h'.1) h'.2⟩) h.2.2.1
    · exact wpOp_mono (fun a' w' h'=>⟨flag h'.1,ih4 _ _ _ _ _ hc4 (flag h'.1) h'.2⟩) h.2.2.2
def Hm (ops:Array Oper) (z:Nat) (π:Xt):Bool:=Region.noSelect ops&&ckx ops z π false ops.size (Array.replicate ops.size false)
theorem Mz {z:Nat} {id:Nat} {Q:Exit→Act→World→Prop} {a:Act} {w:World} (π:Xt) (hm:P.follows .mixedOrders=true) (hck:Hm ops z π=true) (hC:C w.drew)
    (h:xt P ops C z (fun a w=>Q .normal a w) π a w.drew):(Code.region id ops true).wp P Q a w:=by
  simp only [Hm,Bool.and_eq_true] at hck
  exact wp_region_any hm (nC (C:=C) (z:=z) (Qn:=fun a w=>Q .normal a w) (fun _ _ h=>h) _ _ _ _ _ (Hl hck.1 π false _ _ a _ hck.2 (.inr hC) h))
end
section
variable {P:Program} {w w0:World} {F0:Nat→Prop} {R RE:List Mem} {Q:Exit→Act→World→Prop} {Qn:Act→World→Prop} {l:List Oper} {N:FN} {L:List (Nat×Value)} {a:Act} {ty:TypeId} {pos:String} {af:Array Edge} {op:Op} {y:Code} {id z:Nat} {ops:Array Oper} {π t u v3:Xt}
theorem aCd (z:Nat) (π:Xt) (hm:P.follows .mixedOrders=true) (hck:Hm l.toArray z π=true) (SE:St w0 F0 RE w.drew)
    (h:∀ K:Act→World→Prop,(∀ a w,y.wp P Q a w→K a w)→xt P l.toArray (fun w'=>St w0 F0 RE w') z K π a w.drew):(Code.seq (.region id l.toArray true) y).wp P Q a w:=
  wp_seq (Mz π hm hck SE (h _ (fun _ _ h=>h)))
theorem eO {C:World→Prop} (h:Qn a w):xt P ops C z Qn .nil a w:=h
theorem cO {C:World→Prop} {i d:Nat} {v:Value} (H:Fr N L a) (hi:ops[i]?=some ⟨some d,op,ty,pos,af,none⟩) (hd:Nat.blt d N.n=true) (h:∀ w',C w'→Does P L ⟨some d,op,ty,pos,af,none⟩ w' v)
    (k:∀ a',Fr N ((d,v)::L) a'→xt P ops C z Qn π a' w):xt P ops C z Qn (.q i π) a w:=
  ⟨_,v,hi,.inl ⟨rfl,fun w' hC=>h w' hC a.eval (fun x u hx=>H.eval hx)⟩,k _ (H.put v hd)⟩
theorem jI {C:World→Prop} {i:Nat} {o:Oper} (hi:ops[i]?=some o) (h:wpList P ops (onlyN fun a' w'=>(i=z∨C w')∧xt P ops C z Qn π a' w') [o] a w):wpOp P ops NoQ i (fun a' w'=>(i=z∨C w')∧xt P ops C z Qn π a' w') a w:=by
  unfold wpOp
  simp only [hi]
  unfold wpList at h
  split
  · rename_i hw
    rw [if_pos hw] at h
    rcases h with h|⟨_,_,_,h⟩
    · exact .inl (oF h)
    · exact h.elim
  · rename_i hw
    rw [if_neg hw] at h
    exact h
theorem bT {C:World→Prop} {i:Nat} {o:Oper} (hi:ops[i]?=some o) (h:wpList P ops (onlyN fun a' w'=>(i=z∨C w')∧xt P ops C z Qn π a' w') [o] a w):xt P ops C z Qn (.e i π) a w:=jI hi h
theorem mX {C:World→Prop} {i j:Nat} {o o':Oper} (hi:ops[i]?=some o) (hj:ops[j]?=some o') (h:wpList P ops (onlyN fun a' w'=>(i=z∨C w')∧xt P ops C z Qn t a' w') [o] a w) (h':wpList P ops (onlyN fun a' w'=>(j=z∨C w')∧xt P ops C z Qn u a' w') [o'] a w):xt P ops C z Qn (.b2 i t j u) a w:=⟨jI hi h,jI hj h'⟩
theorem Jw {C:World→Prop} {i j k:Nat} {o o' o'':Oper} (hi:ops[i]?=some o) (hj:ops[j]?=some o') (hk:ops[k]?=some o'') (h:wpList P ops (onlyN fun a' w'=>(i=z∨C w')∧xt P ops C z Qn t a' w') [o] a w) (h':wpList P ops (onlyN fun a' w'=>(j=z∨C w')∧xt P ops C z Qn u a' w') [o'] a w) (h'':wpList P ops (onlyN fun a' w'=>(k=z∨C w')∧xt P ops C z Qn v3 a' w') [o''] a w):xt P ops C z Qn (.b3 i t j u k v3) a w:=⟨jI hi h,jI hj h',jI hk h''⟩
theorem aEy {C:World→Prop} {i j k m:Nat} {o1 o2 o3 o4:Oper} {v4:Xt} (hi:ops[i]?=some o1) (hj:ops[j]?=some o2) (hk:ops[k]?=some o3) (hm:ops[m]?=some o4) (h1:wpList P ops (onlyN fun a' w'=>(i=z∨C w')∧xt P ops C z Qn t a' w') [o1] a w) (h2:wpList P ops (onlyN fun a' w'=>(j=z∨C w')∧xt P ops C z Qn u a' w') [o2] a w) (h3:wpList P ops (onlyN fun a' w'=>(k=z∨C w')∧xt P ops C z Qn v3 a' w') [o3] a w) (h4:wpList P ops (onlyN fun a' w'=>(m=z∨C w')∧xt P ops C z Qn v4 a' w') [o4] a w):xt P ops C z Qn (.b4 i t j u k v3 m v4) a w:=⟨jI hi h1,jI hj h2,jI hk h3,jI hm h4⟩
end
end
section
theorem aCe {x1 x2 x3 x4 x5:List Value} (h:[x1,x2,x3,x4,x5]=w8exW.map fun p=>[.int .i64 p.a,.int .i64 p.b,.int .i64 p.kind,.int .i64 p.ticks,.int .i64 p.wide,.int .i64 p.mach,.int .i64 p.still]):∀ k j,k<5→j<7→([x1,x2,x3,x4,x5].getD k []).getD j undef=pcell w8exW k j:=by
  rw [h]
  intro k j hk hj
  match k,hk with
  | 0,_=>exact seven (p:=fun j=>((w8exW.map fun p=>[Value.int .i64 p.a,.int .i64 p.b,.int .i64 p.kind,.int .i64 p.ticks,.int .i64 p.wide,.int .i64 p.mach,.int .i64 p.still]).getD 0 []).getD j undef=pcell w8exW 0 j) G G G G G G G j hj
  | 1,_=>exact seven (p:=fun j=>((w8exW.map fun p=>[Value.int .i64 p.a,.int .i64 p.b,.int .i64 p.kind,.int .i64 p.ticks,.int .i64 p.wide,.int .i64 p.mach,.int .i64 p.still]).getD 1 []).getD j undef=pcell w8exW 1 j) G G G G G G G j hj
  | 2,_=>exact seven (p:=fun j=>((w8exW.map fun p=>[Value.int .i64 p.a,.int .i64 p.b,.int .i64 p.kind,.int .i64 p.ticks,.int .i64 p.wide,.int .i64 p.mach,.int .i64 p.still]).getD 2 []).getD j undef=pcell w8exW 2 j) G G G G G G G j hj
  | 3,_=>exact seven (p:=fun j=>((w8exW.map fun p=>[Value.int .i64 p.a,.int .i64 p.b,.int .i64 p.kind,.int .i64 p.ticks,.int .i64 p.wide,.int .i64 p.mach,.int .i64 p.still]).getD 3 []).getD j undef=pcell w8exW 3 j) G G G G G G G j hj
  | 4,_=>exact seven (p:=fun j=>((w8exW.map fun p=>[Value.int .i64 p.a,.int .i64 p.b,.int .i64 p.kind,.int .i64 p.ticks,.int .i64 p.wide,.int .i64 p.mach,.int .i64 p.still]).getD 4 []).getD j undef=pcell w8exW 4 j) G G G G G G G j hj
theorem aCf {x:Int}:∀ k j,k<1→j<1→([[Value.int .i64 x]].getD k []).getD j undef=icl [x] k j:=fun k j hk hj=>by
  have e:k=0:=by omega
  have e2:j=0:=by omega
  subst e;subst e2;rfl
theorem gL {x y z t:Int}:∀ k j,k<4→j<1→([[Value.int .i64 x],[.int .i64 y],[.int .i64 z],[.int .i64 t]].getD k []).getD j undef=icl [x,y,z,t] k j:=fun k j hk hj=>by
  have e2:j=0:=by omega
  subst e2
  match k,hk with
  | 0,_=>rfl
  | 1,_=>rfl
  | 2,_=>rfl
  | 3,_=>rfl
theorem gW {x1 x2:List Value} (h:[x1,x2]=exPr.map fun p=>[.int .i64 p.fr,.int .i64 p.to,.int .i64 p.first,.int .i64 p.last,.bool p.helped]):∀ k j,k<2→j<5→([x1,x2].getD k []).getD j undef=dH exPr k j:=by
  rw [h]
  intro k j hk hj
  have hj':j=0∨j=1∨j=2∨j=3∨j=4:=by omega
  have hk':k=0∨k=1:=by omega
  rcases hk' with rfl|rfl <;> rcases hj' with rfl|rfl|rfl|rfl|rfl <;> rfl
theorem jS {x1 x2:List Value} {RA:Option Addr} {rc:Nat} (h:[x1,x2]=(exU RA rc).map fun u=>[.int .i64 u.mach,.int .i64 u.every,.int .i64 u.seen,.slice u.RA u.rates.length u.rc,.int .i64 u.worn,.int .i64 u.turns,.int .i64 u.age,.slice u.UA u.uses.length u.uc,.int .i64 u.old,.int .i64 u.tn,.int .i64 u.cl,.int .i64 u.kind]):∀ k j,k<2→j<12→([x1,x2].getD k []).getD j undef=vcell (exU RA rc) k j:=by
  rw [h]
  intro k j hk hj
  have hj':j=0∨j=1∨j=2∨j=3∨j=4∨j=5∨j=6∨j=7∨j=8∨j=9∨j=10∨j=11:=by omega
  have hk':k=0∨k=1:=by omega
  rcases hk' with rfl|rfl <;> rcases hj' with rfl|rfl|rfl|rfl|rfl|rfl|rfl|rfl|rfl|rfl|rfl|rfl <;> rfl
theorem aEz:∀ k j,k<1→j<2→([[Value.int .i64 1,.int .i64 2]].getD k []).getD j undef=scell [(1,2)] k j:=fun k j hk hj=>by
  have hk':k=0:=by omega
  have hj':j=0∨j=1:=by omega
  subst hk'
  rcases hj' with rfl|rfl <;> rfl
theorem aFa:∀ k j,k<1→j<3→([[Value.int .i64 1,.int .i64 1,.int .i64 1]].getD k []).getD j undef=cB exJob k j:=fun k j hk hj=>by
  have hk':k=0:=by omega
  have hj':j=0∨j=1∨j=2:=by omega
  subst hk'
  rcases hj' with rfl|rfl|rfl <;> rfl
section
variable {w:World} {F:Nat→Prop} {PA:Option Addr} {pc:Nat} {XA:Option Addr} {xc:Nat} {BA:Option Addr} {bc:Nat} {QA:Option Addr} {qc:Nat} {VA:Option Addr} {vc:Nat} {RA:Option Addr} {rc:Nat}
theorem Tt (h1:InS w F 7 PA 5 (pcell w8exW)) (h2:InS w F 1 XA 1 (icl exX)) (h3:InS w F 1 BA 4 (icl w8exP)) (h4:InS w F 5 QA 2 (dH exPr)) (h5:InS w F 12 VA 2 (vcell (exU RA rc))) (h6:InS w F 2 RA 1 (scell [(1,2)])):YIn w F (exYr PA pc XA xc BA bc QA qc VA vc RA rc):=
  ⟨h1,h2,h3,h4,h5,InS.nil,fun k hk=>by
    have hk':k=0∨k=1:=by have:k<2:=hk;omega
    rcases hk' with rfl|rfl <;> exact h6,fun k hk=>by
    have hk':k=0∨k=1:=by have:k<2:=hk;omega
    rcases hk' with rfl|rfl <;> exact InS.nil⟩
theorem Tu:YBd (exYr PA pc XA xc BA bc QA qc VA vc RA rc):=by
  have two:∀ {p:Nat→Prop},p 0→p 1→∀ k,k<2→p k:=fun h0 h1 k hk=>by
    have hk':k=0∨k=1:=by omega
    rcases hk' with rfl|rfl
    · exact h0
    · exact h1
  exact ⟨by show 5*56≤_;decide,by show 1*8≤_;decide,by show 4*8≤_;decide,by show 2*40≤_;decide,by show 2*120≤_;decide,by show 0*24≤_;decide,two (by show 1*16≤_;decide) (by show 1*16≤_;decide),two (by show 0*48≤_;decide) (by show 0*48≤_;decide),two (by show 0≤0;decide) (by show 0≤0;decide)⟩
theorem Zc:∀ k j,k<4→j<1→setsV (exYr PA pc XA xc BA bc QA qc VA vc RA rc) exJob (exYr PA pc XA xc BA bc QA qc VA vc RA rc).us.length k j=icl [0,3,1,1] k j:=fun k j hk hj=>by
  unfold setsV icl
  rw [exOo (by omega)]
theorem Na (hy:YIn w noF (exYr PA pc XA xc BA bc QA qc VA vc RA rc)) {TA:Option Addr} {tc:Nat} (hl:InS w noF 3 TA 1 (cB exJob)) :
    Calls Tryz.prog 11 [.agg [.int .i64 4,.int .i64 4,.slice PA 5 pc,.slice XA 1 xc,.slice BA 4 bc,.int .i64 6,.bool false,.slice QA 2 qc,.slice VA 2 vc,.int .i64 1,.slice none 0 0].toArray,.slice TA 1 tc].toArray w (Ret fun v w'=>∃ A c,v = .tuple #[.slice A 4 c,.int .i64 0]∧St w noF [ownM 3 1 A 4 c (icl [0,3,1,1])] w'):=by
  have hh:=aBr (exYr PA pc XA xc BA bc QA qc VA vc RA rc) exJob TA tc w hy Tu hl (by decide)
  refine dU hh fun v w' h=>?_
  rcases h with ⟨h0,_⟩|⟨_,A,c,h1,h2⟩
  · exact absurd Ym h0
  · exact ⟨A,c,h1,h2.recell (i:=0) rfl Zc⟩
theorem Er (hy:YIn w noF (exYr PA pc XA xc BA bc QA qc VA vc RA rc)) :
    Calls Tryz.prog 14 [.agg [.int .i64 4,.int .i64 4,.slice PA 5 pc,.slice XA 1 xc,.slice BA 4 bc,.int .i64 6,.bool false,.slice QA 2 qc,.slice VA 2 vc,.int .i64 1,.slice none 0 0].toArray,.slice none 0 0].toArray w (Ret fun v w'=>v = .tuple #[.int .i64 3,.int .i64 3,.int .i64 0]∧St w noF [] w'):=by
  have hh:=Tc (exYr PA pc XA xc BA bc QA qc VA vc RA rc) [] none 0 w hy Tu InS.nil (by decide)
  refine dU hh fun v w' h=>?_
  rcases h with ⟨h0,_⟩|⟨_,h1,h2⟩
  · exact absurd Yl h0
  · rw [Tj] at h1
    exact ⟨h1,h2⟩
end
theorem cI (w:World) :
    Calls Tryz.prog 46 [].toArray w (Ret (fun u w'=>∃ A c B d,u = .agg [.int .i64 4,.slice A 5 c,.slice B 1 d].toArray∧St w noF [ownM 89 7 A 5 c (pcell w8exW),ownM 3 1 B 1 d (icl exX)] w')):=by
 refine enter Tryz.func46 rfl Tryz.ntmps46 rfl (fun a H=>?_)
 have S:=St.start w
 refine aA fun K1 k1=>?_
 refine aM H rfl S Oq ?_;clear H a S;intro b0 _ a hb0 hbw0 S H
 refine k1 _ _ ?_;clear k1 K1
 replace H:=H.keep [0] rfl
 refine aA fun K2 k2=>?_
 refine aL H rfl S aO aW dQ G G G G G G G G G ?_;clear H a S;intro A1 _ a hA1 S H
 replace S:=S.recell (i:=0) rfl (cell':=icl exX) (fun k j hk hj=>aCf k j hk hj)
 refine ls 5 H<|sd (aN Ck G G)<|sd (aN Ck G G)<|sd (aN Ck G G)<|sd (aN Ck G G)<|sd (aN Ck G G)<|sE ?_;clear H a;intro a H
 refine aL H rfl S eR dD kK G G G G G G G G G ?_;clear H a S;intro A2 _ a hA2 S H
 replace S:=S.recell (i:=0) rfl (cell':=pcell w8exW) (fun k j hk hj=>aCe rfl k j hk hj)
 refine ls 1 H<|sd (aN Ih G G)<|sE ?_;clear H a;intro a H
 refine aH H S (i:=2) G G G G cP G G ?_
 clear H a S;intro _ a S H
 refine k2 _ _ ?_;clear k2 K2
 refine wp_ret ?_
 refine retA (fn:=Tryz.f46) rfl H rfl cA (by exact cP) (cT S (i:=2) rfl) ?_
 exact ⟨_,_,_,_,rfl,(S.sel [0,1] G G)⟩
theorem xY (w:World) :
    Calls Tryz.prog 23 [].toArray w (Ret (fun u w'=>∃ PA pc XA xc BA bc QA qc VA vc RA rc,u = .agg [.int .i64 4,.int .i64 4,.slice PA 5 pc,.slice XA 1 xc,.slice BA 4 bc,.int .i64 6,.bool false,.slice QA 2 qc,.slice VA 2 vc,.int .i64 1,.slice none 0 0].toArray∧St w noF [ownM 89 7 PA 5 pc (pcell w8exW),ownM 3 1 XA 1 xc (icl exX),ownM 3 1 BA 4 bc (icl w8exP),ownM 82 5 QA 2 qc (dH exPr),ownM 56 12 VA 2 vc (vcell (exU RA rc)),ownM 79 2 RA 1 rc (scell [(1,2)])] w')):=by
 refine enter Tryz.func23 rfl Tryz.ntmps23 rfl (fun a H=>?_)
 have S:=St.start w
 refine aA fun K1 k1=>?_
 refine aM H rfl S Ci ?_;clear H a S;intro b0 _ a hb0 hbw0 S H
 refine k1 _ _ ?_;clear k1 K1
 refine aA fun K2 k2=>?_
 refine ls 1 H<|sd (aN kL G G)<|sE ?_;clear H a;intro a H
 refine aL H rfl S cY bC eT G G G G G G G G G ?_;clear H a S;intro A1 _ a hA1 S H
 replace S:=S.recell (i:=0) rfl (cell':=scell [(1,2)]) (fun k j hk hj=>aEz k j hk hj)
 refine ls 1 H<|sd (aN aDz G G)<|sE ?_;clear H a;intro a H
 refine aM H rfl S Id ?_;clear H a S;intro b1 _ a hb1 hbw1 S H
 refine aH H S (i:=0) G G G G dV G G ?_
 clear H a S;intro _ a S H
 refine k2 _ _ ?_;clear k2 K2
 replace H:=H.keep [0,1] rfl
 replace S:=S.drew
 refine aCd 11 (.q 2 (.q 3 (.q 5 (.q 6 (.q 7 (.q 8 (.b4 0 (.b3 1 (.b2 4 (.e 9 (.q 10 (.e 11 .nil))) 9 (.e 4 (.q 10 (.e 11 .nil)))) 4 (.b2 1 (.e 9 (.q 10 (.e 11 .nil))) 9 (.e 1 (.q 10 (.e 11 .nil)))) 9 (.b2 1 (.e 4 (.q 10 (.e 11 .nil))) 4 (.e 1 (.q 10 (.e 11 .nil))))) 1 (.b3 0 (.b2 4 (.e 9 (.q 10 (.e 11 .nil))) 9 (.e 4 (.q 10 (.e 11 .nil)))) 4 (.b2 0 (.e 9 (.q 10 (.e 11 .nil))) 9 (.e 0 (.q 10 (.e 11 .nil)))) 9 (.b2 0 (.e 4 (.q 10 (.e 11 .nil))) 4 (.e 0 (.q 10 (.e 11 .nil))))) 4 (.b3 0 (.b2 1 (.e 9 (.q 10 (.e 11 .nil))) 9 (.e 1 (.q 10 (.e 11 .nil)))) 1 (.b2 0 (.e 9 (.q 10 (.e 11 .nil))) 9 (.e 0 (.q 10 (.e 11 .nil)))) 9 (.b2 0 (.e 1 (.q 10 (.e 11 .nil))) 1 (.e 0 (.q 10 (.e 11 .nil))))) 9 (.b3 0 (.b2 1 (.e 4 (.q 10 (.e 11 .nil))) 4 (.e 1 (.q 10 (.e 11 .nil)))) 1 (.b2 0 (.e 4 (.q 10 (.e 11 .nil))) 4 (.e 0 (.q 10 (.e 11 .nil)))) 4 (.b2 0 (.e 1 (.q 10 (.e 11 .nil))) 1 (.e 0 (.q 10 (.e 11 .nil)))))))))))) (by kernel_rfl) (by kernel_rfl) (S.sel [0,1] G G) fun K3 k3=>?_
 refine cO H G G (fun _ S=>aN aAb G G) ?_;clear H a;intro a H
 refine cO H G G (fun _ S=>aN aAb G G) ?_;clear H a;intro a H
 refine cO H G G (fun _ S=>(aD dE dV rfl S (i:=0) G G)) ?_;clear H a;intro a H
 refine cO H G G (fun _ S=>aN aAa G G) ?_;clear H a;intro a H
 refine cO H G G (fun _ S=>(aD dE dV rfl S (i:=0) G G)) ?_;clear H a;intro a H
 refine cO H G G (fun _ S=>aN aAa G G) ?_;clear H a;intro a H
 refine aEy G G G G ?_ ?_ ?_ ?_
 ·skip
  refine aC H G G Tryz.func46 G G (cI _) ?_;clear H a
  rintro _ _ a ⟨A5,c5,B5,d5,rfl,S2⟩ H
  replace S:=S.call S2;clear S2
  refine wpList_nil (And.intro (Or.inr (S.sel [2,3] G G)) ?_)
  refine Jw G G G ?_ ?_ ?_
  ·skip
   refine aL H rfl S aO aW dQ G G G G G G G G G ?_;clear H a S;intro A2 _ a hA2 S H
   replace S:=S.recell (i:=0) rfl (cell':=icl w8exP) (fun k j hk hj=>gL k j hk hj)
   refine wpList_nil (And.intro (Or.inr (S.sel [3,4] G G)) ?_)
   refine mX G G ?_ ?_
   ·skip
    refine aL H rfl S eS eL gI G G G G G G G G G ?_;clear H a S;intro A3 _ a hA3 S H
    replace S:=S.recell (i:=0) rfl (cell':=dH exPr) (fun k j hk hj=>gW rfl k j hk hj)
    refine wpList_nil (And.intro (Or.inr (S.sel [4,5] G G)) ?_)
    refine bT rfl ?_
    refine aL H rfl S cX dC fU G G G G G G G G G ?_;clear H a S;intro A4 _ a hA4 S H
    replace S:=S.recell (i:=0) rfl (cell':=vcell (exU _ _)) (fun k j hk hj=>jS rfl k j hk hj)
    refine wpList_nil (And.intro (Or.inr (S.sel [5,6] G G)) ?_)
    refine cO H G G (fun _ S=>aN gE G G) ?_;clear H a;intro a H
    refine bT rfl ?_
    refine aH H S (i:=7) G G G G bG G G ?_
    clear H a S;intro _ a S H
    refine wpList_nil (And.intro (Or.inl rfl) ?_)
    refine eO ?_
    refine k3 _ _ ?_
    clear k3 K3
    refine wp_ret ?_
    refine retA (fn:=Tryz.f23) rfl H rfl bJ (by exact bG) (cT S (i:=7) rfl) ?_
    exact ⟨_,_,_,_,_,_,_,_,_,_,_,_,rfl,(S.sel [3,4,2,1,0,6] G G)⟩
   ·skip
    refine aL H rfl S cX dC fU G G G G G G G G G ?_;clear H a S;intro A5 _ a hA5 S H
    replace S:=S.recell (i:=0) rfl (cell':=vcell (exU _ _)) (fun k j hk hj=>jS rfl k j hk hj)
    refine wpList_nil (And.intro (Or.inr (S.sel [4,5] G G)) ?_)
    refine bT rfl ?_
    refine aL H rfl S eS eL gI G G G G G G G G G ?_;clear H a S;intro A6 _ a hA6 S H
    replace S:=S.recell (i:=0) rfl (cell':=dH exPr) (fun k j hk hj=>gW rfl k j hk hj)
    refine wpList_nil (And.intro (Or.inr (S.sel [5,6] G G)) ?_)
    refine cO H G G (fun _ S=>aN gE G G) ?_;clear H a;intro a H
    refine bT rfl ?_
    refine aH H S (i:=7) G G G G bG G G ?_
    clear H a S;intro _ a S H
    refine wpList_nil (And.intro (Or.inl rfl) ?_)
    refine eO ?_
    refine k3 _ _ ?_
    clear k3 K3
    refine wp_ret ?_
    refine retA (fn:=Tryz.f23) rfl H rfl bJ (by exact bG) (cT S (i:=7) rfl) ?_
    exact ⟨_,_,_,_,_,_,_,_,_,_,_,_,rfl,(S.sel [3,4,2,0,1,6] G G)⟩
  ·skip
   refine aL H rfl S eS eL gI G G G G G G G G G ?_;clear H a S;intro A7 _ a hA7 S H
   replace S:=S.recell (i:=0) rfl (cell':=dH exPr) (fun k j hk hj=>gW rfl k j hk hj)
   refine wpList_nil (And.intro (Or.inr (S.sel [3,4] G G)) ?_)
   refine mX G G ?_ ?_
   ·skip
    refine aL H rfl S aO aW dQ G G G G G G G G G ?_;clear H a S;intro A8 _ a hA8 S H
    replace S:=S.recell (i:=0) rfl (cell':=icl w8exP) (fun k j hk hj=>gL k j hk hj)
    refine wpList_nil (And.intro (Or.inr (S.sel [4,5] G G)) ?_)
    refine bT rfl ?_
    refine aL H rfl S cX dC fU G G G G G G G G G ?_;clear H a S;intro A9 _ a hA9 S H
    replace S:=S.recell (i:=0) rfl (cell':=vcell (exU _ _)) (fun k j hk hj=>jS rfl k j hk hj)
    refine wpList_nil (And.intro (Or.inr (S.sel [5,6] G G)) ?_)
    refine cO H G G (fun _ S=>aN gE G G) ?_;clear H a;intro a H
    refine bT rfl ?_
    refine aH H S (i:=7) G G G G bG G G ?_
    clear H a S;intro _ a S H
    refine wpList_nil (And.intro (Or.inl rfl) ?_)
    refine eO ?_
    refine k3 _ _ ?_
    clear k3 K3
    refine wp_ret ?_
    refine retA (fn:=Tryz.f23) rfl H rfl bJ (by exact bG) (cT S (i:=7) rfl) ?_
    exact ⟨_,_,_,_,_,_,_,_,_,_,_,_,rfl,(S.sel [3,4,1,2,0,6] G G)⟩
   ·skip
    refine aL H rfl S cX dC fU G G G G G G G G G ?_;clear H a S;intro A10 _ a hA10 S H
    replace S:=S.recell (i:=0) rfl (cell':=vcell (exU _ _)) (fun k j hk hj=>jS rfl k j hk hj)
    refine wpList_nil (And.intro (Or.inr (S.sel [4,5] G G)) ?_)
    refine bT rfl ?_
    refine aL H rfl S aO aW dQ G G G G G G G G G ?_;clear H a S;intro A11 _ a hA11 S H
    replace S:=S.recell (i:=0) rfl (cell':=icl w8exP) (fun k j hk hj=>gL k j hk hj)
    refine wpList_nil (And.intro (Or.inr (S.sel [5,6] G G)) ?_)
    refine cO H G G (fun _ S=>aN gE G G) ?_;clear H a;intro a H
    refine bT rfl ?_
    refine aH H S (i:=7) G G G G bG G G ?_
    clear H a S;intro _ a S H
    refine wpList_nil (And.intro (Or.inl rfl) ?_)
    refine eO ?_
    refine k3 _ _ ?_
    clear k3 K3
    refine wp_ret ?_
    refine retA (fn:=Tryz.f23) rfl H rfl bJ (by exact bG) (cT S (i:=7) rfl) ?_
    exact ⟨_,_,_,_,_,_,_,_,_,_,_,_,rfl,(S.sel [3,4,0,2,1,6] G G)⟩
  ·skip
   refine aL H rfl S cX dC fU G G G G G G G G G ?_;clear H a S;intro A12 _ a hA12 S H
   replace S:=S.recell (i:=0) rfl (cell':=vcell (exU _ _)) (fun k j hk hj=>jS rfl k j hk hj)
   refine wpList_nil (And.intro (Or.inr (S.sel [3,4] G G)) ?_)
   refine mX G G ?_ ?_
   ·skip
    refine aL H rfl S aO aW dQ G G G G G G G G G ?_;clear H a S;intro A13 _ a hA13 S H
    replace S:=S.recell (i:=0) rfl (cell':=icl w8exP) (fun k j hk hj=>gL k j hk hj)
    refine wpList_nil (And.intro (Or.inr (S.sel [4,5] G G)) ?_)
    refine bT rfl ?_
    refine aL H rfl S eS eL gI G G G G G G G G G ?_;clear H a S;intro A14 _ a hA14 S H
    replace S:=S.recell (i:=0) rfl (cell':=dH exPr) (fun k j hk hj=>gW rfl k j hk hj)
    refine wpList_nil (And.intro (Or.inr (S.sel [5,6] G G)) ?_)
    refine cO H G G (fun _ S=>aN gE G G) ?_;clear H a;intro a H
    refine bT rfl ?_
    refine aH H S (i:=7) G G G G bG G G ?_
    clear H a S;intro _ a S H
    refine wpList_nil (And.intro (Or.inl rfl) ?_)
    refine eO ?_
    refine k3 _ _ ?_
    clear k3 K3
    refine wp_ret ?_
    refine retA (fn:=Tryz.f23) rfl H rfl bJ (by exact bG) (cT S (i:=7) rfl) ?_
    exact ⟨_,_,_,_,_,_,_,_,_,_,_,_,rfl,(S.sel [3,4,1,0,2,6] G G)⟩
   ·skip
    refine aL H rfl S eS eL gI G G G G G G G G G ?_;clear H a S;intro A15 _ a hA15 S H
    replace S:=S.recell (i:=0) rfl (cell':=dH exPr) (fun k j hk hj=>gW rfl k j hk hj)
    refine wpList_nil (And.intro (Or.inr (S.sel [4,5] G G)) ?_)
    refine bT rfl ?_
    refine aL H rfl S aO aW dQ G G G G G G G G G ?_;clear H a S;intro A16 _ a hA16 S H
    replace S:=S.recell (i:=0) rfl (cell':=icl w8exP) (fun k j hk hj=>gL k j hk hj)
    refine wpList_nil (And.intro (Or.inr (S.sel [5,6] G G)) ?_)
    refine cO H G G (fun _ S=>aN gE G G) ?_;clear H a;intro a H
    refine bT rfl ?_
    refine aH H S (i:=7) G G G G bG G G ?_
    clear H a S;intro _ a S H
    refine wpList_nil (And.intro (Or.inl rfl) ?_)
    refine eO ?_
    refine k3 _ _ ?_
    clear k3 K3
    refine wp_ret ?_
    refine retA (fn:=Tryz.f23) rfl H rfl bJ (by exact bG) (cT S (i:=7) rfl) ?_
    exact ⟨_,_,_,_,_,_,_,_,_,_,_,_,rfl,(S.sel [3,4,0,1,2,6] G G)⟩
 ·skip
  refine aL H rfl S aO aW dQ G G G G G G G G G ?_;clear H a S;intro A17 _ a hA17 S H
  replace S:=S.recell (i:=0) rfl (cell':=icl w8exP) (fun k j hk hj=>gL k j hk hj)
  refine wpList_nil (And.intro (Or.inr (S.sel [1,2] G G)) ?_)
  refine Jw G G G ?_ ?_ ?_
  ·skip
   refine aC H G G Tryz.func46 G G (cI _) ?_;clear H a
   rintro _ _ a ⟨A5,c5,B5,d5,rfl,S2⟩ H
   replace S:=S.call S2;clear S2
   refine wpList_nil (And.intro (Or.inr (S.sel [3,4] G G)) ?_)
   refine mX G G ?_ ?_
   ·skip
    refine aL H rfl S eS eL gI G G G G G G G G G ?_;clear H a S;intro A18 _ a hA18 S H
    replace S:=S.recell (i:=0) rfl (cell':=dH exPr) (fun k j hk hj=>gW rfl k j hk hj)
    refine wpList_nil (And.intro (Or.inr (S.sel [4,5] G G)) ?_)
    refine bT rfl ?_
    refine aL H rfl S cX dC fU G G G G G G G G G ?_;clear H a S;intro A19 _ a hA19 S H
    replace S:=S.recell (i:=0) rfl (cell':=vcell (exU _ _)) (fun k j hk hj=>jS rfl k j hk hj)
    refine wpList_nil (And.intro (Or.inr (S.sel [5,6] G G)) ?_)
    refine cO H G G (fun _ S=>aN gE G G) ?_;clear H a;intro a H
    refine bT rfl ?_
    refine aH H S (i:=7) G G G G bG G G ?_
    clear H a S;intro _ a S H
    refine wpList_nil (And.intro (Or.inl rfl) ?_)
    refine eO ?_
    refine k3 _ _ ?_
    clear k3 K3
    refine wp_ret ?_
    refine retA (fn:=Tryz.f23) rfl H rfl bJ (by exact bG) (cT S (i:=7) rfl) ?_
    exact ⟨_,_,_,_,_,_,_,_,_,_,_,_,rfl,(S.sel [2,3,4,1,0,6] G G)⟩
   ·skip
    refine aL H rfl S cX dC fU G G G G G G G G G ?_;clear H a S;intro A20 _ a hA20 S H
    replace S:=S.recell (i:=0) rfl (cell':=vcell (exU _ _)) (fun k j hk hj=>jS rfl k j hk hj)
    refine wpList_nil (And.intro (Or.inr (S.sel [4,5] G G)) ?_)
    refine bT rfl ?_
    refine aL H rfl S eS eL gI G G G G G G G G G ?_;clear H a S;intro A21 _ a hA21 S H
    replace S:=S.recell (i:=0) rfl (cell':=dH exPr) (fun k j hk hj=>gW rfl k j hk hj)
    refine wpList_nil (And.intro (Or.inr (S.sel [5,6] G G)) ?_)
    refine cO H G G (fun _ S=>aN gE G G) ?_;clear H a;intro a H
    refine bT rfl ?_
    refine aH H S (i:=7) G G G G bG G G ?_
    clear H a S;intro _ a S H
    refine wpList_nil (And.intro (Or.inl rfl) ?_)
    refine eO ?_
    refine k3 _ _ ?_
    clear k3 K3
    refine wp_ret ?_
    refine retA (fn:=Tryz.f23) rfl H rfl bJ (by exact bG) (cT S (i:=7) rfl) ?_
    exact ⟨_,_,_,_,_,_,_,_,_,_,_,_,rfl,(S.sel [2,3,4,0,1,6] G G)⟩
  ·skip
   refine aL H rfl S eS eL gI G G G G G G G G G ?_;clear H a S;intro A22 _ a hA22 S H
   replace S:=S.recell (i:=0) rfl (cell':=dH exPr) (fun k j hk hj=>gW rfl k j hk hj)
   refine wpList_nil (And.intro (Or.inr (S.sel [2,3] G G)) ?_)
   refine mX G G ?_ ?_
   ·skip
    refine aC H G G Tryz.func46 G G (cI _) ?_;clear H a
    rintro _ _ a ⟨A5,c5,B5,d5,rfl,S2⟩ H
    replace S:=S.call S2;clear S2
    refine wpList_nil (And.intro (Or.inr (S.sel [4,5] G G)) ?_)
    refine bT rfl ?_
    refine aL H rfl S cX dC fU G G G G G G G G G ?_;clear H a S;intro A23 _ a hA23 S H
    replace S:=S.recell (i:=0) rfl (cell':=vcell (exU _ _)) (fun k j hk hj=>jS rfl k j hk hj)
    refine wpList_nil (And.intro (Or.inr (S.sel [5,6] G G)) ?_)
    refine cO H G G (fun _ S=>aN gE G G) ?_;clear H a;intro a H
    refine bT rfl ?_
    refine aH H S (i:=7) G G G G bG G G ?_
    clear H a S;intro _ a S H
    refine wpList_nil (And.intro (Or.inl rfl) ?_)
    refine eO ?_
    refine k3 _ _ ?_
    clear k3 K3
    refine wp_ret ?_
    refine retA (fn:=Tryz.f23) rfl H rfl bJ (by exact bG) (cT S (i:=7) rfl) ?_
    exact ⟨_,_,_,_,_,_,_,_,_,_,_,_,rfl,(S.sel [1,2,4,3,0,6] G G)⟩
   ·skip
    refine aL H rfl S cX dC fU G G G G G G G G G ?_;clear H a S;intro A24 _ a hA24 S H
    replace S:=S.recell (i:=0) rfl (cell':=vcell (exU _ _)) (fun k j hk hj=>jS rfl k j hk hj)
    refine wpList_nil (And.intro (Or.inr (S.sel [3,4] G G)) ?_)
    refine bT rfl ?_
    refine aC H G G Tryz.func46 G G (cI _) ?_;clear H a
    rintro _ _ a ⟨A5,c5,B5,d5,rfl,S2⟩ H
    replace S:=S.call S2;clear S2
    refine wpList_nil (And.intro (Or.inr (S.sel [5,6] G G)) ?_)
    refine cO H G G (fun _ S=>aN gE G G) ?_;clear H a;intro a H
    refine bT rfl ?_
    refine aH H S (i:=7) G G G G bG G G ?_
    clear H a S;intro _ a S H
    refine wpList_nil (And.intro (Or.inl rfl) ?_)
    refine eO ?_
    refine k3 _ _ ?_
    clear k3 K3
    refine wp_ret ?_
    refine retA (fn:=Tryz.f23) rfl H rfl bJ (by exact bG) (cT S (i:=7) rfl) ?_
    exact ⟨_,_,_,_,_,_,_,_,_,_,_,_,rfl,(S.sel [0,1,4,3,2,6] G G)⟩
  ·skip
   refine aL H rfl S cX dC fU G G G G G G G G G ?_;clear H a S;intro A25 _ a hA25 S H
   replace S:=S.recell (i:=0) rfl (cell':=vcell (exU _ _)) (fun k j hk hj=>jS rfl k j hk hj)
   refine wpList_nil (And.intro (Or.inr (S.sel [2,3] G G)) ?_)
   refine mX G G ?_ ?_
   ·skip
    refine aC H G G Tryz.func46 G G (cI _) ?_;clear H a
    rintro _ _ a ⟨A5,c5,B5,d5,rfl,S2⟩ H
    replace S:=S.call S2;clear S2
    refine wpList_nil (And.intro (Or.inr (S.sel [4,5] G G)) ?_)
    refine bT rfl ?_
    refine aL H rfl S eS eL gI G G G G G G G G G ?_;clear H a S;intro A26 _ a hA26 S H
    replace S:=S.recell (i:=0) rfl (cell':=dH exPr) (fun k j hk hj=>gW rfl k j hk hj)
    refine wpList_nil (And.intro (Or.inr (S.sel [5,6] G G)) ?_)
    refine cO H G G (fun _ S=>aN gE G G) ?_;clear H a;intro a H
    refine bT rfl ?_
    refine aH H S (i:=7) G G G G bG G G ?_
    clear H a S;intro _ a S H
    refine wpList_nil (And.intro (Or.inl rfl) ?_)
    refine eO ?_
    refine k3 _ _ ?_
    clear k3 K3
    refine wp_ret ?_
    refine retA (fn:=Tryz.f23) rfl H rfl bJ (by exact bG) (cT S (i:=7) rfl) ?_
    exact ⟨_,_,_,_,_,_,_,_,_,_,_,_,rfl,(S.sel [1,2,4,0,3,6] G G)⟩
   ·skip
    refine aL H rfl S eS eL gI G G G G G G G G G ?_;clear H a S;intro A27 _ a hA27 S H
    replace S:=S.recell (i:=0) rfl (cell':=dH exPr) (fun k j hk hj=>gW rfl k j hk hj)
    refine wpList_nil (And.intro (Or.inr (S.sel [3,4] G G)) ?_)
    refine bT rfl ?_
    refine aC H G G Tryz.func46 G G (cI _) ?_;clear H a
    rintro _ _ a ⟨A5,c5,B5,d5,rfl,S2⟩ H
    replace S:=S.call S2;clear S2
    refine wpList_nil (And.intro (Or.inr (S.sel [5,6] G G)) ?_)
    refine cO H G G (fun _ S=>aN gE G G) ?_;clear H a;intro a H
    refine bT rfl ?_
    refine aH H S (i:=7) G G G G bG G G ?_
    clear H a S;intro _ a S H
    refine wpList_nil (And.intro (Or.inl rfl) ?_)
    refine eO ?_
    refine k3 _ _ ?_
    clear k3 K3
    refine wp_ret ?_
    refine retA (fn:=Tryz.f23) rfl H rfl bJ (by exact bG) (cT S (i:=7) rfl) ?_
    exact ⟨_,_,_,_,_,_,_,_,_,_,_,_,rfl,(S.sel [0,1,4,2,3,6] G G)⟩
 ·skip
  refine aL H rfl S eS eL gI G G G G G G G G G ?_;clear H a S;intro A28 _ a hA28 S H
  replace S:=S.recell (i:=0) rfl (cell':=dH exPr) (fun k j hk hj=>gW rfl k j hk hj)
  refine wpList_nil (And.intro (Or.inr (S.sel [1,2] G G)) ?_)
  refine Jw G G G ?_ ?_ ?_
  ·skip
   refine aC H G G Tryz.func46 G G (cI _) ?_;clear H a
   rintro _ _ a ⟨A5,c5,B5,d5,rfl,S2⟩ H
   replace S:=S.call S2;clear S2
   refine wpList_nil (And.intro (Or.inr (S.sel [3,4] G G)) ?_)
   refine mX G G ?_ ?_
   ·skip
    refine aL H rfl S aO aW dQ G G G G G G G G G ?_;clear H a S;intro A29 _ a hA29 S H
    replace S:=S.recell (i:=0) rfl (cell':=icl w8exP) (fun k j hk hj=>gL k j hk hj)
    refine wpList_nil (And.intro (Or.inr (S.sel [4,5] G G)) ?_)
    refine bT rfl ?_
    refine aL H rfl S cX dC fU G G G G G G G G G ?_;clear H a S;intro A30 _ a hA30 S H
    replace S:=S.recell (i:=0) rfl (cell':=vcell (exU _ _)) (fun k j hk hj=>jS rfl k j hk hj)
    refine wpList_nil (And.intro (Or.inr (S.sel [5,6] G G)) ?_)
    refine cO H G G (fun _ S=>aN gE G G) ?_;clear H a;intro a H
    refine bT rfl ?_
    refine aH H S (i:=7) G G G G bG G G ?_
    clear H a S;intro _ a S H
    refine wpList_nil (And.intro (Or.inl rfl) ?_)
    refine eO ?_
    refine k3 _ _ ?_
    clear k3 K3
    refine wp_ret ?_
    refine retA (fn:=Tryz.f23) rfl H rfl bJ (by exact bG) (cT S (i:=7) rfl) ?_
    exact ⟨_,_,_,_,_,_,_,_,_,_,_,_,rfl,(S.sel [2,3,1,4,0,6] G G)⟩
   ·skip
    refine aL H rfl S cX dC fU G G G G G G G G G ?_;clear H a S;intro A31 _ a hA31 S H
    replace S:=S.recell (i:=0) rfl (cell':=vcell (exU _ _)) (fun k j hk hj=>jS rfl k j hk hj)
    refine wpList_nil (And.intro (Or.inr (S.sel [4,5] G G)) ?_)
    refine bT rfl ?_
    refine aL H rfl S aO aW dQ G G G G G G G G G ?_;clear H a S;intro A32 _ a hA32 S H
    replace S:=S.recell (i:=0) rfl (cell':=icl w8exP) (fun k j hk hj=>gL k j hk hj)
    refine wpList_nil (And.intro (Or.inr (S.sel [5,6] G G)) ?_)
    refine cO H G G (fun _ S=>aN gE G G) ?_;clear H a;intro a H
    refine bT rfl ?_
    refine aH H S (i:=7) G G G G bG G G ?_
    clear H a S;intro _ a S H
    refine wpList_nil (And.intro (Or.inl rfl) ?_)
    refine eO ?_
    refine k3 _ _ ?_
    clear k3 K3
    refine wp_ret ?_
    refine retA (fn:=Tryz.f23) rfl H rfl bJ (by exact bG) (cT S (i:=7) rfl) ?_
    exact ⟨_,_,_,_,_,_,_,_,_,_,_,_,rfl,(S.sel [2,3,0,4,1,6] G G)⟩
  ·skip
   refine aL H rfl S aO aW dQ G G G G G G G G G ?_;clear H a S;intro A33 _ a hA33 S H
   replace S:=S.recell (i:=0) rfl (cell':=icl w8exP) (fun k j hk hj=>gL k j hk hj)
   refine wpList_nil (And.intro (Or.inr (S.sel [2,3] G G)) ?_)
   refine mX G G ?_ ?_
   ·skip
    refine aC H G G Tryz.func46 G G (cI _) ?_;clear H a
    rintro _ _ a ⟨A5,c5,B5,d5,rfl,S2⟩ H
    replace S:=S.call S2;clear S2
    refine wpList_nil (And.intro (Or.inr (S.sel [4,5] G G)) ?_)
    refine bT rfl ?_
    refine aL H rfl S cX dC fU G G G G G G G G G ?_;clear H a S;intro A34 _ a hA34 S H
    replace S:=S.recell (i:=0) rfl (cell':=vcell (exU _ _)) (fun k j hk hj=>jS rfl k j hk hj)
    refine wpList_nil (And.intro (Or.inr (S.sel [5,6] G G)) ?_)
    refine cO H G G (fun _ S=>aN gE G G) ?_;clear H a;intro a H
    refine bT rfl ?_
    refine aH H S (i:=7) G G G G bG G G ?_
    clear H a S;intro _ a S H
    refine wpList_nil (And.intro (Or.inl rfl) ?_)
    refine eO ?_
    refine k3 _ _ ?_
    clear k3 K3
    refine wp_ret ?_
    refine retA (fn:=Tryz.f23) rfl H rfl bJ (by exact bG) (cT S (i:=7) rfl) ?_
    exact ⟨_,_,_,_,_,_,_,_,_,_,_,_,rfl,(S.sel [1,2,3,4,0,6] G G)⟩
   ·skip
    refine aL H rfl S cX dC fU G G G G G G G G G ?_;clear H a S;intro A35 _ a hA35 S H
    replace S:=S.recell (i:=0) rfl (cell':=vcell (exU _ _)) (fun k j hk hj=>jS rfl k j hk hj)
    refine wpList_nil (And.intro (Or.inr (S.sel [3,4] G G)) ?_)
    refine bT rfl ?_
    refine aC H G G Tryz.func46 G G (cI _) ?_;clear H a
    rintro _ _ a ⟨A5,c5,B5,d5,rfl,S2⟩ H
    replace S:=S.call S2;clear S2
    refine wpList_nil (And.intro (Or.inr (S.sel [5,6] G G)) ?_)
    refine cO H G G (fun _ S=>aN gE G G) ?_;clear H a;intro a H
    refine bT rfl ?_
    refine aH H S (i:=7) G G G G bG G G ?_
    clear H a S;intro _ a S H
    refine wpList_nil (And.intro (Or.inl rfl) ?_)
    refine eO ?_
    refine k3 _ _ ?_
    clear k3 K3
    refine wp_ret ?_
    refine retA (fn:=Tryz.f23) rfl H rfl bJ (by exact bG) (cT S (i:=7) rfl) ?_
    exact ⟨_,_,_,_,_,_,_,_,_,_,_,_,rfl,(S.sel [0,1,3,4,2,6] G G)⟩
  ·skip
   refine aL H rfl S cX dC fU G G G G G G G G G ?_;clear H a S;intro A36 _ a hA36 S H
   replace S:=S.recell (i:=0) rfl (cell':=vcell (exU _ _)) (fun k j hk hj=>jS rfl k j hk hj)
   refine wpList_nil (And.intro (Or.inr (S.sel [2,3] G G)) ?_)
   refine mX G G ?_ ?_
   ·skip
    refine aC H G G Tryz.func46 G G (cI _) ?_;clear H a
    rintro _ _ a ⟨A5,c5,B5,d5,rfl,S2⟩ H
    replace S:=S.call S2;clear S2
    refine wpList_nil (And.intro (Or.inr (S.sel [4,5] G G)) ?_)
    refine bT rfl ?_
    refine aL H rfl S aO aW dQ G G G G G G G G G ?_;clear H a S;intro A37 _ a hA37 S H
    replace S:=S.recell (i:=0) rfl (cell':=icl w8exP) (fun k j hk hj=>gL k j hk hj)
    refine wpList_nil (And.intro (Or.inr (S.sel [5,6] G G)) ?_)
    refine cO H G G (fun _ S=>aN gE G G) ?_;clear H a;intro a H
    refine bT rfl ?_
    refine aH H S (i:=7) G G G G bG G G ?_
    clear H a S;intro _ a S H
    refine wpList_nil (And.intro (Or.inl rfl) ?_)
    refine eO ?_
    refine k3 _ _ ?_
    clear k3 K3
    refine wp_ret ?_
    refine retA (fn:=Tryz.f23) rfl H rfl bJ (by exact bG) (cT S (i:=7) rfl) ?_
    exact ⟨_,_,_,_,_,_,_,_,_,_,_,_,rfl,(S.sel [1,2,0,4,3,6] G G)⟩
   ·skip
    refine aL H rfl S aO aW dQ G G G G G G G G G ?_;clear H a S;intro A38 _ a hA38 S H
    replace S:=S.recell (i:=0) rfl (cell':=icl w8exP) (fun k j hk hj=>gL k j hk hj)
    refine wpList_nil (And.intro (Or.inr (S.sel [3,4] G G)) ?_)
    refine bT rfl ?_
    refine aC H G G Tryz.func46 G G (cI _) ?_;clear H a
    rintro _ _ a ⟨A5,c5,B5,d5,rfl,S2⟩ H
    replace S:=S.call S2;clear S2
    refine wpList_nil (And.intro (Or.inr (S.sel [5,6] G G)) ?_)
    refine cO H G G (fun _ S=>aN gE G G) ?_;clear H a;intro a H
    refine bT rfl ?_
    refine aH H S (i:=7) G G G G bG G G ?_
    clear H a S;intro _ a S H
    refine wpList_nil (And.intro (Or.inl rfl) ?_)
    refine eO ?_
    refine k3 _ _ ?_
    clear k3 K3
    refine wp_ret ?_
    refine retA (fn:=Tryz.f23) rfl H rfl bJ (by exact bG) (cT S (i:=7) rfl) ?_
    exact ⟨_,_,_,_,_,_,_,_,_,_,_,_,rfl,(S.sel [0,1,2,4,3,6] G G)⟩
 ·skip
  refine aL H rfl S cX dC fU G G G G G G G G G ?_;clear H a S;intro A39 _ a hA39 S H
  replace S:=S.recell (i:=0) rfl (cell':=vcell (exU _ _)) (fun k j hk hj=>jS rfl k j hk hj)
  refine wpList_nil (And.intro (Or.inr (S.sel [1,2] G G)) ?_)
  refine Jw G G G ?_ ?_ ?_
  ·skip
   refine aC H G G Tryz.func46 G G (cI _) ?_;clear H a
   rintro _ _ a ⟨A5,c5,B5,d5,rfl,S2⟩ H
   replace S:=S.call S2;clear S2
   refine wpList_nil (And.intro (Or.inr (S.sel [3,4] G G)) ?_)
   refine mX G G ?_ ?_
   ·skip
    refine aL H rfl S aO aW dQ G G G G G G G G G ?_;clear H a S;intro A40 _ a hA40 S H
    replace S:=S.recell (i:=0) rfl (cell':=icl w8exP) (fun k j hk hj=>gL k j hk hj)
    refine wpList_nil (And.intro (Or.inr (S.sel [4,5] G G)) ?_)
    refine bT rfl ?_
    refine aL H rfl S eS eL gI G G G G G G G G G ?_;clear H a S;intro A41 _ a hA41 S H
    replace S:=S.recell (i:=0) rfl (cell':=dH exPr) (fun k j hk hj=>gW rfl k j hk hj)
    refine wpList_nil (And.intro (Or.inr (S.sel [5,6] G G)) ?_)
    refine cO H G G (fun _ S=>aN gE G G) ?_;clear H a;intro a H
    refine bT rfl ?_
    refine aH H S (i:=7) G G G G bG G G ?_
    clear H a S;intro _ a S H
    refine wpList_nil (And.intro (Or.inl rfl) ?_)
    refine eO ?_
    refine k3 _ _ ?_
    clear k3 K3
    refine wp_ret ?_
    refine retA (fn:=Tryz.f23) rfl H rfl bJ (by exact bG) (cT S (i:=7) rfl) ?_
    exact ⟨_,_,_,_,_,_,_,_,_,_,_,_,rfl,(S.sel [2,3,1,0,4,6] G G)⟩
   ·skip
    refine aL H rfl S eS eL gI G G G G G G G G G ?_;clear H a S;intro A42 _ a hA42 S H
    replace S:=S.recell (i:=0) rfl (cell':=dH exPr) (fun k j hk hj=>gW rfl k j hk hj)
    refine wpList_nil (And.intro (Or.inr (S.sel [4,5] G G)) ?_)
    refine bT rfl ?_
    refine aL H rfl S aO aW dQ G G G G G G G G G ?_;clear H a S;intro A43 _ a hA43 S H
    replace S:=S.recell (i:=0) rfl (cell':=icl w8exP) (fun k j hk hj=>gL k j hk hj)
    refine wpList_nil (And.intro (Or.inr (S.sel [5,6] G G)) ?_)
    refine cO H G G (fun _ S=>aN gE G G) ?_;clear H a;intro a H
    refine bT rfl ?_
    refine aH H S (i:=7) G G G G bG G G ?_
    clear H a S;intro _ a S H
    refine wpList_nil (And.intro (Or.inl rfl) ?_)
    refine eO ?_
    refine k3 _ _ ?_
    clear k3 K3
    refine wp_ret ?_
    refine retA (fn:=Tryz.f23) rfl H rfl bJ (by exact bG) (cT S (i:=7) rfl) ?_
    exact ⟨_,_,_,_,_,_,_,_,_,_,_,_,rfl,(S.sel [2,3,0,1,4,6] G G)⟩
  ·skip
   refine aL H rfl S aO aW dQ G G G G G G G G G ?_;clear H a S;intro A44 _ a hA44 S H
   replace S:=S.recell (i:=0) rfl (cell':=icl w8exP) (fun k j hk hj=>gL k j hk hj)
   refine wpList_nil (And.intro (Or.inr (S.sel [2,3] G G)) ?_)
   refine mX G G ?_ ?_
   ·skip
    refine aC H G G Tryz.func46 G G (cI _) ?_;clear H a
    rintro _ _ a ⟨A5,c5,B5,d5,rfl,S2⟩ H
    replace S:=S.call S2;clear S2
    refine wpList_nil (And.intro (Or.inr (S.sel [4,5] G G)) ?_)
    refine bT rfl ?_
    refine aL H rfl S eS eL gI G G G G G G G G G ?_;clear H a S;intro A45 _ a hA45 S H
    replace S:=S.recell (i:=0) rfl (cell':=dH exPr) (fun k j hk hj=>gW rfl k j hk hj)
    refine wpList_nil (And.intro (Or.inr (S.sel [5,6] G G)) ?_)
    refine cO H G G (fun _ S=>aN gE G G) ?_;clear H a;intro a H
    refine bT rfl ?_
    refine aH H S (i:=7) G G G G bG G G ?_
    clear H a S;intro _ a S H
    refine wpList_nil (And.intro (Or.inl rfl) ?_)
    refine eO ?_
    refine k3 _ _ ?_
    clear k3 K3
    refine wp_ret ?_
    refine retA (fn:=Tryz.f23) rfl H rfl bJ (by exact bG) (cT S (i:=7) rfl) ?_
    exact ⟨_,_,_,_,_,_,_,_,_,_,_,_,rfl,(S.sel [1,2,3,0,4,6] G G)⟩
   ·skip
    refine aL H rfl S eS eL gI G G G G G G G G G ?_;clear H a S;intro A46 _ a hA46 S H
    replace S:=S.recell (i:=0) rfl (cell':=dH exPr) (fun k j hk hj=>gW rfl k j hk hj)
    refine wpList_nil (And.intro (Or.inr (S.sel [3,4] G G)) ?_)
    refine bT rfl ?_
    refine aC H G G Tryz.func46 G G (cI _) ?_;clear H a
    rintro _ _ a ⟨A5,c5,B5,d5,rfl,S2⟩ H
    replace S:=S.call S2;clear S2
    refine wpList_nil (And.intro (Or.inr (S.sel [5,6] G G)) ?_)
    refine cO H G G (fun _ S=>aN gE G G) ?_;clear H a;intro a H
    refine bT rfl ?_
    refine aH H S (i:=7) G G G G bG G G ?_
    clear H a S;intro _ a S H
    refine wpList_nil (And.intro (Or.inl rfl) ?_)
    refine eO ?_
    refine k3 _ _ ?_
    clear k3 K3
    refine wp_ret ?_
    refine retA (fn:=Tryz.f23) rfl H rfl bJ (by exact bG) (cT S (i:=7) rfl) ?_
    exact ⟨_,_,_,_,_,_,_,_,_,_,_,_,rfl,(S.sel [0,1,3,2,4,6] G G)⟩
  ·skip
   refine aL H rfl S eS eL gI G G G G G G G G G ?_;clear H a S;intro A47 _ a hA47 S H
   replace S:=S.recell (i:=0) rfl (cell':=dH exPr) (fun k j hk hj=>gW rfl k j hk hj)
   refine wpList_nil (And.intro (Or.inr (S.sel [2,3] G G)) ?_)
   refine mX G G ?_ ?_
   ·skip
    refine aC H G G Tryz.func46 G G (cI _) ?_;clear H a
    rintro _ _ a ⟨A5,c5,B5,d5,rfl,S2⟩ H
    replace S:=S.call S2;clear S2
    refine wpList_nil (And.intro (Or.inr (S.sel [4,5] G G)) ?_)
    refine bT rfl ?_
    refine aL H rfl S aO aW dQ G G G G G G G G G ?_;clear H a S;intro A48 _ a hA48 S H
    replace S:=S.recell (i:=0) rfl (cell':=icl w8exP) (fun k j hk hj=>gL k j hk hj)
    refine wpList_nil (And.intro (Or.inr (S.sel [5,6] G G)) ?_)
    refine cO H G G (fun _ S=>aN gE G G) ?_;clear H a;intro a H
    refine bT rfl ?_
    refine aH H S (i:=7) G G G G bG G G ?_
    clear H a S;intro _ a S H
    refine wpList_nil (And.intro (Or.inl rfl) ?_)
    refine eO ?_
    refine k3 _ _ ?_
    clear k3 K3
    refine wp_ret ?_
    refine retA (fn:=Tryz.f23) rfl H rfl bJ (by exact bG) (cT S (i:=7) rfl) ?_
    exact ⟨_,_,_,_,_,_,_,_,_,_,_,_,rfl,(S.sel [1,2,0,3,4,6] G G)⟩
   ·skip
    refine aL H rfl S aO aW dQ G G G G G G G G G ?_;clear H a S;intro A49 _ a hA49 S H
    replace S:=S.recell (i:=0) rfl (cell':=icl w8exP) (fun k j hk hj=>gL k j hk hj)
    refine wpList_nil (And.intro (Or.inr (S.sel [3,4] G G)) ?_)
    refine bT rfl ?_
    refine aC H G G Tryz.func46 G G (cI _) ?_;clear H a
    rintro _ _ a ⟨A5,c5,B5,d5,rfl,S2⟩ H
    replace S:=S.call S2;clear S2
    refine wpList_nil (And.intro (Or.inr (S.sel [5,6] G G)) ?_)
    refine cO H G G (fun _ S=>aN gE G G) ?_;clear H a;intro a H
    refine bT rfl ?_
    refine aH H S (i:=7) G G G G bG G G ?_
    clear H a S;intro _ a S H
    refine wpList_nil (And.intro (Or.inl rfl) ?_)
    refine eO ?_
    refine k3 _ _ ?_
    clear k3 K3
    refine wp_ret ?_
    refine retA (fn:=Tryz.f23) rfl H rfl bJ (by exact bG) (cT S (i:=7) rfl) ?_
    exact ⟨_,_,_,_,_,_,_,_,_,_,_,_,rfl,(S.sel [0,1,2,3,4,6] G G)⟩
theorem xP (x y:List Int) (AA BA:Option Addr) (ac bc:Nat) (w:World) (ha:InS w noF 1 AA x.length (icl x)) (hb:InS w noF 1 BA y.length (icl y)) (han:x.length≤9223372036854775807) (hbn:y.length≤9223372036854775807) :
    Calls Tryz.prog 13 [.slice AA x.length ac,.slice BA y.length bc].toArray w (Ret (fun u w'=>u = .bool (sameI x y)∧St w noF [] w')):=by
 refine enter Tryz.func13 rfl Tryz.ntmps13 rfl (fun a H=>?_)
 have S:=St.start w
 refine sS H fun K1 k1=>sr 1 rfl<|sE ?_;clear H a;intro a H
 refine k1 _ ?_;clear k1 K1
 refine wp_seq_k fun K2 k2=>?_
 refine sS H fun K3 k3=>sr 1 rfl<|sL aO rfl<|sr 1 rfl<|sL aO rfl<|sr 1 rfl<|sE ?_;clear H a;intro a H
 refine k3 _ ?_;clear k3 K3
 refine condN H rfl (fun hc1=>?_) (fun hc1=>?_)
 ·skip
  refine sS H fun K4 k4=>sr 1 rfl<|sE ?_;clear H a;intro a H
  refine k4 _ ?_;clear k4 K4
  refine wp_ret ?_
  refine ret1 (fn:=Tryz.f13) rfl H rfl ?_
  exact ⟨by rw [Tl (by omega)],(S.sel [] G G)⟩
 refine wp_skip ?_
 refine k2 _ _ ?_
 refine wp_seq_k fun K5 k5=>?_
 refine sS H fun K6 k6=>sr 1 rfl<|sE ?_;clear H a;intro a H
 refine k6 _ ?_;clear k6 K6
 refine wp_block ?_
 refine loop_st (X:=Nat) (R0:=_) [0,1] H rfl (fun k=>[(5,.int .i64 (k:Int))]) (fun k=>[]) (fun g k=>k≤x.length∧g+k=x.length∧∀ q,q<k→x.getD q 0=y.getD q 0) (x.length) 0 ?_ (S.sel [] G G) (H.keep [5,0,1] rfl) ?_
 · exact ⟨by omega,by omega,fun q hq=>absurd hq (Nat.not_lt_zero q)⟩
 clear H S a
 intro g1 x1 a w1 hp S H K7 k7
 obtain ⟨k,rfl⟩:∃ y,y=x1:=⟨_,rfl⟩
 refine wp_seq_k fun K8 k8=>?_
 refine sS H fun K9 k9=>sr 2 rfl<|sL aO rfl<|sr 1 rfl<|sE ?_;clear H a;intro a H
 refine k9 _ ?_;clear k9 K9
 refine condL H rfl (fun hc2=>?_) (fun hc2=>?_)
 ·skip
  refine wp_skip ?_
  refine k8 _ _ ?_
  refine wp_seq_k fun K10 k10=>?_
  refine wp_block ?_
  replace H:=H.keep [0,1,5] rfl
  replace S:=S.drew
  refine sD H fun K11 k11=>sr 2 rfl<|si aO aW G G (ha.adr (by omega)) (by omega)<|slm aB rfl (ha.rd S (by omega) (by omega))<|sr 2 rfl<|si aO aW G G (hb.adr (by omega)) (by omega)<|slm aB rfl (hb.rd S (by omega) (by omega))<|sr 1 rfl<|sE ?_;clear H a;intro a H
  refine k11 _ ?_;clear k11 K11
  refine condN H rfl (fun hc3=>?_) (fun hc3=>?_)
  ·skip
   replace H:=H.keep [] rfl
   refine sS H fun K12 k12=>sr 1 rfl<|sE ?_;clear H a;intro a H
   refine k12 _ ?_;clear k12 K12
   refine wp_ret ?_
   refine ret1 (fn:=Tryz.f13) rfl H rfl ?_
   exact ⟨by rw [Ys (k:=k) (by omega)],(S.sel [] G G)⟩
  refine wp_skip ?_
  refine k10 _ _ ?_
  refine sO H<|sr 1 rfl<|sd (aG G G (by unfold i64ok;omega))<|sr 1 rfl<|sE ?_;clear H a;intro a H
  exact k7 (g1-1) (k+1) a _ (by omega) (⟨by omega,by omega,Yt hp.2.2 (by omega)⟩) (S.sel [] G G) (H.keep [5,0,1] rfl)
 refine wp_exit ?_
 refine k5 _ _ ?_
 refine sS H fun K14 k14=>sr 1 rfl<|sE ?_;clear H a;intro a H
 refine k14 _ ?_;clear k14 K14
 refine wp_ret ?_
 refine ret1 (fn:=Tryz.f13) rfl H rfl ?_
 exact ⟨by rw [Tm (by omega) (fun q hq=>hp.2.2 q (by omega))],(S.sel [] G G)⟩
theorem tL (w:World) :
    Calls Tryz.prog 7 [].toArray w (Ret (fun u w'=>u = .bool true∧St w noF [] w')):=by
 refine enter Tryz.func7 rfl Tryz.ntmps7 rfl (fun a H=>?_)
 have S:=St.start w
 refine sS H fun K1 k1=>sr 1 rfl<|sE ?_;clear H a;intro a H
 refine k1 _ ?_;clear k1 K1
 refine aA fun K2 k2=>?_
 refine aC H G G Tryz.func23 G G (xY _) ?_;clear H a
 rintro _ _ a ⟨PA,pc,XA,xc,BA,bc,QA,qc,VA,vc,RA,rc,rfl,S2⟩ H
 replace S:=S.call S2;clear S2
 refine aM H rfl S Ci ?_;clear H a S;intro b1 _ a hb1 hbw1 S H
 refine aH H S (i:=0) G G G G bG G G ?_
 clear H a S;intro _ a S H
 refine k2 _ _ ?_;clear k2 K2
 replace H:=H.keep [1] rfl
 refine aA fun K3 k3=>?_
 refine ls 2 H<|sd ((aD bJ bG rfl S (i:=0) G G))<|sd (aN aDy G G)<|sE ?_;clear H a;intro a H
 refine aL H rfl S cQ cV oU G G G G G G G G G ?_;clear H a S;intro A1 _ a hA1 S H
 have hcl9:=Na (PA:=PA) (pc:=pc) (XA:=XA) (xc:=xc) (BA:=BA) (bc:=bc) (QA:=QA) (qc:=qc) (VA:=VA) (vc:=vc) (RA:=RA) (rc:=rc) (tc:=1) (Tt (ownM.inS S (i:=2) rfl) (ownM.inS S (i:=3) rfl) (ownM.inS S (i:=4) rfl) (ownM.inS S (i:=5) rfl) (ownM.inS S (i:=6) rfl) (ownM.inS S (i:=7) rfl)) ((ownM.inS S (i:=0) rfl).congr (fun k j hk hj=>aFa k j hk hj))
 refine aC H G G Tryz.func11 G G hcl9 ?_;clear H a hcl9
 rintro _ _ a ⟨A6,c6,rfl,S2⟩ H
 replace S:=S.call S2;clear S2
 refine ls 5 H<|sr 5 rfl<|sE ?_;clear H a;intro a H
 refine k3 _ _ ?_;clear k3 K3
 replace H:=H.keep [1,2,3] rfl
 refine aA fun K4 k4=>?_
 refine ls 1 H<|sd ((aD bJ bG rfl S (i:=2) G G))<|sE ?_;clear H a;intro a H
 have hcl9:=Er (PA:=PA) (pc:=pc) (XA:=XA) (xc:=xc) (BA:=BA) (bc:=bc) (QA:=QA) (qc:=qc) (VA:=VA) (vc:=vc) (RA:=RA) (rc:=rc) (Tt (ownM.inS S (i:=3) rfl) (ownM.inS S (i:=4) rfl) (ownM.inS S (i:=5) rfl) (ownM.inS S (i:=6) rfl) (ownM.inS S (i:=7) rfl) (ownM.inS S (i:=8) rfl))
 refine aC H G G Tryz.func14 G G hcl9 ?_;clear H a hcl9
 rintro _ _ a ⟨rfl,S2⟩ H
 replace S:=S.call S2;clear S2
 refine ls 7 H<|sr 7 rfl<|sE ?_;clear H a;intro a H
 refine k4 _ _ ?_;clear k4 K4
 replace H:=H.keep [2,3,4,5,6] rfl
 refine aA fun K5 k5=>?_
 refine ls 8 H<|sr 3 rfl<|sy rfl<|sr 1 rfl<|sy rfl<|sr 1 rfl<|sa G G G<|sr 1 rfl<|sy rfl<|sr 1 rfl<|sE ?_;clear H a;intro a H
 refine bZ H G G ?_
 refine aL H rfl S aO aW dQ G G G G G G G G G ?_;clear H a S;intro A2 _ a hA2 S H
 refine bZ H G G ?_
 refine aC H G G Tryz.func13 G G (xP [0,3,1,1] [0,3,1,1] A6 _ c6 _ _ (ownM.inS S (i:=1) rfl) ((ownM.inS S (i:=0) rfl).congr (fun k j hk hj=>gL k j hk hj)) (by decide) (by decide)) ?_;clear H a
 rintro _ _ a ⟨rfl,S2⟩ H
 replace S:=S.call S2;clear S2
 refine ls 10 H<|sa G G G<|sr 1 rfl<|sy rfl<|sr 1 rfl<|sy rfl<|sr 1 rfl<|sa G G G<|sr 1 rfl<|sy rfl<|sr 1 rfl<|sy rfl<|sr 1 rfl<|sa G G G<|sr 1 rfl<|sE ?_;clear H a;intro a H
 refine k5 _ _ ?_;clear k5 K5
 refine wp_ret ?_
 refine ret1 (fn:=Tryz.f7) rfl H rfl ?_
 exact ⟨rfl,(S.sel [] G G)⟩
end
section
open Classical in
noncomputable def yrB (y:Yr):Bool:=if yrI y then true else false
theorem Tv {y:Yr} (h:yrI y):yrB y=true:=by unfold yrB;rw [if_pos h]
theorem Tw {y:Yr} (h:¬ yrI y):yrB y=false:=by unfold yrB;rw [if_neg h]
theorem Zd {y:Yr}:yrB y=true↔yrI y:=⟨fun h=>Classical.byContradiction (fun h2=>by rw [Tw h2] at h;cases h),Tv⟩
theorem Ze {pl:Int} {ps:List Psg} {xs pe:List Int} {T:Int} (h:stE pl ps xs=0):dS pl ps xs 0 pe T=0↔((pe.length:Int)=pl∧∀ k,k<pe.length→0≤pe.getD k 0∧pe.getD k 0≤1000)∧(0≤T∧T≤60):=by
  constructor
  · intro h1
    obtain ⟨_,_,h2,h3⟩:=oJ h1
    have h4:=qU h2
    exact ⟨⟨h4.2,h4.1⟩,h3⟩
  · rintro ⟨⟨h1,h2⟩,h3⟩
    unfold dS
    rw [if_neg (by omega),if_pos]
    have h4:fI pl pe=true:=by unfold fI;rw [decide_eq_true h1,Bool.and_true,bQ];exact fun k hk=>decide_eq_true (h2 k hk)
    rw [h4,decide_eq_true h3]
    rfl
theorem Tx {ps:List Psg} {us:List Unt} {n i:Nat} {m:Int}:freeN ps us n (i+1) m=(freeN ps us n i m&&!decide ((us.getD i Unt.zero).mach=m)):=by
  unfold freeN
  simp only [allN,Bool.and_assoc]
theorem Nb {p:Part} {l:List Use} (h:bY p l=0):wearE p l=0↔(refO p l).2.1=false:=by
  unfold refO
  rw [if_neg (by omega)]
  constructor
  · intro h1
    rw [if_neg (by rw [wP (mU h1).2];omega)]
  · intro h1
    split at h1
    · cases h1
    · exact lY h (Iw.2 (by have:=(wO p l).le;omega))
theorem Nc {l:List Use} {o:Int} (h0:0≤o) (h:¬ (0<l.length∧o<(l.getD ((l.length:Int)-1).toNat Use.zero).day)):prevD l l.length≤o:=by
  rcases Nat.eq_zero_or_pos l.length with e|e
  · rw [e];exact h0
  · have h1:=pT (l:=l) (k:=((l.length:Int)-1).toNat) (by omega)
    omega
theorem Nd {l:List Use} {o:Int} (e:0<l.length) (h:o<(l.getD ((l.length:Int)-1).toNat Use.zero).day):o<prevD l l.length:=by
  have h1:=pT (l:=l) (k:=((l.length:Int)-1).toNat) (by omega)
  omega
theorem dR (n lo hi:Int) (w:World) :
    Calls Tryz.prog 30 [.int .i64 n,.int .i64 lo,.int .i64 hi].toArray w (Ret (fun v w'=>v = .bool (decide (lo≤n)&&decide (n≤hi))∧w'=w)):=by
 refine enter Tryz.func30 rfl Tryz.ntmps30 rfl (fun a H=>?_)
 have S:=St.start w
 refine sS H fun K1 k1=>sr 1 rfl<|sE ?_;clear H a;intro a H
 refine k1 _ ?_;clear k1 K1
 replace H:=H.keep [0,1,2] rfl
 refine sS H fun K2 k2=>sr 4 rfl<|sg 3 3 10 13 true G G (fun hg4=>sy hg4<|sr 1 rfl<|sy hg4<|sr 1 rfl<|sy hg4<|sr 1 rfl<|sz 3 G G G)<|sa G G G<|sr 1 rfl<|sE ?_;clear H a;intro a H
 refine k2 _ ?_;clear k2 K2
 refine wp_ret ?_
 refine ret1 (fn:=Tryz.f30) rfl H rfl ?_
 exact ⟨rfl,rfl⟩
theorem Ne (a b:Tsk) (w:World) :
    Calls Tryz.prog 31 [.agg [.int .i64 a.day,.int .i64 a.unit,.int .i64 a.kind].toArray,.agg [.int .i64 b.day,.int .i64 b.unit,.int .i64 b.kind].toArray].toArray w (Ret (fun v w'=>v = .bool (befB a b)∧St w noF [] w')):=by
 refine enter Tryz.func31 rfl Tryz.ntmps31 rfl (fun a H=>?_)
 have S:=St.start w
 refine aA fun K1 k1=>?_
 refine aP H rfl S G G ?_;clear H a S;intro b2 _ a hb2 hbw2 S H
 refine aP H rfl S G G ?_;clear H a S;intro b3 _ a hb3 hbw3 S H
 refine ls 1 H<|sr 1 rfl<|sE ?_;clear H a;intro a H
 refine k1 _ _ ?_;clear k1 K1
 refine wp_seq_k fun K2 k2=>?_
 refine sS H fun K3 k3=>sf dT rfl<|sl S 1 aB G G G<|sf dT rfl<|sl S 0 aB G G G<|sr 1 rfl<|sE ?_;clear H a;intro a H
 refine k3 _ ?_;clear k3 K3
 refine condN H rfl (fun hc1=>?_) (fun hc1=>?_)
 ·skip
  replace H:=H.keep [2,3] rfl
  refine sS H fun K4 k4=>sf dT rfl<|sl S 1 aB G G G<|sf dT rfl<|sl S 0 aB G G G<|sr 2 rfl<|sE ?_;clear H a;intro a H
  refine k4 _ ?_;clear k4 K4
  refine wp_ret ?_
  refine ret1 (fn:=Tryz.f31) rfl H rfl ?_
  refine ⟨?_,(S.sel [] G G)⟩;unfold befB;rw [if_pos hc1]
 refine wp_skip ?_
 refine k2 _ _ ?_
 refine wp_seq_k fun K5 k5=>?_
 replace H:=H.keep [2,3] rfl
 refine sS H fun K6 k6=>sf eI rfl<|sl S 1 aB G G G<|sf eI rfl<|sl S 0 aB G G G<|sr 1 rfl<|sE ?_;clear H a;intro a H
 refine k6 _ ?_;clear k6 K6
 refine condN H rfl (fun hc2=>?_) (fun hc2=>?_)
 ·skip
  replace H:=H.keep [2,3] rfl
  refine sS H fun K7 k7=>sf eI rfl<|sl S 1 aB G G G<|sf eI rfl<|sl S 0 aB G G G<|sr 2 rfl<|sE ?_;clear H a;intro a H
  refine k7 _ ?_;clear k7 K7
  refine wp_ret ?_
  refine ret1 (fn:=Tryz.f31) rfl H rfl ?_
  refine ⟨?_,(S.sel [] G G)⟩;unfold befB;rw [if_neg (fun h=>h (by omega)),if_pos hc2]
 refine wp_skip ?_
 refine k5 _ _ ?_
 replace H:=H.keep [2,3] rfl
 refine sS H fun K8 k8=>sf gC rfl<|sl S 1 aB G G G<|sf gC rfl<|sl S 0 aB G G G<|sr 2 rfl<|sE ?_;clear H a;intro a H
 refine k8 _ ?_;clear k8 K8
 refine wp_ret ?_
 refine ret1 (fn:=Tryz.f31) rfl H rfl ?_
 refine ⟨?_,(S.sel [] G G)⟩;unfold befB;rw [if_neg (fun h=>h (by omega)),if_neg (fun h=>h (by omega))]
theorem Nf (y:Yr) (w:World) (hy:YIn w noF y) (hyb:YBd y) (hst:stE y.pl y.ps y.xs=0) :
    Calls Tryz.prog 43 [.agg [.int .i64 y.days,.int .i64 y.pl,.slice y.PA y.ps.length y.pc,.slice y.XA y.xs.length y.xc,.slice y.BA y.pe.length y.bc,.int .i64 y.limit,.bool y.help,.slice y.QA y.prs.length y.qc,.slice y.VA y.us.length y.vc,.int .i64 y.crew,.slice y.SA y.sps.length y.sc].toArray].toArray w (Ret (fun v w'=>v = .bool (yrB y)∧St w noF [] w')):=by
 have hlv:=Ze (pe:=y.pe) (T:=y.limit) hst;have hn4:=hyb.spn
 refine enter Tryz.func43 rfl Tryz.ntmps43 rfl (fun a H=>?_)
 have S:=St.start w
 refine aA fun K1 k1=>?_
 refine aP H rfl S G G ?_;clear H a S;intro b1 _ a hb1 hbw1 S H
 refine ls 1 H<|sr 1 rfl<|sE ?_;clear H a;intro a H
 refine k1 _ _ ?_;clear k1 K1
 refine wp_seq_k fun K2 k2=>?_
 replace H:=H.keep [1] rfl
 refine aA fun K3 k3=>?_
 refine ls 2 H<|sf dP rfl<|sl S 0 aB G G G<|sE ?_;clear H a;intro a H
 refine aC H G G Tryz.func30 G G (dR _ _ _ _) ?_;clear H a
 rintro _ _ a ⟨rfl,rfl⟩ H
 refine ls 2 H<|sr 2 rfl<|sE ?_;clear H a;intro a H
 apply eJ (i:=4) (g:=9) (t:=17) (b:=false) 8 H S G G (by kernel_rfl) (by kernel_rfl) G G
 case h1=>
  intro hg5
  refine ls 6 H<|sy hg5<|sf eH rfl<|sy hg5<|sd ((aD cA cP rfl S (i:=0) G G))<|sy hg5<|sf gS rfl<|sy hg5<|sl S 0 dL G G G<|sy hg5<|sf mM rfl<|sy hg5<|sl S 0 aB G G G<|sE ?_;intro a H
  refine fL H G G (by assumption) ?_
  refine aC H G G Tryz.func45 G G (kR y.pl y.ps y.PA y.pc y.xs y.XA y.xc 0 y.pe y.BA y.bc y.limit _ (hy.ps.now S) hyb.psn (hy.xs.now S) hyb.xsn (hy.pe.now S) hyb.pen) ?_
  rintro _ _ a ⟨rfl,S2⟩ H
  replace S:=S.call S2;clear S2
  refine ls 1 H<|sy hg5<|sr 1 rfl<|sE ?_;intro a H
  exact wpList_nil ⟨H.strip 8 G G,(S.sel [0] G G)⟩
 clear H a S;intro a _ H S
 refine ls 13 H<|so G G G<|sr 1 rfl<|sg 4 14 19 23 false G G (fun hg15=>sy hg15<|sf tU rfl<|sy hg15<|sl S 0 aB G G G<|sy hg15<|sc rfl Tryz.func30 G G (dR _ _ _ _)<|sy hg15<|sr 1 rfl<|sz 4 G G G)<|so G G G<|sr 1 rfl<|sg 4 20 25 29 false G G (fun hg21=>sy hg21<|sf gT rfl<|sy hg21<|sl S 0 jN G G G<|sy hg21<|sL kH rfl<|sy hg21<|sr 1 rfl<|sz 4 G G G)<|so G G G<|sE ?_;clear H a;intro a H
 refine k3 _ _ ?_;clear k3 K3
 refine aT H rfl (fun hc1=>?_) (fun hc1=>?_)
 ·skip
  try simp only [o1,o2,o3,o4,o5,o6,o7,o8,o9,oa] at hc1
  replace H:=H.keep [] rfl
  refine sS H fun K4 k4=>sr 1 rfl<|sE ?_;clear H a;intro a H
  refine k4 _ ?_;clear k4 K4
  refine wp_ret ?_
  refine ret1 (fn:=Tryz.f43) rfl H rfl ?_
  rw [Tw (fun h=>by unfold yrI at h;have h9:=hlv.2 ⟨h.2.1,h.2.2.1⟩;omega)];exact ⟨rfl,(S.sel [] G G)⟩
 try simp only [o1,o2,o3,o4,o5,o6,o7,o8,o9,oa] at hc1
 refine wp_skip ?_
 refine k2 _ _ ?_
 refine wp_seq_k fun K5 k5=>?_
 refine sS H fun K6 k6=>sr 1 rfl<|sE ?_;clear H a;intro a H
 refine k6 _ ?_;clear k6 K6
 refine wp_block ?_
 refine loop_st (X:=Nat) (R0:=_) [1] H rfl (fun k=>[(3,.int .i64 (k:Int))]) (fun k=>[]) (fun g k=>k≤y.sps.length∧g+k=y.sps.length∧∀ q,q<k→sprB y.days (y.sps.getD q Spr.zero)=true) (y.sps.length) 0 ?_ (S.sel [0] G G) (H.keep [3,1] rfl) ?_
 · exact ⟨by omega,by omega,fun q hq=>absurd hq (Nat.not_lt_zero q)⟩
 clear H S a
 intro g1 x1 a w1 hp S H K7 k7
 obtain ⟨k,rfl⟩:∃ y,y=x1:=⟨_,rfl⟩
 refine wp_seq_k fun K8 k8=>?_
 refine sS H fun K9 k9=>sr 1 rfl<|sf gT rfl<|sl S 0 jN G G G<|sL kH rfl<|sr 1 rfl<|sE ?_;clear H a;intro a H
 refine k9 _ ?_;clear k9 K9
 refine condL H rfl (fun hc2=>?_) (fun hc2=>?_)
 ·skip
  refine wp_skip ?_
  refine k8 _ _ ?_
  refine wp_seq_k fun K10 k10=>?_
  refine wp_block ?_
  replace H:=H.keep [1,3] rfl
  refine aA fun K11 k11=>?_
  refine ls 5 H<|sf gT rfl<|sl S 0 jN G G G<|sr 1 rfl<|si kH kV G G (hy.sps.adr (by omega)) (by omega)<|sd ((aU Fm kV rfl S hy.sps (by omega) (by omega)))<|sE ?_;clear H a;intro a H
  refine aM H rfl S Ig ?_;clear H a S;intro b4 _ a hb4 hbw4 S H
  refine aH H S (i:=0) G G G G kV G G ?_
  clear H a S;intro _ a S H
  refine k11 _ _ ?_;clear k11 K11
  replace H:=H.keep [1,3,4] rfl
  refine sS H fun K12 k12=>sf tX rfl<|sl S 0 aB G G G<|sf dP rfl<|sl S 1 aB G G G<|sd (aS G G (by unfold i64ok;omega))<|sc rfl Tryz.func30 G G (dR _ _ _ _)<|sr 2 rfl<|sg 4 7 50 54 false G G (fun hg8=>sy hg8<|sf tY rfl<|sy hg8<|sl S 0 aB G G G<|sy hg8<|sc rfl Tryz.func30 G G (dR _ _ _ _)<|sy hg8<|sr 1 rfl<|sz 4 G G G)<|so G G G<|sr 1 rfl<|sg 4 13 56 60 false G G (fun hg14=>sy hg14<|sf tZ rfl<|sy hg14<|sl S 0 aB G G G<|sy hg14<|sc rfl Tryz.func30 G G (dR _ _ _ _)<|sy hg14<|sr 1 rfl<|sz 4 G G G)<|so G G G<|sE ?_;clear H a;intro a H
  refine k12 _ ?_;clear k12 K12
  refine aT H rfl (fun hc3=>?_) (fun hc3=>?_)
  ·skip
   try simp only [o1,o2,o3,o4,o5,o6,o7,o8,o9,oa] at hc3
   replace H:=H.keep [] rfl
   refine sS H fun K13 k13=>sr 1 rfl<|sE ?_;clear H a;intro a H
   refine k13 _ ?_;clear k13 K13
   refine wp_ret ?_
   refine ret1 (fn:=Tryz.f43) rfl H rfl ?_
   rw [Tw (fun h=>by have h9:=mE.1 (h.2.2.2.2.2 k (by omega));omega)];exact ⟨rfl,(S.sel [] G G)⟩
  try simp only [o1,o2,o3,o4,o5,o6,o7,o8,o9,oa] at hc3
  refine wp_skip ?_
  refine k10 _ _ ?_
  refine sO H<|sr 1 rfl<|sd (aG G G (by unfold i64ok;omega))<|sr 1 rfl<|sE ?_;clear H a;intro a H
  exact k7 (g1-1) (k+1) a _ (by omega) (⟨by omega,by omega,fX (f:=fun q=>sprB y.days (y.sps.getD q Spr.zero)) hp.2.2 (mE.2 (by omega))⟩) (S.sel [1] G G) (H.keep [3,1] rfl)
 refine wp_exit ?_
 refine k5 _ _ ?_
 refine sS H fun K15 k15=>sr 1 rfl<|sE ?_;clear H a;intro a H
 refine k15 _ ?_;clear k15 K15
 refine wp_ret ?_
 refine ret1 (fn:=Tryz.f43) rfl H rfl ?_
 have h9:=hlv.1 (by omega)
 have h8:=hp.2.2
 rw [Tv (by unfold yrI;exact ⟨by omega,h9.1,h9.2,by omega,by omega,fun q hq=>h8 q (by omega)⟩)];exact ⟨rfl,(S.sel [] G G)⟩
theorem Ng (y:Yr) (i:Nat) (w:World) (hy:YIn w noF y) (hyb:YBd y) (hi:i<y.us.length) :
    Calls Tryz.prog 44 [.agg [.int .i64 y.days,.int .i64 y.pl,.slice y.PA y.ps.length y.pc,.slice y.XA y.xs.length y.xc,.slice y.BA y.pe.length y.bc,.int .i64 y.limit,.bool y.help,.slice y.QA y.prs.length y.qc,.slice y.VA y.us.length y.vc,.int .i64 y.crew,.slice y.SA y.sps.length y.sc].toArray,.int .i64 (i:Int)].toArray w (Ret (fun v w'=>v = .bool (untB y.ps y.us i)∧St w noF [] w')):=by
 have hn1:=hyb.psn;have hn3:=hyb.usn;have hn5:(y.us.getD i Unt.zero).uses.length≤9223372036854775807:=hyb.uln hi;have hn6:(y.us.getD i Unt.zero).rates.length≤9223372036854775807:=hyb.rtn hi
 refine enter Tryz.func44 rfl Tryz.ntmps44 rfl (fun a H=>?_)
 have S:=St.start w
 refine aA fun K1 k1=>?_
 refine aP H rfl S G G ?_;clear H a S;intro b2 _ a hb2 hbw2 S H
 refine ls 1 H<|sr 1 rfl<|sE ?_;clear H a;intro a H
 refine k1 _ _ ?_;clear k1 K1
 refine aA fun K2 k2=>?_
 refine ls 5 H<|sf cS rfl<|sl S 0 dZ G G G<|sr 1 rfl<|si cX dC G G (hy.us.adr (by omega)) (by omega)<|sd ((aU lH dC rfl S hy.us (by omega) (by omega)))<|sE ?_;clear H a;intro a H
 refine aM H rfl S fU ?_;clear H a S;intro b5 _ a hb5 hbw5 S H
 refine aH H S (i:=0) G G G G dC G G ?_
 clear H a S;intro _ a S H
 refine k2 _ _ ?_;clear k2 K2
 replace H:=H.keep [1,2,5] rfl
 refine sS H fun K3 k3=>sr 1 rfl<|sE ?_;clear H a;intro a H
 refine k3 _ ?_;clear k3 K3
 refine wp_seq_k fun K4 k4=>?_
 refine sS H fun K5 k5=>sr 1 rfl<|sE ?_;clear H a;intro a H
 refine k5 _ ?_;clear k5 K5
 refine wp_block ?_
 refine loop_st (X:=Nat) (R0:=_) [1,2,5] H rfl (fun k=>[(6,.bool (freeN y.ps y.us k 0 (y.us.getD i Unt.zero).mach)),(7,.int .i64 (k:Int))]) (fun k=>[]) (fun g k=>k≤y.ps.length∧g+k=y.ps.length) (y.ps.length) 0 ?_ (S.sel [0,1] G G) (H.keep [6,7,1,2,5] rfl) ?_
 · exact ⟨by omega,by omega⟩
 clear H S a
 intro g1 x1 a w1 hp S H K6 k6
 obtain ⟨k,rfl⟩:∃ y,y=x1:=⟨_,rfl⟩
 refine wp_seq_k fun K7 k7=>?_
 refine sS H fun K8 k8=>sr 1 rfl<|sf eH rfl<|sf eE rfl<|sl S 1 fD G G G<|sL eR rfl<|sr 1 rfl<|sE ?_;clear H a;intro a H
 refine k8 _ ?_;clear k8 K8
 refine condL H rfl (fun hc1=>?_) (fun hc1=>?_)
 ·skip
  refine wp_skip ?_
  refine k7 _ _ ?_
  refine wp_seq_k fun K9 k9=>?_
  refine wp_block ?_
  replace H:=H.keep [1,2,5,6,7] rfl
  refine aA fun K10 k10=>?_
  refine ls 6 H<|sf eH rfl<|sf eE rfl<|sl S 1 fD G G G<|sr 1 rfl<|si eR dD G G (hy.ps.adr (by omega)) (by omega)<|sd ((aU fO dD rfl S hy.ps (by omega) (by omega)))<|sE ?_;clear H a;intro a H
  refine aM H rfl S kK ?_;clear H a S;intro b8 _ a hb8 hbw8 S H
  refine aH H S (i:=0) G G G G dD G G ?_
  clear H a S;intro _ a S H
  refine k10 _ _ ?_;clear k10 K10
  replace H:=H.keep [1,2,5,6,7,8] rfl
  refine sO H<|sr 2 rfl<|sg 10 1 33 43 false G G (fun hg2=>by
      have hq2:=hg2;try simp only [o1,o2,o3,o4,o5,o6,o7,o8,o9,oa] at hq2
      exact sy hg2<|sf eW rfl<|sy hg2<|sl S 0 aB G G G<|sy hg2<|sr 1 rfl<|sy hg2<|sr 1 rfl<|sg 5 5 37 42 true G G (fun hg6=>by
           have hq6:=hg6;try simp only [o1,o2,o3,o4,o5,o6,o7,o8,o9,oa] at hq6
           exact sy hg6<|sf eW rfl<|sy hg6<|sl S 0 aB G G G<|sy hg6<|sf mN rfl<|sy hg6<|sl S 1 aB G G G<|sy hg6<|sr 1 rfl<|sz 5 G G G)<|sy hg2<|sa G G G<|sz 6 G G G)<|so G G G<|sr 1 rfl<|sE ?_;clear H a;intro a H
  refine k9 _ _ ?_
  replace H:=H.keep [1,2,5,6,7] rfl
  refine sO H<|sr 1 rfl<|sd (aG G G (by unfold i64ok;omega))<|sr 1 rfl<|sE ?_;clear H a;intro a H
  rw [←Dt (ps:=y.ps) (us:=y.us)] at H
  exact k6 (g1-1) (k+1) a _ (by omega) (⟨by omega,by omega⟩) (S.sel [1,2] G G) (H.keep [6,7,1,2,5] rfl)
 refine wp_exit ?_
 refine k4 _ _ ?_
 refine wp_seq_k fun K13 k13=>?_
 refine sS H fun K14 k14=>sr 1 rfl<|sE ?_;clear H a;intro a H
 refine k14 _ ?_;clear k14 K14
 refine wp_block ?_
 obtain rfl:k=y.ps.length:=by omega
 refine loop_st (X:=Nat) (R0:=_) [1,2,5] H rfl (fun k=>[(6,.bool (freeN y.ps y.us y.ps.length k (y.us.getD i Unt.zero).mach)),(9,.int .i64 (k:Int))]) (fun k=>[]) (fun g k=>k≤i∧g+k=i) (i) 0 ?_ (S.sel [0,1] G G) (H.keep [6,9,1,2,5] rfl) ?_
 · exact ⟨by omega,by omega⟩
 clear H S a
 intro g2 x2 a w2 hp S H K15 k15
 obtain ⟨k,rfl⟩:∃ y,y=x2:=⟨_,rfl⟩
 refine wp_seq_k fun K16 k16=>?_
 refine sS H fun K17 k17=>sr 3 rfl<|sE ?_;clear H a;intro a H
 refine k17 _ ?_;clear k17 K17
 refine condL H rfl (fun hc2=>?_) (fun hc2=>?_)
 ·skip
  refine wp_skip ?_
  refine k16 _ _ ?_
  refine wp_seq_k fun K18 k18=>?_
  refine wp_block ?_
  replace H:=H.keep [1,2,5,6,9] rfl
  replace S:=S.drew
  refine sP H<|sr 2 rfl<|sg 9 1 51 60 true G G (fun hg2=>by
      have hq2:=hg2;try simp only [o1,o2,o3,o4,o5,o6,o7,o8,o9,oa] at hq2
      exact sy hg2<|sf cS rfl<|sy hg2<|sl S 1 dZ G G G<|sy hg2<|sr 1 rfl<|sy hg2<|si cX dC G G (hy.us.adr (by omega)) (by omega)<|sy hg2<|sp mN rfl<|sy hg2<|slm aB rfl (hy.us.rd S (by omega) (by omega))<|sy hg2<|sf mN rfl<|sy hg2<|sl S 0 aB G G G<|sy hg2<|sr 1 rfl<|sz 9 G G G)<|sa G G G<|sr 1 rfl<|sE ?_;clear H a;intro a H
  refine k18 _ _ ?_
  replace H:=H.keep [1,2,5,6,9] rfl
  refine sO H<|sr 1 rfl<|sd (aG G G (by unfold i64ok;omega))<|sr 1 rfl<|sE ?_;clear H a;intro a H
  rw [←Tx (ps:=y.ps) (us:=y.us)] at H
  exact k15 (g2-1) (k+1) a _ (by omega) (⟨by omega,by omega⟩) (S.sel [0,1] G G) (H.keep [6,9,1,2,5] rfl)
 refine wp_exit ?_
 refine k13 _ _ ?_
 refine wp_seq_k fun K21 k21=>?_
 obtain rfl:i=k:=by omega
 replace H:=H.keep [5,6] rfl
 refine aA fun K22 k22=>?_
 refine ls 21 H<|sr 3 rfl<|sg 4 2 64 68 false G G (fun hg3=>by
     have hq3:=hg3;try simp only [o1,o2,o3,o4,o5,o6,o7,o8,o9,oa] at hq3
     exact sy hg3<|sf oI rfl<|sy hg3<|sl S 0 aB G G G<|sy hg3<|sc rfl Tryz.func30 G G (dR _ _ _ _)<|sy hg3<|sr 1 rfl<|sz 4 G G G)<|so G G G<|sr 1 rfl<|sg 4 8 70 74 false G G (fun hg9=>by
     have hq9:=hg9;try simp only [o1,o2,o3,o4,o5,o6,o7,o8,o9,oa] at hq9
     exact sy hg9<|sf qL rfl<|sy hg9<|sl S 0 aB G G G<|sy hg9<|sc rfl Tryz.func30 G G (dR _ _ _ _)<|sy hg9<|sr 1 rfl<|sz 4 G G G)<|so G G G<|sr 1 rfl<|sg 4 14 76 80 false G G (fun hg15=>by
     have hq15:=hg15;try simp only [o1,o2,o3,o4,o5,o6,o7,o8,o9,oa] at hq15
     exact sy hg15<|sf tW rfl<|sy hg15<|sl S 0 aB G G G<|sy hg15<|sc rfl Tryz.func30 G G (dR _ _ _ _)<|sy hg15<|sr 1 rfl<|sz 4 G G G)<|so G G G<|sr 1 rfl<|sE ?_;clear H a;intro a H
 apply eJ (i:=20) (g:=82) (t:=88) (b:=false) 6 H S G G (by kernel_rfl) (by kernel_rfl) G G
 case h1=>
  intro hg21
  have hq21:=hg21;try simp only [o1,o2,o3,o4,o5,o6,o7,o8,o9,oa] at hq21
  refine ls 4 H<|sy hg21<|sf jV rfl<|sy hg21<|sd ((aD dE dV rfl S (i:=0) G G))<|sy hg21<|sf gD rfl<|sy hg21<|sl S 0 iW G G G<|sE ?_;intro a H
  refine fL H G G (by assumption) ?_
  refine aC H G G Tryz.func58 G G (lK (y.us.getD i Unt.zero).rates (y.us.getD i Unt.zero).worn (y.us.getD i Unt.zero).turns (y.us.getD i Unt.zero).age (y.us.getD i Unt.zero).RA (y.us.getD i Unt.zero).rc (y.us.getD i Unt.zero).uses (y.us.getD i Unt.zero).UA (y.us.getD i Unt.zero).uc _ ((hy.rt i hi).now S) (hyb.rtn hi) ((hy.ul i hi).now S) (hyb.uln hi)) ?_
  rintro _ _ a ⟨rfl,S2⟩ H
  replace S:=S.call S2;clear S2
  refine ls 1 H<|sy hg21<|sr 1 rfl<|sE ?_;intro a H
  exact wpList_nil ⟨H.strip 6 G G,(S.sel [0,1] G G)⟩
 clear H a S;intro a _ H S
 refine ls 7 H<|so G G G<|sr 1 rfl<|sg 4 28 90 94 false G G (fun hg29=>by
     have hq29:=hg29;try simp only [o1,o2,o3,o4,o5,o6,o7,o8,o9,oa] at hq29
     exact sy hg29<|sf gD rfl<|sy hg29<|sl S 0 iW G G G<|sy hg29<|sL cG rfl<|sy hg29<|sr 1 rfl<|sz 4 G G G)<|so G G G<|sE ?_;clear H a;intro a H
 refine k22 _ _ ?_;clear k22 K22
 refine aT H rfl (fun hc3=>?_) (fun hc3=>?_)
 ·skip
  try simp only [o1,o2,o3,o4,o5,o6,o7,o8,o9,oa] at hc3
  replace H:=H.keep [] rfl
  refine sS H fun K23 k23=>sr 1 rfl<|sE ?_;clear H a;intro a H
  refine k23 _ ?_;clear k23 K23
  refine wp_ret ?_
  refine ret1 (fn:=Tryz.f44) rfl H rfl ?_
  rw [Du (fun h=>by have h1:freeN y.ps y.us y.ps.length i (y.us.getD i Unt.zero).mach=true:=h.free;have h2:=h.i;have h3:bY ⟨(y.us.getD i Unt.zero).rates,(y.us.getD i Unt.zero).worn,(y.us.getD i Unt.zero).turns,(y.us.getD i Unt.zero).age⟩ (y.us.getD i Unt.zero).uses=0:=(mU h.wear).1;unfold untI at h2;rw [h1] at hc3;simp only [Bool.true_eq_false,Bool.not_true,Bool.false_eq_true,not_true_eq_false,false_or] at hc3;omega)];exact ⟨rfl,(S.sel [] G G)⟩
 try simp only [o1,o2,o3,o4,o5,o6,o7,o8,o9,oa] at hc3
 have hcp:bY (y.us.getD i Unt.zero).part (y.us.getD i Unt.zero).uses=0:=by show bY ⟨_,_,_,_⟩ _=0;omega
 have hrw:=Nb hcp
 refine wp_skip ?_
 refine k21 _ _ ?_
 replace H:=H.keep [5] rfl
 refine aA fun K24 k24=>?_
 refine ls 4 H<|sf jV rfl<|sd ((aD dE dV rfl S (i:=0) G G))<|sf gD rfl<|sl S 0 iW G G G<|sE ?_;clear H a;intro a H
 refine aC H G G Tryz.func59 G G (Dc (y.us.getD i Unt.zero).rates (y.us.getD i Unt.zero).worn (y.us.getD i Unt.zero).turns (y.us.getD i Unt.zero).age (y.us.getD i Unt.zero).RA (y.us.getD i Unt.zero).rc (y.us.getD i Unt.zero).uses (y.us.getD i Unt.zero).UA (y.us.getD i Unt.zero).uc _ ((hy.rt i hi).now S) (hyb.rtn hi) ((hy.ul i hi).now S) (hyb.uln hi)) ?_;clear H a
 rintro _ _ a ⟨rfl,S2⟩ H
 replace S:=S.call S2;clear S2
 refine ls 7 H<|sr 7 rfl<|sE ?_;clear H a;intro a H
 refine k24 _ _ ?_;clear k24 K24
 refine wp_seq_k fun K25 k25=>?_
 replace H:=H.keep [5,11] rfl
 replace S:=S.drew
 refine sD H fun K26 k26=>sr 2 rfl<|sg 4 1 106 110 false G G (fun hg2=>by
     have hq2:=hg2;try simp only [o1,o2,o3,o4,o5,o6,o7,o8,o9,oa] at hq2
     exact sy hg2<|sf qM rfl<|sy hg2<|sl S 0 aB G G G<|sy hg2<|sc rfl Tryz.func30 G G (dR _ _ _ _)<|sy hg2<|sr 1 rfl<|sz 4 G G G)<|so G G G<|sr 1 rfl<|sg 18 7 112 130 false G G (fun hg8=>by
     have hq8:=hg8;try simp only [o1,o2,o3,o4,o5,o6,o7,o8,o9,oa] at hq8
     exact sy hg8<|sf gD rfl<|sy hg8<|sl S 0 iW G G G<|sy hg8<|sL cG rfl<|sy hg8<|sr 1 rfl<|sy hg8<|sr 1 rfl<|sg 12 12 117 129 true G G (fun hg13=>by
          have hq13:=hg13;try simp only [o1,o2,o3,o4,o5,o6,o7,o8,o9,oa] at hq13
          exact sy hg13<|sf qM rfl<|sy hg13<|sl S 0 aB G G G<|sy hg13<|sf gD rfl<|sy hg13<|sl S 0 iW G G G<|sy hg13<|sf gD rfl<|sy hg13<|sl S 0 iW G G G<|sy hg13<|sL cG rfl<|sy hg13<|sd (aS G G (by unfold i64ok;omega))<|sy hg13<|sI cG bV G G ((hy.ul i hi).adr (by omega)) (by omega) (by omega)<|sy hg13<|sp gY rfl<|sy hg13<|slm aB rfl ((hy.ul i hi).rd S (by omega) (by omega))<|sy hg13<|sr 1 rfl<|sz 12 G G G)<|sy hg8<|sa G G G<|sz 7 G G G)<|so G G G<|sE ?_;clear H a;intro a H
 refine k26 _ ?_;clear k26 K26
 refine aT H rfl (fun hc4=>?_) (fun hc4=>?_)
 ·skip
  try simp only [o1,o2,o3,o4,o5,o6,o7,o8,o9,oa] at hc4
  replace H:=H.keep [] rfl
  refine sS H fun K27 k27=>sr 1 rfl<|sE ?_;clear H a;intro a H
  refine k27 _ ?_;clear k27 K27
  refine wp_ret ?_
  refine ret1 (fn:=Tryz.f44) rfl H rfl ?_
  rw [Du (fun h=>by
    have h2:=h.i;have h3:=xK h.wear;unfold untI at h2
    have h5:=hrw.1 h.wear
    rcases hc4 with (h9|h9)|h9
    · have h6:(refO (y.us.getD i Unt.zero).part (y.us.getD i Unt.zero).uses).2.1=true:=h9
      rw [h5] at h6;cases h6
    · omega
    · have h7:=Nd (l:=(y.us.getD i Unt.zero).uses) (by omega) h9.2;omega)];exact ⟨rfl,(S.sel [] G G)⟩
 try simp only [o1,o2,o3,o4,o5,o6,o7,o8,o9,oa] at hc4
 refine wp_skip ?_
 refine k25 _ _ ?_
 replace H:=H.keep [5] rfl
 refine sS H fun K28 k28=>sf qN rfl<|sl S 0 aB G G G<|sc rfl Tryz.func30 G G (dR _ _ _ _)<|sr 1 rfl<|sg 8 3 135 143 true G G (fun hg4=>by
     have hq4:=hg4;try simp only [o1,o2,o3,o4,o5,o6,o7,o8,o9,oa] at hq4
     exact sy hg4<|sf qO rfl<|sy hg4<|sl S 0 aB G G G<|sy hg4<|sf jV rfl<|sy hg4<|sf fH rfl<|sy hg4<|sl S 0 iA G G G<|sy hg4<|sL cY rfl<|sy hg4<|sd (aS G G (by unfold i64ok;omega))<|sy hg4<|sc rfl Tryz.func30 G G (dR _ _ _ _)<|sz 8 G G G)<|sa G G G<|sr 1 rfl<|sE ?_;clear H a;intro a H
 refine k28 _ ?_;clear k28 K28
 refine wp_ret ?_
 refine ret1 (fn:=Tryz.f44) rfl H rfl ?_
 refine ⟨congrArg Value.bool ?_,(S.sel [] G G)⟩
 rw [Bool.eq_iff_iff,kQ]
 simp only [Bool.and_eq_true,decide_eq_true_eq]
 constructor
 · intro h9
   refine ⟨?_,?_,hrw.2 ?_⟩
   · show freeN _ _ _ _ _=true;rcases hc3 with ⟨⟨⟨⟨⟨h1,_⟩,_⟩,_⟩,_⟩,_⟩;exact h1
   · have h8:=Nc (l:=(y.us.getD i Unt.zero).uses) (o:=(y.us.getD i Unt.zero).old) (by omega) (by omega)
     unfold untI;omega
   · rcases hc4 with ⟨⟨h1,_⟩,_⟩;exact h1
 · intro h9
   have h2:=h9.i
   unfold untI at h2
   omega
theorem iU (y:Yr) (w:World) (hy:YIn w noF y) (hyb:YBd y) :
    Calls Tryz.prog 21 [.agg [.int .i64 y.days,.int .i64 y.pl,.slice y.PA y.ps.length y.pc,.slice y.XA y.xs.length y.xc,.slice y.BA y.pe.length y.bc,.int .i64 y.limit,.bool y.help,.slice y.QA y.prs.length y.qc,.slice y.VA y.us.length y.vc,.int .i64 y.crew,.slice y.SA y.sps.length y.sc].toArray].toArray w (Ret (fun v w'=>v = .int .i64 (yearE y)∧St w noF [] w')):=by
 have hn3:=hyb.usn
 refine enter Tryz.func21 rfl Tryz.ntmps21 rfl (fun a H=>?_)
 have S:=St.start w
 refine aA fun K1 k1=>?_
 refine aP H rfl S G G ?_;clear H a S;intro b1 _ a hb1 hbw1 S H
 refine ls 1 H<|sr 1 rfl<|sE ?_;clear H a;intro a H
 refine k1 _ _ ?_;clear k1 K1
 refine aA fun K2 k2=>?_
 refine ls 2 H<|sf eH rfl<|sd ((aD cA cP rfl S (i:=0) G G))<|sE ?_;clear H a;intro a H
 refine aC H G G Tryz.func41 G G (lD y.pl y.ps y.PA y.pc y.xs y.XA y.xc _ (hy.ps.now S) hyb.psn (hy.xs.now S) hyb.xsn) ?_;clear H a
 rintro _ _ a ⟨rfl,S2⟩ H
 replace S:=S.call S2;clear S2
 refine ls 1 H<|sr 1 rfl<|sE ?_;clear H a;intro a H
 refine k2 _ _ ?_;clear k2 K2
 refine wp_seq_k fun K3 k3=>?_
 refine sS H fun K4 k4=>sr 2 rfl<|sE ?_;clear H a;intro a H
 refine k4 _ ?_;clear k4 K4
 refine condN H rfl (fun hc1=>?_) (fun hc1=>?_)
 ·skip
  replace H:=H.keep [3] rfl
  refine sS H fun K5 k5=>sr 2 rfl<|sE ?_;clear H a;intro a H
  refine k5 _ ?_;clear k5 K5
  refine wp_ret ?_
  refine ret1 (fn:=Tryz.f21) rfl H rfl ?_
  have e9:=wJ (day:=[]) (l:=y.prs) hc1
  rw [pR (by rw [e9];exact hc1),e9];exact ⟨rfl,(S.sel [] G G)⟩
 refine wp_skip ?_
 refine k3 _ _ ?_
 refine aA fun K6 k6=>?_
 refine ls 4 H<|sf eH rfl<|sd ((aD cA cP rfl S (i:=0) G G))<|sf kY rfl<|sl S 0 pF G G G<|sE ?_;clear H a;intro a H
 refine aC H G G Tryz.func42 G G (rP y.pl y.ps y.PA y.pc y.xs y.XA y.xc ([]:List Hq) none 0 (fun _=>none) (fun _=>0) y.prs y.QA y.qc _ (hy.ps.now S) hyb.psn (hy.xs.now S) hyb.xsn InS.nil (by decide) (fun k hk=>absurd hk (Nat.not_lt_zero k)) (fun k hk=>absurd hk (Nat.not_lt_zero k)) (hy.prs.now S) hyb.prn) ?_;clear H a
 rintro _ _ a ⟨rfl,S2⟩ H
 replace S:=S.call S2;clear S2
 refine ls 1 H<|sr 1 rfl<|sE ?_;clear H a;intro a H
 refine k6 _ _ ?_;clear k6 K6
 refine wp_seq_k fun K7 k7=>?_
 replace H:=H.keep [1,3] rfl
 refine sS H fun K8 k8=>sr 2 rfl<|sE ?_;clear H a;intro a H
 refine k8 _ ?_;clear k8 K8
 refine condN H rfl (fun hc2=>?_) (fun hc2=>?_)
 ·skip
  refine sS H fun K9 k9=>sr 2 rfl<|sE ?_;clear H a;intro a H
  refine k9 _ ?_;clear k9 K9
  refine wp_ret ?_
  refine ret1 (fn:=Tryz.f21) rfl H rfl ?_
  exact ⟨congrArg _ (pR hc2).symm,(S.sel [] G G)⟩
 refine wp_skip ?_
 refine k7 _ _ ?_
 refine wp_seq_k fun K10 k10=>?_
 refine aA fun K11 k11=>?_
 refine ls 1 H<|sd ((aD bJ bG rfl S (i:=0) G G))<|sE ?_;clear H a;intro a H
 refine aC H G G Tryz.func43 G G (Nf y _ (hy.now S) hyb (by omega)) ?_;clear H a
 rintro _ _ a ⟨rfl,S2⟩ H
 replace S:=S.call S2;clear S2
 refine ls 1 H<|sr 1 rfl<|sE ?_;clear H a;intro a H
 refine k11 _ _ ?_;clear k11 K11
 refine aT H rfl (fun hc3=>?_) (fun hc3=>?_)
 ·skip
  try simp only [o1,o2,o3,o4,o5,o6,o7,o8,o9,oa] at hc3
  refine sS H fun K12 k12=>sr 1 rfl<|sE ?_;clear H a;intro a H
  refine k12 _ ?_;clear k12 K12
  refine wp_ret ?_
  refine ret1 (fn:=Tryz.f21) rfl H rfl ?_
  rw [rG (by omega) (fun h=>by rw [Tv h] at hc3;simp at hc3)];exact ⟨rfl,(S.sel [] G G)⟩
 try simp only [o1,o2,o3,o4,o5,o6,o7,o8,o9,oa] at hc3
 have hyi:=Zd.1 (by simpa using hc3)
 refine wp_skip ?_
 refine k10 _ _ ?_
 refine wp_seq_k fun K13 k13=>?_
 replace H:=H.keep [1] rfl
 refine sS H fun K14 k14=>sf cS rfl<|sl S 0 dZ G G G<|sL cX rfl<|sr 1 rfl<|sE ?_;clear H a;intro a H
 refine k14 _ ?_;clear k14 K14
 refine condL H rfl (fun hc4=>?_) (fun hc4=>?_)
 ·skip
  refine sS H fun K15 k15=>sr 1 rfl<|sE ?_;clear H a;intro a H
  refine k15 _ ?_;clear k15 K15
  refine wp_ret ?_
  refine ret1 (fn:=Tryz.f21) rfl H rfl ?_
  rw [wW (by omega) hyi (by omega)];exact ⟨rfl,(S.sel [] G G)⟩
 refine wp_skip ?_
 refine k13 _ _ ?_
 refine wp_seq_k fun K16 k16=>?_
 refine sS H fun K17 k17=>sr 1 rfl<|sE ?_;clear H a;intro a H
 refine k17 _ ?_;clear k17 K17
 refine wp_block ?_
 refine loop_st (X:=Nat) (R0:=_) [1] H rfl (fun k=>[(4,.int .i64 (k:Int))]) (fun k=>[]) (fun g k=>k≤y.us.length∧g+k=y.us.length∧∀ q,q<k→untB y.ps y.us q=true) (y.us.length) 0 ?_ (S.sel [0] G G) (H.keep [4,1] rfl) ?_
 · exact ⟨by omega,by omega,fun q hq=>absurd hq (Nat.not_lt_zero q)⟩
 clear H S a
 intro g1 x1 a w1 hp S H K18 k18
 obtain ⟨k,rfl⟩:∃ y,y=x1:=⟨_,rfl⟩
 refine wp_seq_k fun K19 k19=>?_
 refine sS H fun K20 k20=>sr 1 rfl<|sf cS rfl<|sl S 0 dZ G G G<|sL cX rfl<|sr 1 rfl<|sE ?_;clear H a;intro a H
 refine k20 _ ?_;clear k20 K20
 refine condL H rfl (fun hc5=>?_) (fun hc5=>?_)
 ·skip
  refine wp_skip ?_
  refine k19 _ _ ?_
  refine wp_seq_k fun K21 k21=>?_
  refine wp_block ?_
  refine aA fun K22 k22=>?_
  refine ls 2 H<|sd ((aD bJ bG rfl S (i:=0) G G))<|sr 1 rfl<|sE ?_;clear H a;intro a H
  refine aC H G G Tryz.func44 G G (Ng y k _ (hy.now S) hyb (by omega)) ?_;clear H a
  rintro _ _ a ⟨rfl,S2⟩ H
  replace S:=S.call S2;clear S2
  refine ls 1 H<|sr 1 rfl<|sE ?_;clear H a;intro a H
  refine k22 _ _ ?_;clear k22 K22
  refine aT H rfl (fun hc6=>?_) (fun hc6=>?_)
  ·skip
   try simp only [o1,o2,o3,o4,o5,o6,o7,o8,o9,oa] at hc6
   replace H:=H.keep [] rfl
   refine sS H fun K23 k23=>sr 1 rfl<|sE ?_;clear H a;intro a H
   refine k23 _ ?_;clear k23 K23
   refine wp_ret ?_
   refine ret1 (fn:=Tryz.f21) rfl H rfl ?_
   rw [wX (by omega) hyi (by omega) (show k<y.us.length by omega) (by simpa using hc6)];exact ⟨rfl,(S.sel [] G G)⟩
  try simp only [o1,o2,o3,o4,o5,o6,o7,o8,o9,oa] at hc6
  refine wp_skip ?_
  refine k21 _ _ ?_
  refine sO H<|sr 1 rfl<|sd (aG G G (by unfold i64ok;omega))<|sr 1 rfl<|sE ?_;clear H a;intro a H
  exact k18 (g1-1) (k+1) a _ (by omega) (⟨by omega,by omega,fX (f:=untB y.ps y.us) hp.2.2 (by simpa using hc6)⟩) (S.sel [0] G G) (H.keep [4,1] rfl)
 refine wp_exit ?_
 refine k16 _ _ ?_
 refine sS H fun K25 k25=>sr 1 rfl<|sE ?_;clear H a;intro a H
 refine k25 _ ?_;clear k25 K25
 refine wp_ret ?_
 refine ret1 (fn:=Tryz.f21) rfl H rfl ?_
 rw [wY (by omega) hyi (by omega) (bQ.2 fun q hq=>hp.2.2 q (by omega))];exact ⟨rfl,(S.sel [] G G)⟩
theorem Ty (y:Yr) (l:List Tsk) (LA:Option Addr) (lc:Nat) (w:World) (hy:YIn w noF y) (hyb:YBd y) (hl:InS w noF 3 LA l.length (cB l)) (hln:l.length≤9223372036854775807) :
    Calls Tryz.prog 10 [.agg [.int .i64 y.days,.int .i64 y.pl,.slice y.PA y.ps.length y.pc,.slice y.XA y.xs.length y.xc,.slice y.BA y.pe.length y.bc,.int .i64 y.limit,.bool y.help,.slice y.QA y.prs.length y.qc,.slice y.VA y.us.length y.vc,.int .i64 y.crew,.slice y.SA y.sps.length y.sc].toArray,.slice LA l.length lc].toArray w (Ret (fun v w'=>v = .int .i64 (taskE y l)∧St w noF [] w')):=by
 have hn3:=hyb.usn
 refine enter Tryz.func10 rfl Tryz.ntmps10 rfl (fun a H=>?_)
 have S:=St.start w
 refine aA fun K1 k1=>?_
 refine aP H rfl S G G ?_;clear H a S;intro b2 _ a hb2 hbw2 S H
 refine ls 1 H<|sr 1 rfl<|sE ?_;clear H a;intro a H
 refine k1 _ _ ?_;clear k1 K1
 refine aA fun K2 k2=>?_
 refine ls 1 H<|sd ((aD bJ bG rfl S (i:=0) G G))<|sE ?_;clear H a;intro a H
 refine aC H G G Tryz.func21 G G (iU y _ (hy.now S) hyb) ?_;clear H a
 rintro _ _ a ⟨rfl,S2⟩ H
 replace S:=S.call S2;clear S2
 refine ls 1 H<|sr 1 rfl<|sE ?_;clear H a;intro a H
 refine k2 _ _ ?_;clear k2 K2
 refine wp_seq_k fun K3 k3=>?_
 refine sS H fun K4 k4=>sr 2 rfl<|sE ?_;clear H a;intro a H
 refine k4 _ ?_;clear k4 K4
 refine condN H rfl (fun hc1=>?_) (fun hc1=>?_)
 ·skip
  refine sS H fun K5 k5=>sr 2 rfl<|sE ?_;clear H a;intro a H
  refine k5 _ ?_;clear k5 K5
  refine wp_ret ?_
  refine ret1 (fn:=Tryz.f10) rfl H rfl ?_
  exact ⟨congrArg _ (wZ hc1).symm,(S.sel [] G G)⟩
 have hye:yearE y=0:=by omega
 have hyi:=(oQ hye).yr
 unfold yrI at hyi
 refine wp_skip ?_
 refine k3 _ _ ?_
 refine wp_seq_k fun K6 k6=>?_
 replace H:=H.keep [1,2] rfl
 refine sS H fun K7 k7=>sr 1 rfl<|sL cQ rfl<|sr 1 rfl<|sE ?_;clear H a;intro a H
 refine k7 _ ?_;clear k7 K7
 refine condL H rfl (fun hc2=>?_) (fun hc2=>?_)
 ·skip
  refine sS H fun K8 k8=>sr 1 rfl<|sE ?_;clear H a;intro a H
  refine k8 _ ?_;clear k8 K8
  refine wp_ret ?_
  refine ret1 (fn:=Tryz.f10) rfl H rfl ?_
  rw [xA hye (by omega)];exact ⟨rfl,(S.sel [] G G)⟩
 refine wp_skip ?_
 refine k6 _ _ ?_
 refine wp_seq_k fun K9 k9=>?_
 refine sS H fun K10 k10=>sr 1 rfl<|sE ?_;clear H a;intro a H
 refine k10 _ ?_;clear k10 K10
 refine wp_block ?_
 refine loop_st (X:=Nat) (R0:=_) [1,2] H rfl (fun k=>[(6,.int .i64 (k:Int))]) (fun k=>[]) (fun g k=>k≤l.length∧g+k=l.length∧∀ q,q<k→tskB y l q=true) (l.length) 0 ?_ (S.sel [0] G G) (H.keep [6,1,2] rfl) ?_
 · exact ⟨by omega,by omega,fun q hq=>absurd hq (Nat.not_lt_zero q)⟩
 clear H S a
 intro g1 x1 a w1 hp S H K11 k11
 obtain ⟨k,rfl⟩:∃ y,y=x1:=⟨_,rfl⟩
 refine wp_seq_k fun K12 k12=>?_
 refine sS H fun K13 k13=>sr 2 rfl<|sL cQ rfl<|sr 1 rfl<|sE ?_;clear H a;intro a H
 refine k13 _ ?_;clear k13 K13
 refine condL H rfl (fun hc3=>?_) (fun hc3=>?_)
 ·skip
  refine wp_skip ?_
  refine k12 _ _ ?_
  refine wp_seq_k fun K14 k14=>?_
  refine wp_block ?_
  rcases chk5 (0≤(l.getD k Tsk.zero).day∧(l.getD k Tsk.zero).day≤y.days-1) (0≤(l.getD k Tsk.zero).unit∧(l.getD k Tsk.zero).unit≤(y.us.length:Int)-1) (1≤(l.getD k Tsk.zero).kind∧(l.getD k Tsk.zero).kind≤2) k with hB|hB|hB|hB|hB
  ·skip
   skip
   replace H:=H.keep [1,2,6] rfl
   replace S:=S.drew
   refine cJ [(0,true),(1,true),(2,true),(3,true),(4,true),(5,true),(6,true),(7,true),(8,false),(9,true),(10,true),(11,true),(12,true),(13,true),(14,true),(15,true),(16,true),(17,true),(18,true),(19,true),(20,true),(21,true),(22,true),(23,true),(24,true),(25,true),(26,true),(27,true),(28,true),(29,true),(30,true),(31,true),(32,true),(33,true),(34,true),(35,true),(36,true),(37,true),(38,true),(39,true),(40,true),(41,true),(42,true),(43,true),(44,true),(45,true),(46,true),(47,true),(48,true)] (by kernel_rfl) (by kernel_rfl) (S.sel [0] G G) fun K15 k15=>?_
   refine qF H<|qr 2 rfl<|qd rfl (fun _ S=>aX cQ cV G G (hl.adr (by omega)) (by omega))<|qd rfl (fun _ S=>(bR dT rfl))<|qd rfl (fun _ S=>aE aB rfl (hl.rd S (by omega) (by omega)))<|qd rfl (fun _ S=>(aF dP rfl))<|qd rfl (fun _ S=>aE aB rfl (boxM.rd S (i:=0) G G))<|qd rfl (fun _ S=>aS G G (by unfold i64ok;omega))<|qK ?_;clear H a;intro a H
   refine bA rfl ?_
   refine aC H G G Tryz.func30 G G (dR _ _ _ _) ?_;clear H a
   rintro _ _ a ⟨rfl,rfl⟩ H
   refine wpList_nil (And.intro (S.sel [0] G G) ?_)
   refine qF H<|qd rfl (fun _ S=>iF rfl (by omega))<|qr 1 rfl<|qK ?_;clear H a;intro a H
   refine aQ H G G G G G ?_;clear H a;intro a H
   refine aQ H G G G G G ?_;clear H a;intro a H
   refine aQ H G G G G G ?_;clear H a;intro a H
   refine aQ H G G G G G ?_;clear H a;intro a H
   refine aQ H G G G G G ?_;clear H a;intro a H
   refine aQ H G G G G G ?_;clear H a;intro a H
   refine aQ H G G G G G ?_;clear H a;intro a H
   refine aQ H G G G G G ?_;clear H a;intro a H
   refine aQ H G G G G G ?_;clear H a;intro a H
   refine aQ H G G G G G ?_;clear H a;intro a H
   refine aQ H G G G G G ?_;clear H a;intro a H
   refine qF H<|qd rfl (fun _ S=>(bH G G G))<|qr 1 rfl<|qK ?_;clear H a;intro a H
   refine aQ H G G G G G ?_;clear H a;intro a H
   refine aQ H G G G G G ?_;clear H a;intro a H
   refine aQ H G G G G G ?_;clear H a;intro a H
   refine aQ H G G G G G ?_;clear H a;intro a H
   refine aQ H G G G G G ?_;clear H a;intro a H
   refine aQ H G G G G G ?_;clear H a;intro a H
   refine aQ H G G G G G ?_;clear H a;intro a H
   refine qF H<|qd rfl (fun _ S=>(bH G G G))<|qr 1 rfl<|qK ?_;clear H a;intro a H
   refine aQ H G G G G G ?_;clear H a;intro a H
   refine aQ H G G G G G ?_;clear H a;intro a H
   refine aQ H G G G G G ?_;clear H a;intro a H
   refine cF H G G G G ?_;clear H a;intro a H
   refine cF H G G G G ?_;clear H a;intro a H
   refine cF H G G G G ?_;clear H a;intro a H
   refine cF H G G G G ?_;clear H a;intro a H
   refine cF H G G G G ?_;clear H a;intro a H
   refine cF H G G G G ?_;clear H a;intro a H
   refine cF H G G G G ?_;clear H a;intro a H
   refine cF H G G G G ?_;clear H a;intro a H
   refine cF H G G G G ?_;clear H a;intro a H
   refine cF H G G G G ?_;clear H a;intro a H
   refine cF H G G G G ?_;clear H a;intro a H
   refine aQ H G G G G G ?_;clear H a;intro a H
   refine qF H<|qd rfl (fun _ S=>(bH G G G))<|qK ?_;clear H a;intro a H
   refine bU ?_
   refine k15 _ _ ?_
   clear k15 K15
   refine aT H rfl (fun hc4=>?_) (fun hc4=>?_)
   ·skip
    skip
    replace H:=H.keep [] rfl
    refine sS H fun K16 k16=>sr 1 rfl<|sE ?_;clear H a;intro a H
    refine k16 _ ?_;clear k16 K16
    refine wp_ret ?_
    refine ret1 (fn:=Tryz.f10) rfl H rfl ?_
    rw [iE hye (by omega) (show k<l.length by omega) (mF (by omega))];exact ⟨rfl,(S.sel [] G G)⟩
   skip
   cases hc4
  ·skip
   skip
   replace H:=H.keep [1,2,6] rfl
   replace S:=S.drew
   refine cJ [(0,true),(1,true),(2,true),(3,true),(4,true),(5,true),(6,true),(7,true),(8,false),(9,true),(10,true),(11,true),(12,true),(13,true),(14,true),(15,true),(16,true),(17,true),(18,true),(19,true),(20,false),(21,true),(22,true),(23,true),(24,true),(25,true),(26,true),(27,true),(28,true),(29,true),(30,true),(31,true),(32,true),(33,true),(34,true),(35,true),(36,true),(37,true),(38,true),(39,true),(40,true),(41,true),(42,true),(43,true),(44,true),(45,true),(46,true),(47,true),(48,true)] (by kernel_rfl) (by kernel_rfl) (S.sel [0] G G) fun K17 k17=>?_
   refine qF H<|qr 2 rfl<|qd rfl (fun _ S=>aX cQ cV G G (hl.adr (by omega)) (by omega))<|qd rfl (fun _ S=>(bR dT rfl))<|qd rfl (fun _ S=>aE aB rfl (hl.rd S (by omega) (by omega)))<|qd rfl (fun _ S=>(aF dP rfl))<|qd rfl (fun _ S=>aE aB rfl (boxM.rd S (i:=0) G G))<|qd rfl (fun _ S=>aS G G (by unfold i64ok;omega))<|qK ?_;clear H a;intro a H
   refine bA rfl ?_
   refine aC H G G Tryz.func30 G G (dR _ _ _ _) ?_;clear H a
   rintro _ _ a ⟨rfl,rfl⟩ H
   refine wpList_nil (And.intro (S.sel [0] G G) ?_)
   refine qF H<|qd rfl (fun _ S=>cH rfl (by omega))<|qr 1 rfl<|qK ?_;clear H a;intro a H
   refine aK H G G G G (fun _ S=>aJ rfl) ?_;clear H a;intro a H
   refine aK H G G G G (fun _ S=>aJ rfl) ?_;clear H a;intro a H
   refine aK H G G G G (fun _ S=>aX cQ cV G G (hl.adr (by omega)) (by omega)) ?_;clear H a;intro a H
   refine aK H G G G G (fun _ S=>(bR eI rfl)) ?_;clear H a;intro a H
   refine aK H G G G G (fun _ S=>aE aB rfl (hl.rd S (by omega) (by omega))) ?_;clear H a;intro a H
   refine aK H G G G G (fun _ S=>(aF cS rfl)) ?_;clear H a;intro a H
   refine aK H G G G G (fun _ S=>aE dZ rfl (boxM.rd S (i:=0) G G)) ?_;clear H a;intro a H
   refine aK H G G G G (fun _ S=>dJ cX rfl) ?_;clear H a;intro a H
   refine aK H G G G G (fun _ S=>aS G G (by unfold i64ok;omega)) ?_;clear H a;intro a H
   refine bA rfl ?_
   refine bZ H G G ?_
   refine aC H G G Tryz.func30 G G (dR _ _ _ _) ?_;clear H a
   rintro _ _ a ⟨rfl,rfl⟩ H
   refine wpList_nil (And.intro (S.sel [0] G G) ?_)
   refine aK H G G G G (fun _ S=>iF rfl (by omega)) ?_;clear H a;intro a H
   refine qF H<|qd rfl (fun _ S=>(dN G G G))<|qr 1 rfl<|qK ?_;clear H a;intro a H
   refine aQ H G G G G G ?_;clear H a;intro a H
   refine aQ H G G G G G ?_;clear H a;intro a H
   refine aQ H G G G G G ?_;clear H a;intro a H
   refine aQ H G G G G G ?_;clear H a;intro a H
   refine aQ H G G G G G ?_;clear H a;intro a H
   refine aQ H G G G G G ?_;clear H a;intro a H
   refine aQ H G G G G G ?_;clear H a;intro a H
   refine qF H<|qd rfl (fun _ S=>(bH G G G))<|qr 1 rfl<|qK ?_;clear H a;intro a H
   refine aQ H G G G G G ?_;clear H a;intro a H
   refine aQ H G G G G G ?_;clear H a;intro a H
   refine aQ H G G G G G ?_;clear H a;intro a H
   refine cF H G G G G ?_;clear H a;intro a H
   refine cF H G G G G ?_;clear H a;intro a H
   refine cF H G G G G ?_;clear H a;intro a H
   refine cF H G G G G ?_;clear H a;intro a H
   refine cF H G G G G ?_;clear H a;intro a H
   refine cF H G G G G ?_;clear H a;intro a H
   refine cF H G G G G ?_;clear H a;intro a H
   refine cF H G G G G ?_;clear H a;intro a H
   refine cF H G G G G ?_;clear H a;intro a H
   refine cF H G G G G ?_;clear H a;intro a H
   refine cF H G G G G ?_;clear H a;intro a H
   refine aQ H G G G G G ?_;clear H a;intro a H
   refine qF H<|qd rfl (fun _ S=>(bH G G G))<|qK ?_;clear H a;intro a H
   refine bU ?_
   refine k17 _ _ ?_
   clear k17 K17
   refine aT H rfl (fun hc5=>?_) (fun hc5=>?_)
   ·skip
    skip
    replace H:=H.keep [] rfl
    refine sS H fun K18 k18=>sr 1 rfl<|sE ?_;clear H a;intro a H
    refine k18 _ ?_;clear k18 K18
    refine wp_ret ?_
    refine ret1 (fn:=Tryz.f10) rfl H rfl ?_
    rw [iE hye (by omega) (show k<l.length by omega) (mF (by omega))];exact ⟨rfl,(S.sel [] G G)⟩
   skip
   cases hc5
  ·skip
   skip
   replace H:=H.keep [1,2,6] rfl
   replace S:=S.drew
   refine cJ [(0,true),(1,true),(2,true),(3,true),(4,true),(5,true),(6,true),(7,true),(8,false),(9,true),(10,true),(11,true),(12,true),(13,true),(14,true),(15,true),(16,true),(17,true),(18,true),(19,true),(20,false),(21,true),(22,true),(23,true),(24,true),(25,true),(26,true),(27,true),(28,true),(29,false),(30,true),(31,true),(32,true),(33,true),(34,true),(35,true),(36,true),(37,true),(38,true),(39,true),(40,true),(41,true),(42,true),(43,true),(44,true),(45,true),(46,true),(47,true),(48,true)] (by kernel_rfl) (by kernel_rfl) (S.sel [0] G G) fun K19 k19=>?_
   refine qF H<|qr 2 rfl<|qd rfl (fun _ S=>aX cQ cV G G (hl.adr (by omega)) (by omega))<|qd rfl (fun _ S=>(bR dT rfl))<|qd rfl (fun _ S=>aE aB rfl (hl.rd S (by omega) (by omega)))<|qd rfl (fun _ S=>(aF dP rfl))<|qd rfl (fun _ S=>aE aB rfl (boxM.rd S (i:=0) G G))<|qd rfl (fun _ S=>aS G G (by unfold i64ok;omega))<|qK ?_;clear H a;intro a H
   refine bA rfl ?_
   refine aC H G G Tryz.func30 G G (dR _ _ _ _) ?_;clear H a
   rintro _ _ a ⟨rfl,rfl⟩ H
   refine wpList_nil (And.intro (S.sel [0] G G) ?_)
   refine qF H<|qd rfl (fun _ S=>cH rfl (by omega))<|qr 1 rfl<|qK ?_;clear H a;intro a H
   refine aK H G G G G (fun _ S=>aJ rfl) ?_;clear H a;intro a H
   refine aK H G G G G (fun _ S=>aJ rfl) ?_;clear H a;intro a H
   refine aK H G G G G (fun _ S=>aX cQ cV G G (hl.adr (by omega)) (by omega)) ?_;clear H a;intro a H
   refine aK H G G G G (fun _ S=>(bR eI rfl)) ?_;clear H a;intro a H
   refine aK H G G G G (fun _ S=>aE aB rfl (hl.rd S (by omega) (by omega))) ?_;clear H a;intro a H
   refine aK H G G G G (fun _ S=>(aF cS rfl)) ?_;clear H a;intro a H
   refine aK H G G G G (fun _ S=>aE dZ rfl (boxM.rd S (i:=0) G G)) ?_;clear H a;intro a H
   refine aK H G G G G (fun _ S=>dJ cX rfl) ?_;clear H a;intro a H
   refine aK H G G G G (fun _ S=>aS G G (by unfold i64ok;omega)) ?_;clear H a;intro a H
   refine bA rfl ?_
   refine bZ H G G ?_
   refine aC H G G Tryz.func30 G G (dR _ _ _ _) ?_;clear H a
   rintro _ _ a ⟨rfl,rfl⟩ H
   refine wpList_nil (And.intro (S.sel [0] G G) ?_)
   refine aK H G G G G (fun _ S=>cH rfl (by omega)) ?_;clear H a;intro a H
   refine qF H<|qd rfl (fun _ S=>(dN G G G))<|qr 1 rfl<|qK ?_;clear H a;intro a H
   refine aK H G G G G (fun _ S=>aJ rfl) ?_;clear H a;intro a H
   refine aK H G G G G (fun _ S=>aJ rfl) ?_;clear H a;intro a H
   refine aK H G G G G (fun _ S=>aX cQ cV G G (hl.adr (by omega)) (by omega)) ?_;clear H a;intro a H
   refine aK H G G G G (fun _ S=>(bR gC rfl)) ?_;clear H a;intro a H
   refine aK H G G G G (fun _ S=>aE aB rfl (hl.rd S (by omega) (by omega))) ?_;clear H a;intro a H
   refine bA rfl ?_
   refine bZ H G G ?_
   refine aC H G G Tryz.func30 G G (dR _ _ _ _) ?_;clear H a
   rintro _ _ a ⟨rfl,rfl⟩ H
   refine wpList_nil (And.intro (S.sel [0] G G) ?_)
   refine aK H G G G G (fun _ S=>iF rfl (by omega)) ?_;clear H a;intro a H
   refine qF H<|qd rfl (fun _ S=>(dN G G G))<|qr 1 rfl<|qK ?_;clear H a;intro a H
   refine aQ H G G G G G ?_;clear H a;intro a H
   refine aQ H G G G G G ?_;clear H a;intro a H
   refine aQ H G G G G G ?_;clear H a;intro a H
   refine cF H G G G G ?_;clear H a;intro a H
   refine cF H G G G G ?_;clear H a;intro a H
   refine cF H G G G G ?_;clear H a;intro a H
   refine cF H G G G G ?_;clear H a;intro a H
   refine cF H G G G G ?_;clear H a;intro a H
   refine cF H G G G G ?_;clear H a;intro a H
   refine cF H G G G G ?_;clear H a;intro a H
   refine cF H G G G G ?_;clear H a;intro a H
   refine cF H G G G G ?_;clear H a;intro a H
   refine cF H G G G G ?_;clear H a;intro a H
   refine cF H G G G G ?_;clear H a;intro a H
   refine aQ H G G G G G ?_;clear H a;intro a H
   refine qF H<|qd rfl (fun _ S=>(bH G G G))<|qK ?_;clear H a;intro a H
   refine bU ?_
   refine k19 _ _ ?_
   clear k19 K19
   refine aT H rfl (fun hc6=>?_) (fun hc6=>?_)
   ·skip
    skip
    replace H:=H.keep [] rfl
    refine sS H fun K20 k20=>sr 1 rfl<|sE ?_;clear H a;intro a H
    refine k20 _ ?_;clear k20 K20
    refine wp_ret ?_
    refine ret1 (fn:=Tryz.f10) rfl H rfl ?_
    rw [iE hye (by omega) (show k<l.length by omega) (mF (by omega))];exact ⟨rfl,(S.sel [] G G)⟩
   skip
   cases hc6
  ·skip
   skip
   replace H:=H.keep [1,2,6] rfl
   replace S:=S.drew
   refine cJ [(0,true),(1,true),(2,true),(3,true),(4,true),(5,true),(6,true),(7,true),(8,false),(9,true),(10,true),(11,true),(12,true),(13,true),(14,true),(15,true),(16,true),(17,true),(18,true),(19,true),(20,false),(21,true),(22,true),(23,true),(24,true),(25,true),(26,true),(27,true),(28,true),(29,false),(30,true),(31,true),(32,true),(33,true),(34,true),(35,true),(36,true),(37,true),(38,true),(39,true),(40,true),(41,true),(42,true),(43,true),(44,true),(45,true),(46,true),(47,true),(48,true)] (by kernel_rfl) (by kernel_rfl) (S.sel [0] G G) fun K21 k21=>?_
   refine qF H<|qr 2 rfl<|qd rfl (fun _ S=>aX cQ cV G G (hl.adr (by omega)) (by omega))<|qd rfl (fun _ S=>(bR dT rfl))<|qd rfl (fun _ S=>aE aB rfl (hl.rd S (by omega) (by omega)))<|qd rfl (fun _ S=>(aF dP rfl))<|qd rfl (fun _ S=>aE aB rfl (boxM.rd S (i:=0) G G))<|qd rfl (fun _ S=>aS G G (by unfold i64ok;omega))<|qK ?_;clear H a;intro a H
   refine bA rfl ?_
   refine aC H G G Tryz.func30 G G (dR _ _ _ _) ?_;clear H a
   rintro _ _ a ⟨rfl,rfl⟩ H
   refine wpList_nil (And.intro (S.sel [0] G G) ?_)
   refine qF H<|qd rfl (fun _ S=>cH rfl (by omega))<|qr 1 rfl<|qK ?_;clear H a;intro a H
   refine aK H G G G G (fun _ S=>aJ rfl) ?_;clear H a;intro a H
   refine aK H G G G G (fun _ S=>aJ rfl) ?_;clear H a;intro a H
   refine aK H G G G G (fun _ S=>aX cQ cV G G (hl.adr (by omega)) (by omega)) ?_;clear H a;intro a H
   refine aK H G G G G (fun _ S=>(bR eI rfl)) ?_;clear H a;intro a H
   refine aK H G G G G (fun _ S=>aE aB rfl (hl.rd S (by omega) (by omega))) ?_;clear H a;intro a H
   refine aK H G G G G (fun _ S=>(aF cS rfl)) ?_;clear H a;intro a H
   refine aK H G G G G (fun _ S=>aE dZ rfl (boxM.rd S (i:=0) G G)) ?_;clear H a;intro a H
   refine aK H G G G G (fun _ S=>dJ cX rfl) ?_;clear H a;intro a H
   refine aK H G G G G (fun _ S=>aS G G (by unfold i64ok;omega)) ?_;clear H a;intro a H
   refine bA rfl ?_
   refine bZ H G G ?_
   refine aC H G G Tryz.func30 G G (dR _ _ _ _) ?_;clear H a
   rintro _ _ a ⟨rfl,rfl⟩ H
   refine wpList_nil (And.intro (S.sel [0] G G) ?_)
   refine aK H G G G G (fun _ S=>cH rfl (by omega)) ?_;clear H a;intro a H
   refine qF H<|qd rfl (fun _ S=>(dN G G G))<|qr 1 rfl<|qK ?_;clear H a;intro a H
   refine aK H G G G G (fun _ S=>aJ rfl) ?_;clear H a;intro a H
   refine aK H G G G G (fun _ S=>aJ rfl) ?_;clear H a;intro a H
   refine aK H G G G G (fun _ S=>aX cQ cV G G (hl.adr (by omega)) (by omega)) ?_;clear H a;intro a H
   refine aK H G G G G (fun _ S=>(bR gC rfl)) ?_;clear H a;intro a H
   refine aK H G G G G (fun _ S=>aE aB rfl (hl.rd S (by omega) (by omega))) ?_;clear H a;intro a H
   refine bA rfl ?_
   refine bZ H G G ?_
   refine aC H G G Tryz.func30 G G (dR _ _ _ _) ?_;clear H a
   rintro _ _ a ⟨rfl,rfl⟩ H
   refine wpList_nil (And.intro (S.sel [0] G G) ?_)
   refine aK H G G G G (fun _ S=>cH rfl (by omega)) ?_;clear H a;intro a H
   refine qF H<|qd rfl (fun _ S=>(dN G G G))<|qr 1 rfl<|qK ?_;clear H a;intro a H
   refine aK H G G G G (fun _ S=>aJ rfl) ?_;clear H a;intro a H
   refine aK H G G G G (fun _ S=>rU G G (by omega)) ?_;clear H a;intro a H
   refine aK H G G G G (fun _ S=>aJ rfl) ?_;clear H a;intro a H
   refine aQ H G G G G G ?_;clear H a;intro a H
   refine aQ H G G G G G ?_;clear H a;intro a H
   refine aQ H G G G G G ?_;clear H a;intro a H
   refine aQ H G G G G G ?_;clear H a;intro a H
   refine aQ H G G G G G ?_;clear H a;intro a H
   refine aQ H G G G G G ?_;clear H a;intro a H
   refine aQ H G G G G G ?_;clear H a;intro a H
   refine aQ H G G G G G ?_;clear H a;intro a H
   refine aQ H G G G G G ?_;clear H a;intro a H
   refine aQ H G G G G G ?_;clear H a;intro a H
   refine aQ H G G G G G ?_;clear H a;intro a H
   refine aK H G G G G (fun _ S=>(bH G G G)) ?_;clear H a;intro a H
   refine qF H<|qd rfl (fun _ S=>(dN G G G))<|qK ?_;clear H a;intro a H
   refine bU ?_
   refine k21 _ _ ?_
   clear k21 K21
   refine aT H rfl (fun hc7=>?_) (fun hc7=>?_)
   ·skip
    skip
    cases hc7
   skip
   refine wp_skip ?_
   refine k14 _ _ ?_
   replace H:=H.keep [1,2,6] rfl
   refine sO H<|sr 1 rfl<|sd (aG G G (by unfold i64ok;omega))<|sr 1 rfl<|sE ?_;clear H a;intro a H
   exact k11 (g1-1) (k+1) a _ (by omega) (by first|exact ⟨by omega,by omega,fX (f:=tskB y l) hp.2.2 (oR hB)⟩|exact ⟨by omega,by omega,fX (f:=tskB y l) hp.2.2 (oS hB hc8)⟩) (S.sel [0] G G) (H.keep [6,1,2] rfl)
  skip
  replace H:=H.keep [1,2,6] rfl
  replace S:=S.drew
  refine cJ [(0,true),(1,true),(2,true),(3,true),(4,true),(5,true),(6,true),(7,true),(8,false),(9,true),(10,true),(11,true),(12,true),(13,true),(14,true),(15,true),(16,true),(17,true),(18,true),(19,true),(20,false),(21,true),(22,true),(23,true),(24,true),(25,true),(26,true),(27,true),(28,true),(29,false),(30,true),(31,true),(32,true),(33,true),(34,true),(35,true),(36,true),(37,true),(38,true),(39,true),(40,true),(41,true),(42,true),(43,true),(44,true),(45,false),(46,true),(47,true),(48,true)] (by kernel_rfl) (by kernel_rfl) (S.sel [0] G G) fun K23 k23=>?_
  refine qF H<|qr 2 rfl<|qd rfl (fun _ S=>aX cQ cV G G (hl.adr (by omega)) (by omega))<|qd rfl (fun _ S=>(bR dT rfl))<|qd rfl (fun _ S=>aE aB rfl (hl.rd S (by omega) (by omega)))<|qd rfl (fun _ S=>(aF dP rfl))<|qd rfl (fun _ S=>aE aB rfl (boxM.rd S (i:=0) G G))<|qd rfl (fun _ S=>aS G G (by unfold i64ok;omega))<|qK ?_;clear H a;intro a H
  refine bA rfl ?_
  refine aC H G G Tryz.func30 G G (dR _ _ _ _) ?_;clear H a
  rintro _ _ a ⟨rfl,rfl⟩ H
  refine wpList_nil (And.intro (S.sel [0] G G) ?_)
  refine qF H<|qd rfl (fun _ S=>cH rfl (by omega))<|qr 1 rfl<|qK ?_;clear H a;intro a H
  refine aK H G G G G (fun _ S=>aJ rfl) ?_;clear H a;intro a H
  refine aK H G G G G (fun _ S=>aJ rfl) ?_;clear H a;intro a H
  refine aK H G G G G (fun _ S=>aX cQ cV G G (hl.adr (by omega)) (by omega)) ?_;clear H a;intro a H
  refine aK H G G G G (fun _ S=>(bR eI rfl)) ?_;clear H a;intro a H
  refine aK H G G G G (fun _ S=>aE aB rfl (hl.rd S (by omega) (by omega))) ?_;clear H a;intro a H
  refine aK H G G G G (fun _ S=>(aF cS rfl)) ?_;clear H a;intro a H
  refine aK H G G G G (fun _ S=>aE dZ rfl (boxM.rd S (i:=0) G G)) ?_;clear H a;intro a H
  refine aK H G G G G (fun _ S=>dJ cX rfl) ?_;clear H a;intro a H
  refine aK H G G G G (fun _ S=>aS G G (by unfold i64ok;omega)) ?_;clear H a;intro a H
  refine bA rfl ?_
  refine bZ H G G ?_
  refine aC H G G Tryz.func30 G G (dR _ _ _ _) ?_;clear H a
  rintro _ _ a ⟨rfl,rfl⟩ H
  refine wpList_nil (And.intro (S.sel [0] G G) ?_)
  refine aK H G G G G (fun _ S=>cH rfl (by omega)) ?_;clear H a;intro a H
  refine qF H<|qd rfl (fun _ S=>(dN G G G))<|qr 1 rfl<|qK ?_;clear H a;intro a H
  refine aK H G G G G (fun _ S=>aJ rfl) ?_;clear H a;intro a H
  refine aK H G G G G (fun _ S=>aJ rfl) ?_;clear H a;intro a H
  refine aK H G G G G (fun _ S=>aX cQ cV G G (hl.adr (by omega)) (by omega)) ?_;clear H a;intro a H
  refine aK H G G G G (fun _ S=>(bR gC rfl)) ?_;clear H a;intro a H
  refine aK H G G G G (fun _ S=>aE aB rfl (hl.rd S (by omega) (by omega))) ?_;clear H a;intro a H
  refine bA rfl ?_
  refine bZ H G G ?_
  refine aC H G G Tryz.func30 G G (dR _ _ _ _) ?_;clear H a
  rintro _ _ a ⟨rfl,rfl⟩ H
  refine wpList_nil (And.intro (S.sel [0] G G) ?_)
  refine aK H G G G G (fun _ S=>cH rfl (by omega)) ?_;clear H a;intro a H
  refine qF H<|qd rfl (fun _ S=>(dN G G G))<|qr 1 rfl<|qK ?_;clear H a;intro a H
  refine aK H G G G G (fun _ S=>aJ rfl) ?_;clear H a;intro a H
  refine aK H G G G G (fun _ S=>rT G G (by omega)) ?_;clear H a;intro a H
  refine aK H G G G G (fun _ S=>aJ rfl) ?_;clear H a;intro a H
  refine aK H G G G G (fun _ S=>aJ rfl) ?_;clear H a;intro a H
  refine aK H G G G G (fun _ S=>aJ rfl) ?_;clear H a;intro a H
  refine aK H G G G G (fun _ S=>aS G G (by unfold i64ok;omega)) ?_;clear H a;intro a H
  refine aK H G G G G (fun _ S=>bP cQ cV G G (hl.adr (by omega)) (by omega) (by omega)) ?_;clear H a;intro a H
  refine aK H G G G G (fun _ S=>(aU pG cV rfl S hl (by omega) (by omega))) ?_;clear H a;intro a H
  refine aK H G G G G (fun _ S=>aJ rfl) ?_;clear H a;intro a H
  refine aK H G G G G (fun _ S=>aJ rfl) ?_;clear H a;intro a H
  refine aK H G G G G (fun _ S=>aX cQ cV G G (hl.adr (by omega)) (by omega)) ?_;clear H a;intro a H
  refine aK H G G G G (fun _ S=>(aU pG cV rfl S hl (by omega) (by omega))) ?_;clear H a;intro a H
  refine bA rfl ?_
  refine bZ H G G ?_
  refine aC H G G Tryz.func31 G G (Ne (l.getD ((k:Int)-1).toNat Tsk.zero) (l.getD k Tsk.zero) _) ?_;clear H a
  rintro _ _ a ⟨rfl,S2⟩ H
  replace S:=S.call S2;clear S2
  refine wpList_nil (And.intro (S.sel [0] G G) ?_)
  refine aK H G G G G (fun _ S=>kD rfl) ?_;clear H a;intro a H
  refine aK H G G G G (fun _ S=>(gG G G G)) ?_;clear H a;intro a H
  refine qF H<|qd rfl (fun _ S=>(dN G G G))<|qK ?_;clear H a;intro a H
  refine bU ?_
  refine k23 _ _ ?_
  clear k23 K23
  refine aT H rfl (fun hc8=>?_) (fun hc8=>?_)
  ·skip
   try simp only [o1,o2,o3,o4,o5,o6,o7,o8,o9,oa] at hc8
   replace hc8:befB (l.getD ((k:Int)-1).toNat Tsk.zero) (l.getD k Tsk.zero)=false:=by simpa using hc8
   replace H:=H.keep [] rfl
   refine sS H fun K24 k24=>sr 1 rfl<|sE ?_;clear H a;intro a H
   refine k24 _ ?_;clear k24 K24
   refine wp_ret ?_
   refine ret1 (fn:=Tryz.f10) rfl H rfl ?_
   rw [iE hye (by omega) (show k<l.length by omega) (Ee hB hc8)];exact ⟨rfl,(S.sel [] G G)⟩
  try simp only [o1,o2,o3,o4,o5,o6,o7,o8,o9,oa] at hc8
  replace hc8:befB (l.getD ((k:Int)-1).toNat Tsk.zero) (l.getD k Tsk.zero)=true:=by simpa using hc8
  refine wp_skip ?_
  refine k14 _ _ ?_
  refine sO H<|sr 1 rfl<|sd (aG G G (by unfold i64ok;omega))<|sr 1 rfl<|sE ?_;clear H a;intro a H
  exact k11 (g1-1) (k+1) a _ (by omega) (by first|exact ⟨by omega,by omega,fX (f:=tskB y l) hp.2.2 (oR hB)⟩|exact ⟨by omega,by omega,fX (f:=tskB y l) hp.2.2 (oS hB hc8)⟩) (S.sel [0] G G) (H.keep [6,1,2] rfl)
 refine wp_exit ?_
 refine k9 _ _ ?_
 refine sS H fun K26 k26=>sr 1 rfl<|sE ?_;clear H a;intro a H
 refine k26 _ ?_;clear k26 K26
 refine wp_ret ?_
 refine ret1 (fn:=Tryz.f10) rfl H rfl ?_
 rw [rH hye (by omega) (bQ.2 fun q hq=>hp.2.2 q (by omega))];exact ⟨rfl,(S.sel [] G G)⟩
end
section
def crwV (pl:Int) (ps:List Psg) (xs:List Int) (pe:List Int) (T0:Int):Bool:=if 26<ps.length∨12<pe.length then true else if dS pl ps xs 0 pe T0≠0 then false else (decide (12<ps.length)||decide (60<sumI pe pe.length))||decide (14<T0)
section
variable {pl T0:Int} {ps:List Psg} {xs pe:List Int}
theorem Tz (h:26<ps.length∨12<pe.length):crwV pl ps xs pe T0=true:=by unfold crwV;rw [if_pos h]
theorem Zf (h:¬ (26<ps.length∨12<pe.length)) (h2:¬ dS pl ps xs 0 pe T0=0):crwV pl ps xs pe T0=false:=by unfold crwV;rw [if_neg h,if_pos h2]
theorem aCg (h:¬ (26<ps.length∨12<pe.length)) (h2:dS pl ps xs 0 pe T0=0):crwV pl ps xs pe T0=((decide (12<ps.length)||decide (60<sumI pe pe.length))||decide (14<T0)):=by unfold crwV;rw [if_neg h,if_neg (fun h9=>h9 h2)]
end
theorem lng4 (A B:Prop) (c:Bool) [Decidable A] [Decidable B]:¬ A∨(A∧c=true)∨(A∧c=false∧B)∨(A∧c=false∧¬ B):=by
  by_cases hA:A <;> by_cases hB:B <;> cases c <;> simp [hA,hB]
theorem pX (pl:Int) (ps:List Psg) (PA:Option Addr) (pc:Nat) (xs:List Int) (XA:Option Addr) (xc:Nat) (pe:List Int) (BA:Option Addr) (bc:Nat) (T0:Int) (w:World) (hps:InS w noF 7 PA ps.length (pcell ps)) (hpn:ps.length≤9223372036854775807) (hxs:InS w noF 1 XA xs.length (icl xs)) (hxn:xs.length≤9223372036854775807) (hpe:InS w noF 1 BA pe.length (icl pe)) (hpen:pe.length≤9223372036854775807) :
    Calls Tryz.prog 22 [.agg [.int .i64 pl,.slice PA ps.length pc,.slice XA xs.length xc].toArray,.slice BA pe.length bc,.int .i64 T0].toArray w (Ret (fun u w'=>u = .bool (crwV pl ps xs pe T0)∧St w noF [] w')):=by
 refine enter Tryz.func22 rfl Tryz.ntmps22 rfl (fun a H=>?_)
 have S:=St.start w
 refine aA fun K1 k1=>?_
 refine aP H rfl S G G ?_;clear H a S;intro b3 _ a hb3 hbw3 S H
 refine ls 1 H<|sr 1 rfl<|sE ?_;clear H a;intro a H
 refine k1 _ _ ?_;clear k1 K1
 refine wp_seq_k fun K2 k2=>?_
 replace H:=H.keep [1,2,3] rfl
 refine sS H fun K3 k3=>sf eE rfl<|sl S 0 fD G G G<|sL eR rfl<|sr 2 rfl<|sg 3 4 13 16 false G G (fun hg5=>sy hg5<|sr 1 rfl<|sy hg5<|sL aO rfl<|sy hg5<|sr 1 rfl<|sz 3 G G G)<|so G G G<|sE ?_;clear H a;intro a H
 refine k3 _ ?_;clear k3 K3
 refine aT H rfl (fun hc1=>?_) (fun hc1=>?_)
 ·skip
  try simp only [o1,o2,o3,o4,o5,o6,o7,o8,o9,oa] at hc1
  replace H:=H.keep [] rfl
  refine sS H fun K4 k4=>sr 1 rfl<|sE ?_;clear H a;intro a H
  refine k4 _ ?_;clear k4 K4
  refine wp_ret ?_
  refine ret1 (fn:=Tryz.f22) rfl H rfl ?_
  exact ⟨by rw [Tz (by omega)],(S.sel [] G G)⟩
 try simp only [o1,o2,o3,o4,o5,o6,o7,o8,o9,oa] at hc1
 refine wp_skip ?_
 refine k2 _ _ ?_
 refine wp_seq_k fun K5 k5=>?_
 refine aA fun K6 k6=>?_
 refine ls 3 H<|sd ((aD cA cP rfl S (i:=0) G G))<|sr 2 rfl<|sE ?_;clear H a;intro a H
 refine aC H G G Tryz.func45 G G (kR pl ps PA pc xs XA xc 0 pe BA bc T0 _ (hps.now S) hpn (hxs.now S) hxn (hpe.now S) hpen) ?_;clear H a
 rintro _ _ a ⟨rfl,S2⟩ H
 replace S:=S.call S2;clear S2
 refine ls 1 H<|sr 1 rfl<|sE ?_;clear H a;intro a H
 refine k6 _ _ ?_;clear k6 K6
 refine condN H rfl (fun hc2=>?_) (fun hc2=>?_)
 ·skip
  refine sS H fun K7 k7=>sr 1 rfl<|sE ?_;clear H a;intro a H
  refine k7 _ ?_;clear k7 K7
  refine wp_ret ?_
  refine ret1 (fn:=Tryz.f22) rfl H rfl ?_
  exact ⟨by rw [Zf (by omega) hc2],(S.sel [] G G)⟩
 obtain ⟨hst,hou,hcr,hti⟩:=oJ (show dS pl ps xs 0 pe T0=0 by omega)
 obtain ⟨hpp,hpl'⟩:=qU hcr
 refine wp_skip ?_
 refine k5 _ _ ?_
 refine sS H fun K8 k8=>sr 1 rfl<|sE ?_;clear H a;intro a H
 refine k8 _ ?_;clear k8 K8
 refine wp_seq_k fun K9 k9=>?_
 refine sS H fun K10 k10=>sr 1 rfl<|sE ?_;clear H a;intro a H
 refine k10 _ ?_;clear k10 K10
 refine wp_block ?_
 refine loop_st (X:=Nat) (R0:=_) [1,2,3] H rfl (fun k=>[(7,.int .i64 (sumI pe k)),(8,.int .i64 (k:Int))]) (fun k=>[]) (fun g k=>k≤pe.length∧g+k=pe.length) (pe.length) 0 ?_ (S.sel [0] G G) (H.keep [7,8,1,2,3] rfl) ?_
 · exact ⟨by omega,by omega⟩
 clear H S a
 intro g1 x1 a w1 hp S H K11 k11
 obtain ⟨k,rfl⟩:∃ y,y=x1:=⟨_,rfl⟩
 refine wp_seq_k fun K12 k12=>?_
 refine sS H fun K13 k13=>sr 2 rfl<|sL aO rfl<|sr 1 rfl<|sE ?_;clear H a;intro a H
 refine k13 _ ?_;clear k13 K13
 refine condL H rfl (fun hc3=>?_) (fun hc3=>?_)
 ·skip
  refine wp_skip ?_
  refine k12 _ _ ?_
  refine wp_seq_k fun K14 k14=>?_
  refine wp_block ?_
  have hsb:=aCc hpp (by omega) (k:=k) (by omega);have hsk:=hpp k (by omega)
  replace H:=H.keep [1,2,3,7,8] rfl
  refine sO H<|sr 3 rfl<|si aO aW G G (hpe.adr (by omega)) (by omega)<|slm aB rfl (hpe.rd S (by omega) (by omega))<|sd (aG G G (by unfold i64ok;omega))<|sr 1 rfl<|sE ?_;clear H a;intro a H
  refine k14 _ _ ?_
  replace H:=H.keep [1,2,3,7,8] rfl
  refine sO H<|sr 1 rfl<|sd (aG G G (by unfold i64ok;omega))<|sr 1 rfl<|sE ?_;clear H a;intro a H
  exact k11 (g1-1) (k+1) a _ (by omega) (⟨by omega,by omega⟩) (S.sel [0] G G) (H.keep [7,8,1,2,3] rfl)
 refine wp_exit ?_
 refine k9 _ _ ?_
 replace H:=H.keep [2,3,7] rfl
 refine sS H fun K17 k17=>sf eE rfl<|sl S 0 fD G G G<|sL eR rfl<|sr 2 rfl<|sg 2 4 39 41 false G G (fun hg5=>sy hg5<|sr 1 rfl<|sy hg5<|sr 1 rfl<|sz 2 G G G)<|so G G G<|sr 1 rfl<|sg 2 8 43 45 false G G (fun hg9=>sy hg9<|sr 1 rfl<|sy hg9<|sr 1 rfl<|sz 2 G G G)<|so G G G<|sr 1 rfl<|sE ?_;clear H a;intro a H
 refine k17 _ ?_;clear k17 K17
 refine wp_ret ?_
 refine ret1 (fn:=Tryz.f22) rfl H rfl ?_
 obtain rfl:k=pe.length:=by omega
 exact ⟨by rw [aCg (by omega) (by omega)];congr 1;simp only [Bool.or_assoc];congr 1;simp only [decide_eq_decide];omega,(S.sel [] G G)⟩
theorem Hn (y:Yr) (w:World) (hy:YIn w noF y) (hyb:YBd y) :
    Calls Tryz.prog 6 [.agg [.int .i64 y.days,.int .i64 y.pl,.slice y.PA y.ps.length y.pc,.slice y.XA y.xs.length y.xc,.slice y.BA y.pe.length y.bc,.int .i64 y.limit,.bool y.help,.slice y.QA y.prs.length y.qc,.slice y.VA y.us.length y.vc,.int .i64 y.crew,.slice y.SA y.sps.length y.sc].toArray].toArray w (Ret (fun u w'=>∃ b,u = .bool b∧(b=false→(y.ps.length≤26∧y.us.length≤8)∧(yearE y=0→y.days≤6∧y.us.length≤3∧crwV y.pl y.ps y.xs y.pe y.limit=false))∧St w noF [] w')):=by
 have hn1:=hyb.psn;have hn2:=hyb.prn;have hn3:=hyb.usn;have hn4:=hyb.spn
 refine enter Tryz.func6 rfl Tryz.ntmps6 rfl (fun a H=>?_)
 have S:=St.start w
 refine aA fun K1 k1=>?_
 refine aP H rfl S G G ?_;clear H a S;intro b1 _ a hb1 hbw1 S H
 refine ls 1 H<|sr 1 rfl<|sE ?_;clear H a;intro a H
 refine k1 _ _ ?_;clear k1 K1
 refine wp_seq_k fun K2 k2=>?_
 replace H:=H.keep [1] rfl
 refine sS H fun K3 k3=>sf eH rfl<|sf eE rfl<|sl S 0 fD G G G<|sL eR rfl<|sr 2 rfl<|sg 4 5 8 12 false G G (fun hg6=>sy hg6<|sf kY rfl<|sy hg6<|sl S 0 pF G G G<|sy hg6<|sL eS rfl<|sy hg6<|sr 1 rfl<|sz 4 G G G)<|so G G G<|sr 1 rfl<|sg 4 11 14 18 false G G (fun hg12=>sy hg12<|sf cS rfl<|sy hg12<|sl S 0 dZ G G G<|sy hg12<|sL cX rfl<|sy hg12<|sr 1 rfl<|sz 4 G G G)<|so G G G<|sr 1 rfl<|sg 4 17 20 24 false G G (fun hg18=>sy hg18<|sf gT rfl<|sy hg18<|sl S 0 jN G G G<|sy hg18<|sL kH rfl<|sy hg18<|sr 1 rfl<|sz 4 G G G)<|so G G G<|sE ?_;clear H a;intro a H
 refine k3 _ ?_;clear k3 K3
 refine aT H rfl (fun hc1=>?_) (fun hc1=>?_)
 ·skip
  try simp only [o1,o2,o3,o4,o5,o6,o7,o8,o9,oa] at hc1
  replace H:=H.keep [] rfl
  refine sS H fun K4 k4=>sr 1 rfl<|sE ?_;clear H a;intro a H
  refine k4 _ ?_;clear k4 K4
  refine wp_ret ?_
  refine ret1 (fn:=Tryz.f6) rfl H rfl ?_
  exact ⟨_,rfl,(fun h=>by cases h),(S.sel [] G G)⟩
 try simp only [o1,o2,o3,o4,o5,o6,o7,o8,o9,oa] at hc1
 refine wp_skip ?_
 refine k2 _ _ ?_
 rcases lng4 (yearE y=0) (6<y.days) (crwV y.pl y.ps y.xs y.pe y.limit) with hB|hB|hB|hB
 ·skip
  skip
  replace H:=H.keep [1] rfl
  refine aA fun K5 k5=>?_
  refine ls 1 H<|sd ((aD bJ bG rfl S (i:=0) G G))<|sE ?_;clear H a;intro a H
  refine aC H G G Tryz.func21 G G (iU y _ (hy.now S) hyb) ?_;clear H a
  rintro _ _ a ⟨rfl,S2⟩ H
  replace S:=S.call S2;clear S2
  refine ls 10 H<|sd ((kC G G).to (congrArg Value.bool (decide_eq_false hB)))<|sr 1 rfl<|sn G G G<|sn G G G<|sn G G G<|sn G G G<|sn G G G<|sn G G G<|sn G G G<|sn G G G<|sE ?_;clear H a;intro a H
  refine mJ H G G G ?_;clear H a;intro a H
  refine mJ H G G G ?_;clear H a;intro a H
  refine mJ H G G G ?_;clear H a;intro a H
  refine ls 2 H<|sn G G G<|sn G G G<|sE ?_;clear H a;intro a H
  refine mJ H G G G ?_;clear H a;intro a H
  refine mJ H G G G ?_;clear H a;intro a H
  refine mJ H G G G ?_;clear H a;intro a H
  refine mJ H G G G ?_;clear H a;intro a H
  refine ls 3 H<|sn G G G<|sd ((bH G G G))<|sr 1 rfl<|sE ?_;clear H a;intro a H
  refine k5 _ _ ?_;clear k5 K5
  refine wp_ret ?_
  refine ret1 (fn:=Tryz.f6) rfl H rfl ?_
  first|exact ⟨_,rfl,(fun _=>⟨⟨by omega,by omega⟩,fun h=>absurd h hB⟩),(S.sel [] G G)⟩|exact ⟨_,rfl,(fun h=>by cases h),(S.sel [] G G)⟩|exact ⟨_,rfl,(fun h=>⟨⟨by omega,by omega⟩,fun h9=>⟨by omega,by have:=of_decide_eq_false h;omega,hB.2.1⟩⟩),(S.sel [] G G)⟩
 ·skip
  skip
  replace H:=H.keep [1] rfl
  refine aA fun K6 k6=>?_
  refine ls 1 H<|sd ((aD bJ bG rfl S (i:=0) G G))<|sE ?_;clear H a;intro a H
  refine aC H G G Tryz.func21 G G (iU y _ (hy.now S) hyb) ?_;clear H a
  rintro _ _ a ⟨rfl,S2⟩ H
  replace S:=S.call S2;clear S2
  refine ls 8 H<|sd ((kC G G).to (congrArg Value.bool (decide_eq_true hB.1)))<|sr 1 rfl<|sy rfl<|sf eH rfl<|sy rfl<|sd ((aD cA cP rfl S (i:=0) G G))<|sy rfl<|sf gS rfl<|sy rfl<|sl S 0 dL G G G<|sy rfl<|sf mM rfl<|sy rfl<|sl S 0 aB G G G<|sE ?_;clear H a;intro a H
  refine bZ H G G ?_
  refine aC H G G Tryz.func22 G G (pX y.pl y.ps y.PA y.pc y.xs y.XA y.xc y.pe y.BA y.bc y.limit _ (hy.ps.now S) hyb.psn (hy.xs.now S) hyb.xsn (hy.pe.now S) hyb.pen) ?_;clear H a
  rintro _ _ a ⟨rfl,S2⟩ H
  replace S:=S.call S2;clear S2
  rw [hB.2] at H
  refine ls 13 H<|sy rfl<|sr 1 rfl<|sn G G G<|sn G G G<|sn G G G<|sy rfl<|sd ((bH G G G))<|sy rfl<|sr 1 rfl<|sn G G G<|sn G G G<|sn G G G<|sn G G G<|sy rfl<|sd ((bH G G G))<|sa G G G<|sr 1 rfl<|sE ?_;clear H a;intro a H
  refine k6 _ _ ?_;clear k6 K6
  refine wp_ret ?_
  refine ret1 (fn:=Tryz.f6) rfl H rfl ?_
  first|exact ⟨_,rfl,(fun _=>⟨⟨by omega,by omega⟩,fun h=>absurd h hB⟩),(S.sel [] G G)⟩|exact ⟨_,rfl,(fun h=>by cases h),(S.sel [] G G)⟩|exact ⟨_,rfl,(fun h=>⟨⟨by omega,by omega⟩,fun h9=>⟨by omega,by have:=of_decide_eq_false h;omega,hB.2.1⟩⟩),(S.sel [] G G)⟩
 ·skip
  skip
  replace H:=H.keep [1] rfl
  refine aA fun K7 k7=>?_
  refine ls 1 H<|sd ((aD bJ bG rfl S (i:=0) G G))<|sE ?_;clear H a;intro a H
  refine aC H G G Tryz.func21 G G (iU y _ (hy.now S) hyb) ?_;clear H a
  rintro _ _ a ⟨rfl,S2⟩ H
  replace S:=S.call S2;clear S2
  refine ls 8 H<|sd ((kC G G).to (congrArg Value.bool (decide_eq_true hB.1)))<|sr 1 rfl<|sy rfl<|sf eH rfl<|sy rfl<|sd ((aD cA cP rfl S (i:=0) G G))<|sy rfl<|sf gS rfl<|sy rfl<|sl S 0 dL G G G<|sy rfl<|sf mM rfl<|sy rfl<|sl S 0 aB G G G<|sE ?_;clear H a;intro a H
  refine bZ H G G ?_
  refine aC H G G Tryz.func22 G G (pX y.pl y.ps y.PA y.pc y.xs y.XA y.xc y.pe y.BA y.bc y.limit _ (hy.ps.now S) hyb.psn (hy.xs.now S) hyb.xsn (hy.pe.now S) hyb.pen) ?_;clear H a
  rintro _ _ a ⟨rfl,S2⟩ H
  replace S:=S.call S2;clear S2
  rw [hB.2.1] at H
  refine ls 13 H<|sy rfl<|sr 1 rfl<|sy rfl<|sf dP rfl<|sy rfl<|sl S 0 aB G G G<|sy rfl<|sd (rT G G (by omega))<|sy rfl<|so G G G<|sy rfl<|sr 1 rfl<|sn G G G<|sn G G G<|sn G G G<|sn G G G<|sy rfl<|sd ((bH G G G))<|sa G G G<|sr 1 rfl<|sE ?_;clear H a;intro a H
  refine k7 _ _ ?_;clear k7 K7
  refine wp_ret ?_
  refine ret1 (fn:=Tryz.f6) rfl H rfl ?_
  first|exact ⟨_,rfl,(fun _=>⟨⟨by omega,by omega⟩,fun h=>absurd h hB⟩),(S.sel [] G G)⟩|exact ⟨_,rfl,(fun h=>by cases h),(S.sel [] G G)⟩|exact ⟨_,rfl,(fun h=>⟨⟨by omega,by omega⟩,fun h9=>⟨by omega,by have:=of_decide_eq_false h;omega,hB.2.1⟩⟩),(S.sel [] G G)⟩
 skip
 replace H:=H.keep [1] rfl
 refine aA fun K8 k8=>?_
 refine ls 1 H<|sd ((aD bJ bG rfl S (i:=0) G G))<|sE ?_;clear H a;intro a H
 refine aC H G G Tryz.func21 G G (iU y _ (hy.now S) hyb) ?_;clear H a
 rintro _ _ a ⟨rfl,S2⟩ H
 replace S:=S.call S2;clear S2
 refine ls 8 H<|sd ((kC G G).to (congrArg Value.bool (decide_eq_true hB.1)))<|sr 1 rfl<|sy rfl<|sf eH rfl<|sy rfl<|sd ((aD cA cP rfl S (i:=0) G G))<|sy rfl<|sf gS rfl<|sy rfl<|sl S 0 dL G G G<|sy rfl<|sf mM rfl<|sy rfl<|sl S 0 aB G G G<|sE ?_;clear H a;intro a H
 refine bZ H G G ?_
 refine aC H G G Tryz.func22 G G (pX y.pl y.ps y.PA y.pc y.xs y.XA y.xc y.pe y.BA y.bc y.limit _ (hy.ps.now S) hyb.psn (hy.xs.now S) hyb.xsn (hy.pe.now S) hyb.pen) ?_;clear H a
 rintro _ _ a ⟨rfl,S2⟩ H
 replace S:=S.call S2;clear S2
 rw [hB.2.1] at H
 refine ls 13 H<|sy rfl<|sr 1 rfl<|sy rfl<|sf dP rfl<|sy rfl<|sl S 0 aB G G G<|sy rfl<|sd (rU G G (by omega))<|sy rfl<|so G G G<|sy rfl<|sr 1 rfl<|sy rfl<|sf cS rfl<|sy rfl<|sl S 0 dZ G G G<|sy rfl<|sL cX rfl<|sy rfl<|sr 1 rfl<|sy rfl<|so G G G<|sa G G G<|sr 1 rfl<|sE ?_;clear H a;intro a H
 refine k8 _ _ ?_;clear k8 K8
 refine wp_ret ?_
 refine ret1 (fn:=Tryz.f6) rfl H rfl ?_
 first|exact ⟨_,rfl,(fun _=>⟨⟨by omega,by omega⟩,fun h=>absurd h hB⟩),(S.sel [] G G)⟩|exact ⟨_,rfl,(fun h=>by cases h),(S.sel [] G G)⟩|exact ⟨_,rfl,(fun h=>⟨⟨by omega,by omega⟩,fun h9=>⟨by omega,by have:=of_decide_eq_false h;omega,hB.2.1⟩⟩),(S.sel [] G G)⟩
end
end Go.Proofs.YtopmadlgolnmfaaGreat
