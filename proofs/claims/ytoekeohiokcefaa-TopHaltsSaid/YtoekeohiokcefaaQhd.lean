/- Part 4 of the proof. -/
import Derived.Test.YtoekeohiokcefaaQhc
namespace Go.Proofs.Ytoekeohiokcefaa
open Go.RowKit
set_option linter.unusedVariables false
set_option linter.unusedSimpArgs false
set_option maxRecDepth 100000
set_option maxHeartbeats 4000000
section
structure EndN (N:Net) (r0:RM) (b x:Nat) (v:Int) (r:RM) (L:Nat→Int):Prop where
  fl:Fl N r0 r b x v
  nn:0≤v
  lev:LevOk N r b L
  full:L x<0
section
variable {N:Net} {r r0 r1 r2:RM} {b x u:Nat} {v v' m B:Int} {L L':Nat→Int}
theorem sG {S:Nat→Bool} (h:∀ i,i<N.k→∀ j,j<N.n i→r2 i j=r1 i j):resid N r2 S=resid N r1 S:=hH fun i hi=>hH fun j hj=>by rw [h i hi j hj]
theorem Fl.congr (W:N.Wf) (h:Fl N r r1 u x m) (e:∀ i,i<N.k→∀ j,j<N.n i→r2 i j=r1 i j):Fl N r r2 u x m:=
  ⟨fun S=>by rw [sG e];exact h.cut S,fun i hi j hj=>by rw [e i hi j hj,e _ (W.to_lt i hi j hj) _ (W.bk_lt i hi j hj)];exact h.pair i hi j hj,fun i hi j hj=>by rw [e i hi j hj];exact h.nn i hi j hj⟩
theorem Ab {S:Nat→Bool} (hb:S b=true) (hx:S x=false):ind S b-ind S x=1:=by unfold ind;rw [hb,hx];rfl
theorem EndN.bound (O:Ok N r0 B) (h:EndN N r0 b x v r L) {S:Nat→Bool} (hb:S b=true) (hx:S x=false):v≤resid N r0 S:=by
  have h1:=kN (S:=S) (h.fl.ok O)
  rw [h.fl.cut,Ab hb hx] at h1
  omega
theorem EndN.inside (h:EndN N r0 b x v r L) {S:Nat→Bool} (hb:S b=true) (hx:S x=false) (hc:resid N r0 S=v):∀ u,u<N.k→0≤L u→S u=true:=by
  have h0:resid N r S=0:=by rw [h.fl.cut,Ab hb hx];omega
  exact h.lev.least hb (nI h.fl.nn h0)
end
structure Eg where
  f:Nat
  t:Nat
  pas:Int
  tick:Int
def Eg.zero:Eg:=⟨0,0,0,0⟩
def Jn.zero:Jn:=⟨0,0,0,Mv.none⟩
def ixs (E:List Eg) (i:Nat):List Nat:=(List.range E.length).filter fun e=>decide ((E.getD e Eg.zero).f=i)
def tw (e:Nat):Nat:=if e%2=0 then e+1 else e-1
structure Lk (N:Net) (E:List Eg):Prop where
  len:∀ i,i<N.k→(ixs E i).length=N.n i
  lt:∀ i,i<N.k→∀ q,q<N.n i→(ixs E i).getD q 0<E.length
  ef:∀ i,i<N.k→∀ q,q<N.n i→(E.getD ((ixs E i).getD q 0) Eg.zero).f=i
  et:∀ i,i<N.k→∀ q,q<N.n i→(E.getD ((ixs E i).getD q 0) Eg.zero).t=N.to i q
  tw:∀ i,i<N.k→∀ q,q<N.n i→(ixs E (N.to i q)).getD (N.back i q) 0=tw ((ixs E i).getD q 0)
  inj:∀ i,i<N.k→∀ q q',q<N.n i→q'<N.n i→(ixs E i).getD q 0=(ixs E i).getD q' 0→q=q'
  evn:E.length%2=0
def rmE (E:List Eg) (r:Nat→Int):RM:=fun i q=>r ((ixs E i).getD q 0)
theorem Er {e:Nat}:tw e≠e:=by unfold tw;split <;> omega
def pushE (r:Nat→Int) (e:Nat) (m:Int):Nat→Int:=upd (upd r e (r e-m)) (tw e) (r (tw e)+m)
section
variable {N:Net} {E:List Eg} {r:Nat→Int} {u j:Nat} {m B:Int}
theorem Ac:pushE r u m u=r u-m:=by unfold pushE;rw [bI _ _ (fun e=>Er e.symm),bH]
theorem Ae:pushE r u m (tw u)=r (tw u)+m:=bH _ _ _
theorem Ag {e:Nat} (h1:e≠u) (h2:e≠tw u):pushE r u m e=r e:=by unfold pushE;rw [bI _ _ h2,bI _ _ h1]
theorem Lk.push (K:Lk N E) (W:N.Wf) (hu:u<N.k) (hj:j<N.n u):∀ i,i<N.k→∀ q,q<N.n i→rmE E (pushE r ((ixs E u).getD j 0) m) i q=along N (rmE E r) u j m i q:=by
  intro i hi q hq
  have htk:=W.to_lt u hu j hj
  have hbk:=W.bk_lt u hu j hj
  have same:∀ {i q i' q'},i<N.k→q<N.n i→i'<N.k→q'<N.n i'→(ixs E i).getD q 0=(ixs E i').getD q' 0→i=i'∧q=q':=by
    intro i q i' q' hi hq hi' hq' e
    have e1:i=i':=by rw [←K.ef i hi q hq,e,K.ef i' hi' q' hq']
    subst e1
    exact ⟨rfl,K.inj i hi q q' hq hq' e⟩
  show pushE r ((ixs E u).getD j 0) m ((ixs E i).getD q 0)=_
  by_cases h1:i=u∧q=j
  · obtain ⟨rfl,rfl⟩:=h1
    rw [Ac,iW W hi hq];rfl
  · by_cases h2:i=N.to u j∧q=N.back u j
    · obtain ⟨rfl,rfl⟩:=h2
      rw [iX,K.tw u hu j hj,Ae]
      show _=r ((ixs E (N.to u j)).getD (N.back u j) 0)+m
      rw [K.tw u hu j hj]
    · rw [hY h1 h2,Ag (fun e=>h1 (same hi hq hu hj e)) (fun e=>h2 (same hi hq htk hbk (by rw [K.tw u hu j hj];exact e)))];rfl
structure Rch (N:Net) (E:List Eg) (r:Nat→Int) (b:Nat) (L:Nat→Int) (by_:Nat→Nat):Prop where
  from_:∀ v,v<N.k→0≤L v→v=b∨∃ u,u<N.k∧∃ j,j<N.n u∧0≤L u∧0<rmE E r u j∧N.to u j=v∧L v=L u+1∧by_ v=(ixs E u).getD j 0
theorem Rch.start {b:Nat} (hb:b<N.k) {L:Nat→Int} (hL:∀ v,v<N.k→L v=if v=b then 0 else -1) {by_:Nat→Nat}:Rch N E r b L by_:=⟨fun v hv h0=>by
  rw [hL v hv] at h0
  split at h0
  · rename_i e;exact .inl e
  · omega⟩
theorem Rch.visit {b:Nat} {L:Nat→Int} {by_:Nat→Nat} (h:Rch N E r b L by_) (hu:u<N.k) (hj:j<N.n u) (h0:0≤L u) (hr:0<rmE E r u j) (hv:L (N.to u j)<0) :
    Rch N E r b (upd L (N.to u j) (L u+1)) (upd by_ (N.to u j) ((ixs E u).getD j 0)):=⟨fun v hv' h0'=>by
  have hne:∀ v,0≤L v→v≠N.to u j:=fun v h0 e=>by subst e;omega
  by_cases e:v=N.to u j
  · subst e
    rw [bH,bH]
    exact .inr ⟨u,hu,j,hj,by rw [bI _ _ (hne u h0)];exact h0,hr,rfl,by rw [bI _ _ (hne u h0)],rfl⟩
  · rw [bI _ _ e] at h0'
    rcases h.from_ v hv' h0' with h1|⟨u',hu',j',hj',g1,g2,g3,g4,g5⟩
    · exact .inl h1
    · refine .inr ⟨u',hu',j',hj',?_,g2,g3,?_,?_⟩
      · rw [bI _ _ (hne u' g1)];exact g1
      · rw [bI _ _ e,bI _ _ (hne u' g1)];exact g4
      · rw [bI _ _ e];exact g5⟩
end
def hC (U:Nat→Nat→Bool) (T:Nat) (f t:Nat) (d:Int) (c:Int) (tick:Nat):Int:=if (tick:Int)+d≤T∧U f tick=true∧U t (tick+d.toNat)=false then c else 0
section
variable {P T:Nat} {pe xs:List Int} {out:Int} {ps:List Psg} {S:Nat→Bool}
end
section
variable {P T:Nat} {pe xs:List Int} {out:Int} {ps:List Psg} {S:Nat→Bool}
end
section
variable {P T:Nat} {pe xs:List Int} {out:Int} {ps:List Psg} {S:Nat→Bool} {v v':Int} {r r':RM} {L L':Nat→Int}
end
section
variable {N:Net} {E:List Eg} {r r2:Nat→Int} {b x:Nat} {L:Nat→Int} {by_:Nat→Nat} {m B:Int}
end
section
variable {P T:Nat} {pe xs:List Int} {out:Int} {ps:List Psg}
end
section
variable {P T:Nat} {ps:List Psg} {xs:List Int} {out:Int} {pe bl:List Int} {k:Nat}
end
section
variable {P T:Nat} {ps:List Psg} {xs:List Int} {out:Int} {pe pe' bl:List Int}
def PeOk (pe:List Int):Prop:=∀ k,k<pe.length→0≤pe.getD k 0∧pe.getD k 0≤1000
end
section
variable (ps:List Psg) (xs:List Int) (out:Int) (pe:List Int) (l:List Mv)
def mvIn (m:Mv):Prop:=(0≤m.pas∧m.pas<ps.length)∧(0≤m.at_∧m.at_≤60)∧(1≤m.many∧m.many≤1000)
instance (m:Mv):Decidable (mvIn ps m):=by unfold mvIn;exact inferInstance
end
section
variable {P T:Nat} {ps:List Psg} {xs:List Int} {out:Int} {pe bl:List Int} {l:List Mv} {m:Mv}
end
end
section
theorem qH (pl:Int) (ps:List Psg) (PA:Option Addr) (pc:Nat) (xs:List Int) (XA:Option Addr) (xc:Nat) (pe:List Int) (BA:Option Addr) (bc:Nat) (w:World) (hpe:InS w noF 1 BA pe.length (icl pe)) (hpen:pe.length≤9223372036854775807) :
    Calls Try.prog 32 [.agg [.int .i64 pl,.slice PA ps.length pc,.slice XA xs.length xc].toArray,.slice BA pe.length bc].toArray w (Ret (fun v w'=>v = .bool (fJ pl pe)∧St w noF [] w')):=by
 refine enter Try.func32 rfl Try.ntmps32 rfl (fun a H=>?_)
 have S:=St.start w
 refine seq_list fun K1 k1=>?_
 refine aV H rfl S G G ?_;clear H a S;intro b2 _ a hb2 hbw2 S H
 refine ls 1 H<|sr 1 rfl<|sE ?_;clear H a;intro a H
 refine k1 _ _ ?_;clear k1 K1
 refine wp_seq_k fun K2 k2=>?_
 refine sS H fun K3 k3=>sr 1 rfl<|sE ?_;clear H a;intro a H
 refine k3 _ ?_;clear k3 K3
 refine wp_block ?_
 refine loop_st (X:=Nat) (R0:=_) [1,2] H rfl (fun k=>[(5,.int .i64 (k:Int))]) (fun k=>[]) (fun g k=>k≤pe.length∧g+k=pe.length∧allN (fun k=>decide (0≤pe.getD k 0∧pe.getD k 0≤1000)) k=true) (pe.length) 0 ?_ (S.sel [0] G G) (H.keep [5,1,2] rfl) ?_
 · exact ⟨by omega,by omega,rfl⟩
 clear H S a
 intro g1 x1 a w1 hp S H K4 k4
 obtain ⟨k,rfl⟩:∃ y,y=x1:=⟨_,rfl⟩
 refine wp_seq_k fun K5 k5=>?_
 refine sS H fun K6 k6=>sr 2 rfl<|sL aM rfl<|sr 1 rfl<|sE ?_;clear H a;intro a H
 refine k6 _ ?_;clear k6 K6
 refine condL H rfl (fun hc1=>?_) (fun hc1=>?_)
 ·skip
  refine wp_skip ?_
  refine k5 _ _ ?_
  refine wp_seq_k fun K7 k7=>?_
  refine wp_block ?_
  replace H:=H.keep [1,2,5] rfl
  refine sS H fun K8 k8=>sr 2 rfl<|si aM bC G G (hpe.adr (by omega)) (by omega)<|slm aE rfl (hpe.rd S (by omega) (by omega))<|sc rfl Try.func33 G G (cB _ _ _ _)<|sr 1 rfl<|sE ?_;clear H a;intro a H
  refine k8 _ ?_;clear k8 K8
  refine cond_ H rfl (fun hc2=>?_) (fun hc2=>?_)
  ·skip
   try simp only [o1,o2,o3,o4,o5,o6,o7,o8,o9,oa] at hc2
   refine sS H fun K9 k9=>sr 1 rfl<|sE ?_;clear H a;intro a H
   refine k9 _ ?_;clear k9 K9
   refine wp_ret ?_
   refine ret1 (fn:=Try.f32) rfl H rfl ?_
   refine ⟨congrArg Value.bool ?_,(S.sel [] G G)⟩;unfold fJ;rw [iP (k:=k) (by omega) (by rw [decide_eq_false_iff_not];omega)];rfl
  try simp only [o1,o2,o3,o4,o5,o6,o7,o8,o9,oa] at hc2
  refine wp_skip ?_
  refine k7 _ _ ?_
  replace H:=H.keep [1,2,5] rfl
  refine sO H<|sr 1 rfl<|sd (aH G G (by unfold i64ok;omega))<|sr 1 rfl<|sE ?_;clear H a;intro a H
  exact k4 (g1-1) (k+1) a _ (by omega) (⟨by omega,by omega,cM hp.2.2 (by rw [decide_eq_true_eq];omega)⟩) (S.sel [0] G G) (H.keep [5,1,2] rfl)
 refine wp_exit ?_
 refine k2 _ _ ?_
 refine sS H fun K11 k11=>sr 1 rfl<|sL aM rfl<|sf eE rfl<|sl S 0 aE G G G<|sr 2 rfl<|sE ?_;clear H a;intro a H
 refine k11 _ ?_;clear k11 K11
 refine wp_ret ?_
 refine ret1 (fn:=Try.f32) rfl H rfl ?_
 refine ⟨congrArg Value.bool ?_,(S.sel [] G G)⟩;unfold fJ;rw [show pe.length=k by omega,hp.2.2,Bool.true_and]
end
section
theorem jI (pl:Int) (ps:List Psg) (PA:Option Addr) (pc:Nat) (xs:List Int) (XA:Option Addr) (xc:Nat) (out:Int) (pe:List Int) (BA:Option Addr) (bc:Nat) (T:Int) (w:World) (hps:InS w noF 7 PA ps.length (pcell ps)) (hpn:ps.length≤9223372036854775807) (hxs:InS w noF 1 XA xs.length (icl xs)) (hxn:xs.length≤9223372036854775807) (hpe:InS w noF 1 BA pe.length (icl pe)) (hpen:pe.length≤9223372036854775807) :
    Calls Try.prog 14 [.agg [.int .i64 pl,.slice PA ps.length pc,.slice XA xs.length xc].toArray,.int .i64 out,.slice BA pe.length bc,.int .i64 T].toArray w (Ret (fun v w'=>v = .int .i64 (bS pl ps xs out pe T)∧St w noF [] w')):=by
 refine enter Try.func14 rfl Try.ntmps14 rfl (fun a H=>?_)
 have S:=St.start w
 refine seq_list fun K1 k1=>?_
 refine aV H rfl S G G ?_;clear H a S;intro b4 _ a hb4 hbw4 S H
 refine ls 1 H<|sr 1 rfl<|sE ?_;clear H a;intro a H
 refine k1 _ _ ?_;clear k1 K1
 refine seq_list fun K2 k2=>?_
 refine ls 1 H<|sd ((aD dP fM rfl S (i:=0) G G))<|sE ?_;clear H a;intro a H
 refine aA H G G Try.func19 G G (sC pl ps PA pc xs XA xc _ (hps.now S) hpn (hxs.now S) hxn) ?_;clear H a
 rintro _ _ a ⟨rfl,S2⟩ H
 replace S:=S.call S2;clear S2
 refine ls 1 H<|sr 1 rfl<|sE ?_;clear H a;intro a H
 refine k2 _ _ ?_;clear k2 K2
 refine wp_seq_k fun K3 k3=>?_
 refine sS H fun K4 k4=>sr 2 rfl<|sE ?_;clear H a;intro a H
 refine k4 _ ?_;clear k4 K4
 refine condN H rfl (fun hc1=>?_) (fun hc1=>?_)
 ·skip
  refine sS H fun K5 k5=>sr 2 rfl<|sE ?_;clear H a;intro a H
  refine k5 _ ?_;clear k5 K5
  refine wp_ret ?_
  refine ret1 (fn:=Try.f14) rfl H rfl ?_
  refine ⟨?_,(S.sel [] G G)⟩;unfold bS;rw [if_pos hc1]
 refine wp_skip ?_
 refine k3 _ _ ?_
 refine wp_seq_k fun K6 k6=>?_
 replace H:=H.keep [1,2,3,4] rfl
 refine seq_list fun K7 k7=>?_
 refine ls 1 H<|sr 1 rfl<|sE ?_;clear H a;intro a H
 refine aA H G G Try.func31 G G (Cc _ _) ?_;clear H a
 rintro _ _ a ⟨rfl,rfl⟩ H
 refine ls 2 H<|sr 2 rfl<|sE ?_;clear H a;intro a H
 apply bT (i:=3) (g:=18) (t:=22) (b:=false) 4 H S G G (by kernel_rfl) (by kernel_rfl) G G
 case h1=>
  intro hg4
  have hq4:=hg4;try simp only [o1,o2,o3,o4,o5,o6,o7,o8,o9,oa] at hq4
  refine ls 2 H<|sy hg4<|sd ((aD dP fM rfl S (i:=0) G G))<|sy hg4<|sr 1 rfl<|sE ?_;intro a H
  refine cL H G G (by assumption) ?_
  refine aA H G G Try.func32 G G (qH pl ps PA pc xs XA xc pe BA bc _ (hpe.now S) hpen) ?_
  rintro _ _ a ⟨rfl,S2⟩ H
  replace S:=S.call S2;clear S2
  refine ls 1 H<|sy hg4<|sr 1 rfl<|sE ?_;intro a H
  exact wpList_nil ⟨H.strip 4 G G,(S.sel [0] G G)⟩
 clear H a S;intro a _ H S
 refine ls 6 H<|so G G G<|sr 1 rfl<|sg 3 9 24 27 false G G (fun hg10=>by
     have hq10:=hg10;try simp only [o1,o2,o3,o4,o5,o6,o7,o8,o9,oa] at hq10
     exact sy hg10<|sr 1 rfl<|sy hg10<|sc rfl Try.func33 G G (cB _ _ _ _)<|sy hg10<|sr 1 rfl<|sz 3 G G G)<|so G G G<|sE ?_;clear H a;intro a H
 refine k7 _ _ ?_;clear k7 K7
 refine cond_ H rfl (fun hc2=>?_) (fun hc2=>?_)
 ·skip
  try simp only [o1,o2,o3,o4,o5,o6,o7,o8,o9,oa] at hc2
  replace H:=H.keep [] rfl
  refine sS H fun K8 k8=>sr 1 rfl<|sE ?_;clear H a;intro a H
  refine k8 _ ?_;clear k8 K8
  refine wp_ret ?_
  refine ret1 (fn:=Try.f14) rfl H rfl ?_
  refine ⟨?_,(S.sel [] rfl rfl)⟩;unfold bS;rw [if_neg (by omega),if_neg (by simp only [Bool.and_eq_true,decide_eq_true_eq];rcases hc2 with (h|h)|h <;> first|(intro h9;omega)|(rw [h];simp))]
 try simp only [o1,o2,o3,o4,o5,o6,o7,o8,o9,oa] at hc2
 refine wp_skip ?_
 refine k6 _ _ ?_
 refine sS H fun K9 k9=>sr 1 rfl<|sE ?_;clear H a;intro a H
 refine k9 _ ?_;clear k9 K9
 refine wp_ret ?_
 refine ret1 (fn:=Try.f14) rfl H rfl ?_
 refine ⟨?_,(S.sel [] G G)⟩;unfold bS;rw [if_neg (by omega),if_pos (by simp only [Bool.and_eq_true,decide_eq_true_eq];exact ⟨⟨by omega,hc2.1.2⟩,by omega⟩)]
end
section
theorem Dn {pe:List Int} (hpp:∀ k,k<pe.length→0≤pe.getD k 0∧pe.getD k 0≤1000) (hl:pe.length≤12) {k:Nat} (hk:k≤pe.length):0≤sumI pe k∧sumI pe k≤12000:=by
  have:=qD hpp k hk
  omega
theorem sH (pl:Int) (ps:List Psg) (PA:Option Addr) (pc:Nat) (xs:List Int) (XA:Option Addr) (xc:Nat) (pe:List Int) (BA:Option Addr) (bc:Nat) (T0:Int) (w:World) (hps:InS w noF 7 PA ps.length (pcell ps)) (hpn:ps.length≤9223372036854775807) (hxs:InS w noF 1 XA xs.length (icl xs)) (hxn:xs.length≤9223372036854775807) (hpe:InS w noF 1 BA pe.length (icl pe)) (hpen:pe.length≤9223372036854775807) :
    Calls Try.prog 12 [.agg [.int .i64 pl,.slice PA ps.length pc,.slice XA xs.length xc].toArray,.slice BA pe.length bc,.int .i64 T0].toArray w (Ret (fun u w'=>∃ b,u = .bool b∧(b=false→ps.length≤26∧pe.length≤12)∧St w noF [] w')):=by
 refine enter Try.func12 rfl Try.ntmps12 rfl (fun a H=>?_)
 have S:=St.start w
 refine seq_list fun K1 k1=>?_
 refine aV H rfl S G G ?_;clear H a S;intro b3 _ a hb3 hbw3 S H
 refine ls 1 H<|sr 1 rfl<|sE ?_;clear H a;intro a H
 refine k1 _ _ ?_;clear k1 K1
 refine wp_seq_k fun K2 k2=>?_
 replace H:=H.keep [1,2,3] rfl
 refine sS H fun K3 k3=>sf eF rfl<|sl S 0 fR G G G<|sL gH rfl<|sr 2 rfl<|sg 3 4 13 16 false G G (fun hg5=>sy hg5<|sr 1 rfl<|sy hg5<|sL aM rfl<|sy hg5<|sr 1 rfl<|sz 3 G G G)<|so G G G<|sE ?_;clear H a;intro a H
 refine k3 _ ?_;clear k3 K3
 refine cond_ H rfl (fun hc1=>?_) (fun hc1=>?_)
 ·skip
  try simp only [o1,o2,o3,o4,o5,o6,o7,o8,o9,oa] at hc1
  replace H:=H.keep [] rfl
  refine sS H fun K4 k4=>sr 1 rfl<|sE ?_;clear H a;intro a H
  refine k4 _ ?_;clear k4 K4
  refine wp_ret ?_
  refine ret1 (fn:=Try.f12) rfl H rfl ?_
  exact ⟨_,rfl,(fun h=>by cases h),(S.sel [] G G)⟩
 try simp only [o1,o2,o3,o4,o5,o6,o7,o8,o9,oa] at hc1
 refine wp_skip ?_
 refine k2 _ _ ?_
 refine wp_seq_k fun K5 k5=>?_
 refine seq_list fun K6 k6=>?_
 refine ls 3 H<|sd ((aD dP fM rfl S (i:=0) G G))<|sr 2 rfl<|sE ?_;clear H a;intro a H
 refine aA H G G Try.func14 G G (jI pl ps PA pc xs XA xc 0 pe BA bc T0 _ (hps.now S) hpn (hxs.now S) hxn (hpe.now S) hpen) ?_;clear H a
 rintro _ _ a ⟨rfl,S2⟩ H
 replace S:=S.call S2;clear S2
 refine ls 1 H<|sr 1 rfl<|sE ?_;clear H a;intro a H
 refine k6 _ _ ?_;clear k6 K6
 refine condN H rfl (fun hc2=>?_) (fun hc2=>?_)
 ·skip
  refine sS H fun K7 k7=>sr 1 rfl<|sE ?_;clear H a;intro a H
  refine k7 _ ?_;clear k7 K7
  refine wp_ret ?_
  refine ret1 (fn:=Try.f12) rfl H rfl ?_
  exact ⟨_,rfl,fun _=>⟨by omega,by omega⟩,(S.sel [] G G)⟩
 obtain ⟨hst,hou,hcr,hti⟩:=gD (show bS pl ps xs 0 pe T0=0 by omega)
 obtain ⟨hpp,hpl'⟩:=lA hcr
 refine wp_skip ?_
 refine k5 _ _ ?_
 refine sS H fun K8 k8=>sr 1 rfl<|sE ?_;clear H a;intro a H
 refine k8 _ ?_;clear k8 K8
 refine wp_seq_k fun K9 k9=>?_
 refine sS H fun K10 k10=>sr 1 rfl<|sE ?_;clear H a;intro a H
 refine k10 _ ?_;clear k10 K10
 refine wp_block ?_
 refine loop_st (X:=Nat) (R0:=_) [1,2,3] H rfl (fun k=>[(7,.int .i64 (sumI pe k)),(8,.int .i64 (k:Int))]) (fun k=>[]) (fun g k=>k≤pe.length∧g+k=pe.length) (pe.length) 0 ?_ (S.sel [0] G G) (H.keep [7,8,1,2,3] rfl) ?_
 · exact ⟨by omega,by omega⟩
 clear H S a
 intro g1 x1 a w1 hp S H K11 k11
 obtain ⟨k,rfl⟩:∃ y,y=x1:=⟨_,rfl⟩
 refine wp_seq_k fun K12 k12=>?_
 refine sS H fun K13 k13=>sr 2 rfl<|sL aM rfl<|sr 1 rfl<|sE ?_;clear H a;intro a H
 refine k13 _ ?_;clear k13 K13
 refine condL H rfl (fun hc3=>?_) (fun hc3=>?_)
 ·skip
  refine wp_skip ?_
  refine k12 _ _ ?_
  refine wp_seq_k fun K14 k14=>?_
  refine wp_block ?_
  have hsb:=Dn hpp (by omega) (k:=k) (by omega);have hsk:=hpp k (by omega)
  replace H:=H.keep [1,2,3,7,8] rfl
  refine sO H<|sr 3 rfl<|si aM bC G G (hpe.adr (by omega)) (by omega)<|slm aE rfl (hpe.rd S (by omega) (by omega))<|sd (aH G G (by unfold i64ok;omega))<|sr 1 rfl<|sE ?_;clear H a;intro a H
  refine k14 _ _ ?_
  replace H:=H.keep [1,2,3,7,8] rfl
  refine sO H<|sr 1 rfl<|sd (aH G G (by unfold i64ok;omega))<|sr 1 rfl<|sE ?_;clear H a;intro a H
  exact k11 (g1-1) (k+1) a _ (by omega) (⟨by omega,by omega⟩) (S.sel [0] G G) (H.keep [7,8,1,2,3] rfl)
 refine wp_exit ?_
 refine k9 _ _ ?_
 replace H:=H.keep [2,3,7] rfl
 refine sS H fun K17 k17=>sf eF rfl<|sl S 0 fR G G G<|sL gH rfl<|sr 2 rfl<|sg 2 4 39 41 false G G (fun hg5=>sy hg5<|sr 1 rfl<|sy hg5<|sr 1 rfl<|sz 2 G G G)<|so G G G<|sr 1 rfl<|sg 2 8 43 45 false G G (fun hg9=>sy hg9<|sr 1 rfl<|sy hg9<|sr 1 rfl<|sz 2 G G G)<|so G G G<|sr 1 rfl<|sE ?_;clear H a;intro a H
 refine k17 _ ?_;clear k17 K17
 refine wp_ret ?_
 refine ret1 (fn:=Try.f12) rfl H rfl ?_
 exact ⟨_,rfl,fun _=>⟨by omega,by omega⟩,(S.sel [] G G)⟩
end
section
theorem uI {P T:Nat} {ps:List Psg} {xs:List Int} {out:Int} {pe:List Int} {w:World} {u:Value} {w':World} (hl:bS P ps xs out pe T=0) (h:(fun u w'=>(bS (P:Int) ps xs out pe (T:Int)≠0∧u = .tuple #[.int .i64 0,.int .i64 (bS (P:Int) ps xs out pe (T:Int))]∧St w noF [] w')∨(bS (P:Int) ps xs out pe (T:Int)=0∧u = .tuple #[.int .i64 (mfv (P:Int).toNat (T:Int).toNat pe xs (hds out xs ps)),.int .i64 0]∧St w noF [] w')) u w'):u = .tuple #[.int .i64 (mfv P T pe xs (hds out xs ps)),.int .i64 0]∧St w noF [] w':=by
  rcases h with ⟨h0,_⟩|⟨_,rfl,S⟩
  · exact absurd hl h0
  · exact ⟨by simp only [Int.toNat_natCast],S⟩
theorem wZ {pl:Int} {ps:List Psg} {xs:List Int} {out out':Int} {pe:List Int} {T:Int} (h:bS pl ps xs out pe T=0) (ho:0≤out'∧out'≤4095):bS pl ps xs out' pe T=0:=by
  obtain ⟨h1,h2,h3,h4⟩:=gD h
  unfold bS
  rw [if_neg (by omega),if_pos (by simp only [Bool.and_eq_true,decide_eq_true_eq];exact ⟨⟨ho,h3⟩,h4⟩)]
theorem Do (P:Nat) (ps:List Psg) (PA:Option Addr) (pc:Nat) (xs:List Int) (XA:Option Addr) (xc:Nat) (out:Int) (pe:List Int) (BA:Option Addr) (bc:Nat) (T:Nat) (w:World) (hps:InS w noF 7 PA ps.length (pcell ps)) (hpn:ps.length≤9223372036854775807) (hxs:InS w noF 1 XA xs.length (icl xs)) (hxn:xs.length≤9223372036854775807) (hpe:InS w noF 1 BA pe.length (icl pe)) (hpen:pe.length≤9223372036854775807) (hl:bS P ps xs out pe T=0):Calls Try.prog 18 [.agg [.int .i64 (P:Int),.slice PA ps.length pc,.slice XA xs.length xc].toArray,.int .i64 out,.slice BA pe.length bc,.int .i64 (T:Int)].toArray w (Ret fun u w'=>u = .tuple #[.int .i64 (mfv P T pe xs (hds out xs ps)),.int .i64 0]∧St w noF [] w'):=by
  have h:=wT P ps PA pc xs XA xc out pe BA bc T w hps hpn hxs hxn hpe hpen
  exact jS h fun u w' h=>uI hl h
theorem bit01 {x:Int} (h:¬ x%2=1):x%2=0:=by omega
theorem Ce {P T:Nat} {ps:List Psg} {xs:List Int} {out:Int} {pe:List Int} (h:bS P ps xs out pe T=0):∃ (mu:List Nat) (me:Int),mustV P ps xs out pe T=(toI mu,me)∧mu.length≤288∧(me=0∧mfv P T pe xs (hds out xs ps)=sumI pe pe.length∧mu=mustL P T ps xs out pe∨me=3∧¬ mfv P T pe xs (hds out xs ps)=sumI pe pe.length∧mu=[]):=by
  have hl:(mustL P T ps xs out pe).length≤288:=by
    have h1:=wP (ps:=ps) (out:=out) (kind:=3) (kZ (gD h).1).size.2.2 12
    exact Nat.le_trans (List.length_filter_le ..) h1
  by_cases ha:mfv P T pe xs (hds out xs ps)=sumI pe pe.length
  · exact ⟨_,0,oT h ha,hl,.inl ⟨rfl,ha,rfl⟩⟩
  · exact ⟨[],3,oS h ha,Nat.zero_le _,.inr ⟨rfl,ha,rfl⟩⟩
section
variable {mu:List Nat} {x:Int} {k:Nat}
theorem Es (h:true=true↔∃ j,j<k∧((mu.getD j 0:Nat):Int)=x):true=true↔∃ j,j<k+1∧((mu.getD j 0:Nat):Int)=x:=by
  refine ⟨fun _=>?_,fun _=>rfl⟩
  obtain ⟨j,h1,h2⟩:=h.1 rfl
  exact ⟨j,by omega,h2⟩
theorem Et (h:false=true↔∃ j,j<k∧((mu.getD j 0:Nat):Int)=x):decide (((mu.getD k 0:Nat):Int)=x)=true↔∃ j,j<k+1∧((mu.getD j 0:Nat):Int)=x:=by
  rw [decide_eq_true_eq]
  constructor
  · intro h1;exact ⟨k,by omega,h1⟩
  · rintro ⟨j,h1,h2⟩
    by_cases e:j=k
    · subst e;exact h2
    · exact absurd (h.2 ⟨j,by omega,h2⟩) (by simp)
end
theorem Cf {P T i:Nat} {ps:List Psg} {xs:List Int} {out:Int} {pe:List Int} {mu:List Nat} {nb:Bool} (V:StV P ps xs) (hi:i<ps.length) (hmu:mu=mustL P T ps xs out pe) (hk:(ps.getD i Psg.zero).kind=3) (hb:¬ out/2^(ps.getD i Psg.zero).mach.toNat%2=1)
    (hn:nb=true↔∃ j,j<mu.length∧((mu.getD j 0:Nat):Int)=(ps.getD i Psg.zero).mach):(decide (mfv P T pe xs (hds (out+1*2^(ps.getD i Psg.zero).mach.toNat) xs ps)=sumI pe pe.length) == nb)=false:=by
  have hmm:0≤(ps.getD i Psg.zero).mach∧(ps.getD i Psg.zero).mach≤11:=fO V hi hk
  have h1:nb=true↔¬ mfv P T pe xs (hds (out+1*2^(ps.getD i Psg.zero).mach.toNat) xs ps)=sumI pe pe.length:=by
    rw [hn,Int.one_mul]
    have h2:(ps.getD i Psg.zero).mach.toNat ∈ mustL P T ps xs out pe↔¬ mfv P T pe xs (hds (out+2^(ps.getD i Psg.zero).mach.toNat) xs ps)=sumI pe pe.length:=by
      unfold mustL
      rw [List.mem_filter,lQ]
      have h3:mustB P T ps xs out pe (ps.getD i Psg.zero).mach.toNat=true↔¬ mfv P T pe xs (hds (out+2^(ps.getD i Psg.zero).mach.toNat) xs ps)=sumI pe pe.length:=by
        unfold mustB allB
        rw [Bool.not_eq_true',decide_eq_false_iff_not]
      rw [h3]
      refine ⟨fun h=>h.2,fun h=>⟨⟨by omega,i,hi,iH.2 ⟨⟨hk,?_⟩,bit01 hb⟩⟩,h⟩⟩
      unfold bA
      omega
    rw [←h2,←hmu]
    constructor
    · rintro ⟨j,h4,h5⟩
      have h6:mu.getD j 0 ∈ mu:=by rw [List.getD_eq_getElem?_getD,List.getElem?_eq_getElem h4];exact List.getElem_mem h4
      rw [show (ps.getD i Psg.zero).mach.toNat=mu.getD j 0 by omega]
      exact h6
    · intro h4
      obtain ⟨j,h5,h6⟩:=List.getElem_of_mem h4
      refine ⟨j,h5,?_⟩
      rw [List.getD_eq_getElem?_getD,List.getElem?_eq_getElem h5,Option.getD_some,h6]
      omega
  cases nb with
  | true=>rw [decide_eq_false (h1.1 rfl)];rfl
  | false=>
    have h7:mfv P T pe xs (hds (out+1*2^(ps.getD i Psg.zero).mach.toNat) xs ps)=sumI pe pe.length:=by
      by_cases h8:mfv P T pe xs (hds (out+1*2^(ps.getD i Psg.zero).mach.toNat) xs ps)=sumI pe pe.length
      · exact h8
      · exact absurd (h1.2 h8) (by simp)
    rw [decide_eq_true h7];rfl
structure Wq where
  kind:Int
  of:List Int
  A:Option Addr
  c:Nat
def Wq.zero:Wq:=⟨0,[],none,0⟩
def Wq.cell (h:Wq):Nat→Value
  | 0 => .int .i64 h.kind
  | _ => .slice h.A h.of.length h.c
def kF (l:List Wq) (k j:Nat):Value:=(l.getD k Wq.zero).cell j
def Wq.w (h:Wq):Wr:=⟨h.kind,h.of⟩
theorem Dp (l:List Wq) (k:Nat):(l.map Wq.w).getD k Wr.zero=(l.getD k Wq.zero).w:=by
  rw [List.getD_eq_getElem?_getD,List.getD_eq_getElem?_getD,List.getElem?_map]
  cases l[k]? <;> rfl
theorem xA (l:List Wq):kF l=cV (l.map Wq.w) (fun k=>(l.getD k Wq.zero).A) (fun k=>(l.getD k Wq.zero).c):=by
  funext k j
  unfold kF Wq.cell cV
  rw [Dp]
  match j with
  | 0=>rfl
  | _+1=>rfl
section
variable {P T i:Nat} {ps:List Psg} {xs:List Int} {out out2 mc:Int} {pe:List Int} {mu:List Nat} {nb rb:Bool}
theorem sJ (V:StV P ps xs) (hi:i<ps.length) (hmu:mu=mustL P T ps xs out pe) (hk:(ps.getD i Psg.zero).kind=3) (hm:(ps.getD i Psg.zero).mach=mc) (hb:¬ out/2^mc.toNat%2=1)
    (ha:mfv P T pe xs (hds out xs ps)=sumI pe pe.length) (hn:nb=true↔∃ j,j<mu.length∧((mu.getD j 0:Nat):Int)=mc) (h1:rb=true→out2=out) (h2:rb=false→out2=out+2^mc.toNat):(decide (mfv P T pe xs (hds out2 xs ps)=sumI pe pe.length) == (rb||!nb))=true:=by
  subst hm
  cases rb with
  | true=>rw [h1 rfl,decide_eq_true ha];rfl
  | false=>
    rw [h2 rfl]
    have h:=Cf V hi hmu hk hb hn
    rw [Int.one_mul] at h
    revert h
    cases decide (mfv P T pe xs (hds (out+2^(ps.getD i Psg.zero).mach.toNat) xs ps)=sumI pe pe.length) <;> cases nb <;> simp
theorem Cg (hou:0≤out∧out≤4095) (hm:0≤mc∧mc≤11) (hb:¬ out/2^mc.toNat%2=1) (h1:rb=true→out2=out) (h2:rb=false→out2=out+2^mc.toNat):0≤out2∧out2≤4095:=by
  cases rb with
  | true=>rw [h1 rfl];exact hou
  | false=>rw [h2 rfl];exact rU hou (by omega) hb
theorem Ch {th:Bool} (h:th=true→∃ q,q<ps.length∧(ps.getD q Psg.zero).kind=3∧(ps.getD q Psg.zero).mach=mc∧¬ out/2^mc.toNat%2=1) (hi:i<ps.length):(th||((decide ((ps.getD i Psg.zero).kind=3)&&decide ((ps.getD i Psg.zero).mach=mc))&&decide (out/2^mc.toNat%2=0)))=true→∃ q,q<ps.length∧(ps.getD q Psg.zero).kind=3∧(ps.getD q Psg.zero).mach=mc∧¬ out/2^mc.toNat%2=1:=fun h2=>by
  rw [Bool.or_eq_true,Bool.and_eq_true,Bool.and_eq_true,decide_eq_true_eq,decide_eq_true_eq,decide_eq_true_eq] at h2
  rcases h2 with h2|⟨⟨h3,h4⟩,h5⟩
  · exact h h2
  · exact ⟨i,hi,h3,h4,by omega⟩
end
theorem nZ (pl:Int) (ps:List Psg) (PA:Option Addr) (pc:Nat) (xs:List Int) (XA:Option Addr) (xc:Nat) (out:Int) (pe:List Int) (BA:Option Addr) (bc:Nat) (T0 mc ha cl op:Int) (hz:Int) (sw:List Int) (SA:Option Addr) (scp:Nat) (ws:List Wr) (QA:Option Addr) (qc:Nat) (OA:Nat→Option Addr) (oc:Nat→Nat) (w:World) (hps:InS w noF 7 PA ps.length (pcell ps)) (hpn8:56*ps.length≤140737488355328) (hxs:InS w noF 1 XA xs.length (icl xs)) (hxn8:8*xs.length≤140737488355328) (hpe:InS w noF 1 BA pe.length (icl pe)) (hpe8:8*pe.length≤140737488355328) (hsw:InS w noF 1 SA sw.length (icl sw)) (hws:InS w noF 2 QA ws.length (cV ws OA oc)) (hof:∀ k,k<ws.length→InS w noF 1 (OA k) (ws.getD k Wr.zero).of.length (icl (ws.getD k Wr.zero).of)) (hsw8:8*sw.length≤140737488355328) (hws8:32*ws.length≤140737488355328) (hof8:∀ k,k<ws.length→8*(ws.getD k Wr.zero).of.length≤140737488355328) :
    Calls Try.prog 4 [.agg [.int .i64 pl,.slice PA ps.length pc,.slice XA xs.length xc].toArray,.agg [.int .i64 out,.slice BA pe.length bc,.int .i64 T0].toArray,.agg [.int .i64 mc,.int .i64 ha,.int .i64 cl,.int .i64 op,.int .i64 hz,.slice SA sw.length scp,.slice QA ws.length qc].toArray].toArray w (Ret (fun u w'=>u = .bool true∧St w noF [] w')):=by
 have hpn:ps.length≤9223372036854775807:=by omega
 have hxn:xs.length≤9223372036854775807:=by omega
 have hpen:pe.length≤9223372036854775807:=by omega
 have hsn:sw.length≤9223372036854775807:=by omega
 have hwn:ws.length≤9223372036854775807:=by omega
 have hofn:∀ k,k<ws.length→(ws.getD k Wr.zero).of.length≤9223372036854775807:=fun k hk=>by have:=hof8 k hk;omega
 refine enter Try.func4 rfl Try.ntmps4 rfl (fun a H=>?_)
 have S:=St.start w
 refine seq_list fun K1 k1=>?_
 refine aV H rfl S G G ?_;clear H a S;intro b3 _ a hb3 hbw3 S H
 refine aV H rfl S G G ?_;clear H a S;intro b4 _ a hb4 hbw4 S H
 refine aV H rfl S G G ?_;clear H a S;intro b5 _ a hb5 hbw5 S H
 refine ls 1 H<|sr 1 rfl<|sE ?_;clear H a;intro a H
 refine k1 _ _ ?_;clear k1 K1
 refine wp_seq_k fun K2 k2=>?_
 replace H:=H.keep [3,4,5] rfl
 refine seq_list fun K3 k3=>?_
 refine ls 5 H<|sd ((aD dP fM rfl S (i:=2) G G))<|sf jL rfl<|sl S 1 aW G G G<|sf mG rfl<|sl S 1 aE G G G<|sE ?_;clear H a;intro a H
 refine aA H G G Try.func12 G G (sH pl ps PA pc xs XA xc pe BA bc T0 _ (hps.now S) hpn (hxs.now S) hxn (hpe.now S) hpen) ?_;clear H a
 rintro _ _ a ⟨cb,rfl,hcb,S2⟩ H
 replace S:=S.call S2;clear S2
 refine ls 1 H<|sr 1 rfl<|sE ?_;clear H a;intro a H
 apply bT (i:=6) (g:=26) (t:=29) (b:=false) 3 H S G G (by kernel_rfl) (by kernel_rfl) G G
 case h1=>
  intro hg7
  have hq7:=hg7;try simp only [o1,o2,o3,o4,o5,o6,o7,o8,o9,oa] at hq7
  refine ls 2 H<|sy hg7<|sf pF rfl<|sy hg7<|sd ((aD cJ bY rfl S (i:=0) G G))<|sE ?_;intro a H
  refine cL H G G (by assumption) ?_
  refine aA H G G Try.func13 G G (Dg hz sw SA scp ws QA qc OA oc _ (hsw.now S) (hws.now S) (fun k hk=>(hof k hk).now S) hsn hwn hofn) ?_
  rintro _ _ a ⟨rfl,S2⟩ H
  replace S:=S.call S2;clear S2
  exact wpList_nil ⟨H.strip 3 G G,(S.sel [0,1,2] G G)⟩
 clear H a S;intro a _ H S
 refine ls 2 H<|so G G G<|sr 1 rfl<|sE ?_;clear H a;intro a H
 apply bT (i:=11) (g:=31) (t:=40) (b:=false) 9 H S G G (by kernel_rfl) (by kernel_rfl) G G
 case h1=>
  intro hg12
  have hq12:=hg12;try simp only [o1,o2,o3,o4,o5,o6,o7,o8,o9,oa] at hq12
  refine ls 7 H<|sy hg12<|sd ((aD dP fM rfl S (i:=2) G G))<|sy hg12<|sf mF rfl<|sy hg12<|sl S 1 aE G G G<|sy hg12<|sf jL rfl<|sy hg12<|sl S 1 aW G G G<|sy hg12<|sf mG rfl<|sy hg12<|sl S 1 aE G G G<|sE ?_;intro a H
  refine cL H G G (by assumption) ?_
  refine aA H G G Try.func14 G G (jI pl ps PA pc xs XA xc out pe BA bc T0 _ (hps.now S) hpn (hxs.now S) hxn (hpe.now S) hpen) ?_
  rintro _ _ a ⟨rfl,S2⟩ H
  replace S:=S.call S2;clear S2
  refine ls 1 H<|sy hg12<|sr 1 rfl<|sE ?_;intro a H
  exact wpList_nil ⟨H.strip 9 G G,(S.sel [0,1,2] G G)⟩
 clear H a S;intro a _ H S
 refine ls 2 H<|so G G G<|sr 1 rfl<|sE ?_;clear H a;intro a H
 apply bT (i:=22) (g:=42) (t:=46) (b:=false) 4 H S G G (by kernel_rfl) (by kernel_rfl) G G
 case h1=>
  intro hg23
  have hq23:=hg23;try simp only [o1,o2,o3,o4,o5,o6,o7,o8,o9,oa] at hq23
  refine ls 2 H<|sy hg23<|sf pF rfl<|sy hg23<|sd ((aD cJ bY rfl S (i:=0) G G))<|sE ?_;intro a H
  refine cL H G G (by assumption) ?_
  refine aA H G G Try.func15 G G (yZ hz sw SA scp ws QA qc OA oc _ (hsw.now S) (hws.now S) (fun k hk=>(hof k hk).now S) hsn hwn hofn) ?_
  rintro _ _ a ⟨rfl,S2⟩ H
  replace S:=S.call S2;clear S2
  refine ls 1 H<|sy hg23<|sr 1 rfl<|sE ?_;intro a H
  exact wpList_nil ⟨H.strip 4 G G,(S.sel [0,1,2] G G)⟩
 clear H a S;intro a _ H S
 refine ls 1 H<|so G G G<|sE ?_;clear H a;intro a H
 refine k3 _ _ ?_;clear k3 K3
 refine cond_ H rfl (fun hc1=>?_) (fun hc1=>?_)
 ·skip
  try simp only [o1,o2,o3,o4,o5,o6,o7,o8,o9,oa] at hc1
  replace H:=H.keep [] rfl
  refine seq_list fun K4 k4=>?_
  refine aA H G G Try.func7 G G (dD _) ?_;clear H a
  rintro _ _ a ⟨rfl,S2⟩ H
  replace S:=S.call S2;clear S2
  refine ls 1 H<|sr 1 rfl<|sE ?_;clear H a;intro a H
  refine k4 _ _ ?_;clear k4 K4
  refine wp_ret ?_
  refine ret1 (fn:=Try.f4) rfl H rfl ?_
  exact ⟨rfl,(S.sel [] G G)⟩
 try simp only [o1,o2,o3,o4,o5,o6,o7,o8,o9,oa] at hc1
 have hlv:bS pl ps xs out pe T0=0:=hc1.1.2
 have hE:circE hz sw ws=0:=hc1.2
 have hsm:=hcb hc1.1.1.1
 obtain ⟨hst,hou,hcr,hti⟩:=gD hlv
 have hV0:=kZ hst
 obtain ⟨P,rfl⟩:∃ P:Nat,pl=P:=⟨pl.toNat,by have:=hV0.size;omega⟩
 have hV:=hV0
 obtain ⟨hpp,hpl'⟩:=lA hcr
 have hpl:pe.length=P:=by omega
 obtain ⟨T,rfl⟩:∃ T:Nat,T0=T:=⟨T0.toNat,by omega⟩
 have hT:T≤60:=by omega
 have hP10:=hV.size
 have hpk:PeOk pe:=hpp
 refine wp_skip ?_
 refine k2 _ _ ?_
 replace H:=H.keep [3,4,5] rfl
 refine seq_list fun K5 k5=>?_
 refine ls 7 H<|sd ((aD dP fM rfl S (i:=2) G G))<|sf mF rfl<|sl S 1 aE G G G<|sf jL rfl<|sl S 1 aW G G G<|sf mG rfl<|sl S 1 aE G G G<|sE ?_;clear H a;intro a H
 refine aA H G G Try.func16 G G (wX P ps PA pc xs XA xc out pe BA bc T _ (hps.now S) hpn (hxs.now S) hxn (hpe.now S) hpen) ?_;clear H a
 rintro _ _ a ⟨A7,c7,rfl,S2⟩ H
 replace S:=S.call S2;clear S2
 obtain ⟨mu,me,hmu,hml,hmc⟩:=Ce hlv
 simp only [hmu,mK,←vB] at H S
 refine ls 5 H<|sr 5 rfl<|sE ?_;clear H a;intro a H
 refine k5 _ _ ?_;clear k5 K5
 replace H:=H.keep [3,4,5,7,8] rfl
 refine seq_list fun K6 k6=>?_
 refine ls 8 H<|sf pF rfl<|sd ((aD cJ bY rfl S (i:=1) G G))<|sf Ba rfl<|sl S 1 aE G G G<|sf Bb rfl<|sl S 1 aE G G G<|sf Bc rfl<|sl S 1 aE G G G<|sE ?_;clear H a;intro a H
 refine aA H G G Try.func17 G G (zA hz sw SA scp ws QA qc OA oc ha cl op _ (hsw.now S) (hws.now S) (fun k hk=>(hof k hk).now S) hsn hwn hofn hE) ?_;clear H a
 rintro _ _ a ⟨rb,re,rfl,hre,S2⟩ H
 replace S:=S.call S2;clear S2
 refine ls 5 H<|sr 5 rfl<|sE ?_;clear H a;intro a H
 refine k6 _ _ ?_;clear k6 K6
 refine wp_seq_k fun K7 k7=>?_
 replace H:=H.keep [3,4,5,7,8,9,10] rfl
 refine sS H fun K8 k8=>sr 3 rfl<|sg 2 2 74 76 false G G (fun hg3=>by
     have hq3:=hg3;try simp only [o1,o2,o3,o4,o5,o6,o7,o8,o9,oa] at hq3
     exact sy hg3<|sr 1 rfl<|sy hg3<|sr 1 rfl<|sz 2 G G G)<|so G G G<|sE ?_;clear H a;intro a H
 refine k8 _ ?_;clear k8 K8
 refine cond_ H rfl (fun hc2=>?_) (fun hc2=>?_)
 ·skip
  try simp only [o1,o2,o3,o4,o5,o6,o7,o8,o9,oa] at hc2
  have hb3:(me=0∧re=1)∨(me=3∧re=0)∨(me=3∧re=1):=by omega
  rcases hb3 with ⟨rfl,rfl⟩|⟨rfl,rfl⟩|⟨rfl,rfl⟩
  ·skip
   skip
   replace H:=H.keep [8,10] rfl
   refine seq_list fun K9 k9=>?_
   refine ls 15 H<|sr 1 rfl<|sd ((cE G G).to (congrArg Value.bool (decide_eq_true (by decide))))<|sr 1 rfl<|sn G G G<|sn G G G<|sd ((aR G G G))<|sr 1 rfl<|sy rfl<|sr 1 rfl<|sy rfl<|sd ((cE G G).to (congrArg Value.bool (decide_eq_false (by decide))))<|sy rfl<|sr 1 rfl<|sy rfl<|sr 1 rfl<|sy rfl<|sd ((cE G G).to (congrArg Value.bool (decide_eq_true (by decide))))<|sy rfl<|so G G G<|sa G G G<|sr 1 rfl<|sE ?_;clear H a;intro a H
   refine aX H G G ?_
   refine aA H G G Try.func7 G G (dD _) ?_;clear H a
   rintro _ _ a ⟨rfl,S2⟩ H
   replace S:=S.call S2;clear S2
   refine ls 2 H<|sa G G G<|sr 1 rfl<|sE ?_;clear H a;intro a H
   refine k9 _ _ ?_;clear k9 K9
   refine wp_ret ?_
   refine ret1 (fn:=Try.f4) rfl H rfl ?_
   exact ⟨rfl,(S.sel [] G G)⟩
  ·skip
   skip
   replace H:=H.keep [8,10] rfl
   refine seq_list fun K10 k10=>?_
   refine ls 15 H<|sr 1 rfl<|sd ((cE G G).to (congrArg Value.bool (decide_eq_false (by decide))))<|sr 1 rfl<|sy rfl<|sr 1 rfl<|sy rfl<|sd ((cE G G).to (congrArg Value.bool (decide_eq_true (by decide))))<|so G G G<|sr 1 rfl<|sy rfl<|sr 1 rfl<|sy rfl<|sd ((cE G G).to (congrArg Value.bool (decide_eq_true (by decide))))<|sy rfl<|sr 1 rfl<|sn G G G<|sn G G G<|sy rfl<|sd ((aR G G G))<|sa G G G<|sr 1 rfl<|sE ?_;clear H a;intro a H
   refine aX H G G ?_
   refine aA H G G Try.func7 G G (dD _) ?_;clear H a
   rintro _ _ a ⟨rfl,S2⟩ H
   replace S:=S.call S2;clear S2
   refine ls 2 H<|sa G G G<|sr 1 rfl<|sE ?_;clear H a;intro a H
   refine k10 _ _ ?_;clear k10 K10
   refine wp_ret ?_
   refine ret1 (fn:=Try.f4) rfl H rfl ?_
   exact ⟨rfl,(S.sel [] G G)⟩
  skip
  replace H:=H.keep [8,10] rfl
  refine seq_list fun K11 k11=>?_
  refine ls 15 H<|sr 1 rfl<|sd ((cE G G).to (congrArg Value.bool (decide_eq_false (by decide))))<|sr 1 rfl<|sy rfl<|sr 1 rfl<|sy rfl<|sd ((cE G G).to (congrArg Value.bool (decide_eq_true (by decide))))<|so G G G<|sr 1 rfl<|sy rfl<|sr 1 rfl<|sy rfl<|sd ((cE G G).to (congrArg Value.bool (decide_eq_false (by decide))))<|sy rfl<|sr 1 rfl<|sy rfl<|sr 1 rfl<|sy rfl<|sd ((cE G G).to (congrArg Value.bool (decide_eq_true (by decide))))<|sy rfl<|so G G G<|sa G G G<|sr 1 rfl<|sE ?_;clear H a;intro a H
  refine aX H G G ?_
  refine aA H G G Try.func7 G G (dD _) ?_;clear H a
  rintro _ _ a ⟨rfl,S2⟩ H
  replace S:=S.call S2;clear S2
  refine ls 2 H<|sa G G G<|sr 1 rfl<|sE ?_;clear H a;intro a H
  refine k11 _ _ ?_;clear k11 K11
  refine wp_ret ?_
  refine ret1 (fn:=Try.f4) rfl H rfl ?_
  exact ⟨rfl,(S.sel [] G G)⟩
 try simp only [o1,o2,o3,o4,o5,o6,o7,o8,o9,oa] at hc2
 have hm0:=hmc.resolve_right (by omega)
 refine wp_skip ?_
 refine k7 _ _ ?_
 replace H:=H.keep [3,4,5,7,9] rfl
 refine sS H fun K12 k12=>sr 1 rfl<|sE ?_;clear H a;intro a H
 refine k12 _ ?_;clear k12 K12
 refine wp_seq_k fun K13 k13=>?_
 refine sS H fun K14 k14=>sr 1 rfl<|sE ?_;clear H a;intro a H
 refine k14 _ ?_;clear k14 K14
 refine wp_block ?_
 refine loop_st (X:=Nat×Bool) (R0:=_) [3,4,5,7,9] H rfl (fun ⟨i,th⟩=>[(11,.bool th),(12,.int .i64 (i:Int))]) (fun ⟨i,th⟩=>[]) (fun g ⟨i,th⟩=>i≤ps.length∧g+i=ps.length∧(th=true→∃ q,q<ps.length∧(ps.getD q Psg.zero).kind=3∧(ps.getD q Psg.zero).mach=mc∧¬ out/2^mc.toNat%2=1)) (ps.length) (0,false) ?_ (S.sel [0,1,2,3] G G) (H.keep [11,12,3,4,5,7,9] rfl) ?_
 · exact ⟨by omega,by omega,fun h=>by cases h⟩
 clear H S a
 intro g1 x1 a w1 hp S H K15 k15
 obtain ⟨i,th⟩:=x1
 dsimp only at hp S H
 refine wp_seq_k fun K16 k16=>?_
 refine sS H fun K17 k17=>sr 1 rfl<|sf eF rfl<|sl S 3 fR G G G<|sL gH rfl<|sr 1 rfl<|sE ?_;clear H a;intro a H
 refine k17 _ ?_;clear k17 K17
 refine condL H rfl (fun hc3=>?_) (fun hc3=>?_)
 ·skip
  refine wp_skip ?_
  refine k16 _ _ ?_
  refine wp_seq_k fun K18 k18=>?_
  refine wp_block ?_
  replace H:=H.keep [3,4,5,7,9,11,12] rfl
  replace S:=S.drew
  refine sP H<|sr 2 rfl<|sg 28 1 103 131 false G G (fun hg2=>by
      have hq2:=hg2;try simp only [o1,o2,o3,o4,o5,o6,o7,o8,o9,oa] at hq2
      exact sy hg2<|sf eF rfl<|sy hg2<|sl S 3 fR G G G<|sy hg2<|sr 1 rfl<|sy hg2<|si gH gG G G (hps.adr (by omega)) (by omega)<|sy hg2<|sp dU rfl<|sy hg2<|slm aE rfl (hps.rd S (by omega) (by omega))<|sy hg2<|sr 1 rfl<|sy hg2<|sr 1 rfl<|sg 9 9 111 120 true G G (fun hg10=>by
           have hq10:=hg10;try simp only [o1,o2,o3,o4,o5,o6,o7,o8,o9,oa] at hq10
           exact sy hg10<|sf eF rfl<|sy hg10<|sl S 3 fR G G G<|sy hg10<|sr 1 rfl<|sy hg10<|si gH gG G G (hps.adr (by omega)) (by omega)<|sy hg10<|sp cX rfl<|sy hg10<|slm aE rfl (hps.rd S (by omega) (by omega))<|sy hg10<|sf kQ rfl<|sy hg10<|sl S 1 aE G G G<|sy hg10<|sr 1 rfl<|sz 9 G G G)<|sy hg2<|sa G G G<|sy hg2<|sr 1 rfl<|sg 8 20 122 130 true G G (fun hg21=>by
           have hq21:=hg21;try simp only [o1,o2,o3,o4,o5,o6,o7,o8,o9,oa] at hq21
           have hmm:0≤mc∧mc≤11:=by have h9:=fO hV (show i<ps.length by omega) hq21.1;unfold bA at h9;omega
           exact sy hg21<|sf mF rfl<|sy hg21<|sl S 2 aE G G G<|sy hg21<|sf kQ rfl<|sy hg21<|sl S 1 aE G G G<|sy hg21<|sd (dS Try.underlying3 Try.underlying64 rfl (by first|omega|exact IntWalk.i64_in _ (by omega)|exact IntWalk.u64_in _ (by omega)))<|sy hg21<|sd (gF G G (by omega) (by omega))<|sy hg21<|sd (fB G G)<|sy hg21<|sr 1 rfl<|sz 8 G G G)<|sy hg2<|sa G G G<|sz 13 G G G)<|so G G G<|sr 1 rfl<|sE ?_;clear H a;intro a H
  refine k18 _ _ ?_
  replace H:=H.keep [3,4,5,7,9,11,12] rfl
  refine sO H<|sr 1 rfl<|sd (aH G G (by unfold i64ok;omega))<|sr 1 rfl<|sE ?_;clear H a;intro a H
  exact k15 (g1-1) (i+1,_) a _ (by omega) (⟨by omega,by omega,Ch hp.2.2 (show i<ps.length by omega)⟩) (S.sel [0,1,2,3] G G) (H.keep [11,12,3,4,5,7,9] rfl)
 refine wp_exit ?_
 refine k13 _ _ ?_
 refine wp_seq_k fun K21 k21=>?_
 refine sS H fun K22 k22=>sr 2 rfl<|sE ?_;clear H a;intro a H
 refine k22 _ ?_;clear k22 K22
 refine cond_ H rfl (fun hc4=>?_) (fun hc4=>?_)
 ·skip
  try simp only [o1,o2,o3,o4,o5,o6,o7,o8,o9,oa] at hc4
  refine seq_list fun K23 k23=>?_
  refine aA H G G Try.func7 G G (dD _) ?_;clear H a
  rintro _ _ a ⟨rfl,S2⟩ H
  replace S:=S.call S2;clear S2
  refine ls 1 H<|sr 1 rfl<|sE ?_;clear H a;intro a H
  refine k23 _ _ ?_;clear k23 K23
  refine wp_ret ?_
  refine ret1 (fn:=Try.f4) rfl H rfl ?_
  exact ⟨rfl,(S.sel [] G G)⟩
 try simp only [o1,o2,o3,o4,o5,o6,o7,o8,o9,oa] at hc4
 obtain ⟨q9,hq9,hk9,hmc9,hb9⟩:=hp.2.2 hc4
 have hmm:0≤mc∧mc≤11:=by have h9:=fO hV hq9 hk9;unfold bA at h9;omega
 refine wp_skip ?_
 refine k21 _ _ ?_
 replace H:=H.keep [3,4,5,7,9] rfl
 refine sS H fun K24 k24=>sf mF rfl<|sl S 2 aE G G G<|sr 3 rfl<|sE ?_;clear H a;intro a H
 refine k24 _ ?_;clear k24 K24
 have SR:=(S.sel [0,1,2,3] G G)
 refine meet_sr (X:=Int) [3,4,5,7,9,14,15] H rfl (fun o2=>[(13,.int .i64 o2)]) (fun o2=>[]) (fun o2=>(rb=true→o2=out)∧(rb=false→o2=out+2^mc.toNat)) SR (fun K26 k26=>?_) ?_
 ·skip
  refine sS H fun K27 k27=>sr 2 rfl<|sE ?_;clear H a;intro a H
  refine k27 _ ?_;clear k27 K27
  refine cond_ H rfl (fun hc5=>?_) (fun hc5=>?_)
  ·skip
   try simp only [o1,o2,o3,o4,o5,o6,o7,o8,o9,oa] at hc5
   have hpw:=Aa hmm
   replace H:=H.keep [3,4,5,7,9,13,14,15] rfl
   refine sO H<|sr 1 rfl<|sf kQ rfl<|sl S 1 aE G G G<|sd (dS Try.underlying3 Try.underlying64 rfl (by first|omega|exact IntWalk.i64_in _ (by omega)|exact IntWalk.u64_in _ (by omega)))<|sd (eB G G (by omega) (by omega) (by unfold i64ok;omega))<|sd (qY G G hou (by omega) (bit01 hb9))<|sr 1 rfl<|sE ?_;clear H a;intro a H
   exact k26 _ a _ (⟨(fun h=>by rw [hc5] at h;cases h),fun _=>rfl⟩) (S.sel [0,1,2,3] G G) (H.keep [13,3,4,5,7,9,14,15] rfl)
  try simp only [o1,o2,o3,o4,o5,o6,o7,o8,o9,oa] at hc5
  refine wp_skip ?_
  exact k26 _ a _ (⟨fun _=>rfl,(fun h=>by rw [hc5] at h;cases h)⟩) (S.sel [0,1,2,3] G G) (H.keep [13,3,4,5,7,9,14,15] rfl)
 clear SR H S a
 intro xm a wm hp S H
 obtain ⟨o2,rfl⟩:∃ y,y=xm:=⟨_,rfl⟩
 have hbr:=Cg hou hmm hb9 hp.1 hp.2
 obtain ⟨ho1,ho2⟩:=hp
 refine wp_seq_k fun K29 k29=>?_
 refine sS H fun K30 k30=>sr 1 rfl<|sE ?_;clear H a;intro a H
 refine k30 _ ?_;clear k30 K30
 refine wp_block ?_
 refine loop_st (X:=Nat×Bool) (R0:=_) [3,4,5,7,9,13,15] H rfl (fun ⟨k,nb⟩=>[(14,.bool nb),(16,.int .i64 (k:Int))]) (fun ⟨k,nb⟩=>[]) (fun g ⟨k,nb⟩=>k≤mu.length∧g+k=mu.length∧(nb=true↔∃ j,j<k∧((mu.getD j 0:Nat):Int)=mc)) (mu.length) (0,false) ?_ (S.sel [0,1,2,3] G G) (H.keep [14,16,3,4,5,7,9,13,15] rfl) ?_
 · exact ⟨by omega,by omega,(fun h=>by cases h),fun ⟨j,hj,_⟩=>absurd hj (Nat.not_lt_zero j)⟩
 clear H S a
 intro g2 x2 a w2 hp S H K31 k31
 obtain ⟨k,nb⟩:=x2
 dsimp only at hp S H
 obtain ⟨hkl,hgk,hnb⟩:=hp
 refine wp_seq_k fun K32 k32=>?_
 refine sS H fun K33 k33=>sr 2 rfl<|sL aM rfl<|sr 1 rfl<|sE ?_;clear H a;intro a H
 refine k33 _ ?_;clear k33 K33
 refine condL H rfl (fun hc6=>?_) (fun hc6=>?_)
 ·skip
  refine wp_skip ?_
  refine k32 _ _ ?_
  refine wp_seq_k fun K34 k34=>?_
  refine wp_block ?_
  cases nb
  ·skip
   replace H:=H.keep [3,4,5,7,9,13,14,15,16] rfl
   replace S:=S.drew
   refine sP H<|sr 2 rfl<|sg 7 1 153 160 false G G (fun hg2=>by
       have hq2:=hg2;try simp only [o1,o2,o3,o4,o5,o6,o7,o8,o9,oa] at hq2
       exact sy hg2<|sr 1 rfl<|sy hg2<|sr 1 rfl<|sy hg2<|si aM bC G G (ownM.adr S (i:=0) rfl (by omega)) (by omega)<|sy hg2<|slm aE rfl (ownM.rd S (i:=0) rfl (by omega) (by omega))<|sy hg2<|sf kQ rfl<|sy hg2<|sl S 1 aE G G G<|sy hg2<|sr 1 rfl<|sz 7 G G G)<|so G G G<|sr 1 rfl<|sE ?_;clear H a;intro a H
   refine k34 _ _ ?_
   replace H:=H.keep [3,4,5,7,9,13,14,15,16] rfl
   refine sO H<|sr 1 rfl<|sd (aH G G (by unfold i64ok;omega))<|sr 1 rfl<|sE ?_;clear H a;intro a H
   exact k31 (g2-1) (k+1,_) a _ (by omega) (⟨by omega,by omega,by first|exact Es hnb|exact Et hnb⟩) (S.sel [0,1,2,3] G G) (H.keep [14,16,3,4,5,7,9,13,15] rfl)
  replace H:=H.keep [3,4,5,7,9,13,14,15,16] rfl
  replace S:=S.drew
  refine sP H<|sr 2 rfl<|sg 7 1 153 160 false G G (fun hg2=>by
      have hq2:=hg2;try simp only [o1,o2,o3,o4,o5,o6,o7,o8,o9,oa] at hq2
      exact sy hg2<|sr 1 rfl<|sy hg2<|sr 1 rfl<|sy hg2<|si aM bC G G (ownM.adr S (i:=0) rfl (by omega)) (by omega)<|sy hg2<|slm aE rfl (ownM.rd S (i:=0) rfl (by omega) (by omega))<|sy hg2<|sf kQ rfl<|sy hg2<|sl S 1 aE G G G<|sy hg2<|sr 1 rfl<|sz 7 G G G)<|so G G G<|sr 1 rfl<|sE ?_;clear H a;intro a H
  refine k34 _ _ ?_
  replace H:=H.keep [3,4,5,7,9,13,14,15,16] rfl
  refine sO H<|sr 1 rfl<|sd (aH G G (by unfold i64ok;omega))<|sr 1 rfl<|sE ?_;clear H a;intro a H
  exact k31 (g2-1) (k+1,_) a _ (by omega) (⟨by omega,by omega,by first|exact Es hnb|exact Et hnb⟩) (S.sel [0,1,2,3] G G) (H.keep [14,16,3,4,5,7,9,13,15] rfl)
 refine wp_exit ?_
 refine k29 _ _ ?_
 refine wp_seq_k fun K39 k39=>?_
 obtain rfl:k=mu.length:=by omega
 refine sS H fun K40 k40=>sr 1 rfl<|sE ?_;clear H a;intro a H
 refine k40 _ ?_;clear k40 K40
 refine wp_block ?_
 rw [show (0:Int)=sumI pe 0 from rfl] at H
 refine loop_st (X:=Nat) (R0:=_) [3,4,9,13,14] H rfl (fun q=>[(15,.int .i64 (sumI pe q)),(17,.int .i64 (q:Int))]) (fun q=>[]) (fun g q=>q≤pe.length∧g+q=pe.length) (pe.length) 0 ?_ (S.sel [0,1,2,3] G G) (H.keep [15,17,3,4,9,13,14] rfl) ?_
 · exact ⟨by omega,by omega⟩
 clear H S a
 intro g3 x3 a w3 hp S H K41 k41
 obtain ⟨q,rfl⟩:∃ y,y=x3:=⟨_,rfl⟩
 refine wp_seq_k fun K42 k42=>?_
 refine sS H fun K43 k43=>sr 1 rfl<|sf jL rfl<|sl S 2 aW G G G<|sL aM rfl<|sr 1 rfl<|sE ?_;clear H a;intro a H
 refine k43 _ ?_;clear k43 K43
 refine condL H rfl (fun hc7=>?_) (fun hc7=>?_)
 ·skip
  refine wp_skip ?_
  refine k42 _ _ ?_
  refine wp_seq_k fun K44 k44=>?_
  refine wp_block ?_
  have hsb:=qD hpp q (by omega)
  have hpi2:=hpp q (by omega)
  replace H:=H.keep [3,4,9,13,14,15,17] rfl
  refine sO H<|sr 1 rfl<|sf jL rfl<|sl S 2 aW G G G<|sr 1 rfl<|si aM bC G G (hpe.adr (by omega)) (by omega)<|slm aE rfl (hpe.rd S (by omega) (by omega))<|sd (aH G G (by unfold i64ok;omega))<|sr 1 rfl<|sE ?_;clear H a;intro a H
  refine k44 _ _ ?_
  replace H:=H.keep [3,4,9,13,14,15,17] rfl
  refine sO H<|sr 1 rfl<|sd (aH G G (by unfold i64ok;omega))<|sr 1 rfl<|sE ?_;clear H a;intro a H
  exact k41 (g3-1) (q+1) a _ (by omega) (⟨by omega,by omega⟩) (S.sel [0,1,2,3] G G) (H.keep [15,17,3,4,9,13,14] rfl)
 refine wp_exit ?_
 refine k39 _ _ ?_
 obtain rfl:q=pe.length:=by omega
 replace H:=H.keep [3,4,9,13,14,15] rfl
 refine seq_list fun K47 k47=>?_
 refine ls 6 H<|sd ((aD dP fM rfl S (i:=3) G G))<|sr 1 rfl<|sf jL rfl<|sl S 2 aW G G G<|sf mG rfl<|sl S 2 aE G G G<|sE ?_;clear H a;intro a H
 refine aA H G G Try.func18 G G (Do P ps PA pc xs XA xc o2 pe BA bc T _ (hps.now S) hpn (hxs.now S) hxn (hpe.now S) hpen (wZ hlv hbr)) ?_;clear H a
 rintro _ _ a ⟨rfl,S2⟩ H
 replace S:=S.call S2;clear S2
 refine ls 5 H<|sr 5 rfl<|sE ?_;clear H a;intro a H
 refine k47 _ _ ?_;clear k47 K47
 cases rb
 ·skip
  have hfin:=sJ hV hq9 hm0.2.2 hk9 hmc9 hb9 hm0.2.1 hnb ho1 ho2
  replace H:=H.keep [9,14,15,18,19] rfl
  refine seq_list fun K48 k48=>?_
  refine ls 14 H<|sr 1 rfl<|sd (oB G G G)<|sr 1 rfl<|sy rfl<|sr 1 rfl<|sy rfl<|sr 1 rfl<|sy rfl<|sr 1 rfl<|sy rfl<|sr 1 rfl<|sy rfl<|sr 1 rfl<|sy rfl<|sr 1 rfl<|sy rfl<|sr 1 rfl<|sy rfl<|so G G G<|sy rfl<|sd ((lH Try.underlying4 G G).to (v' := .bool true) (congrArg Value.bool hfin))<|sa G G G<|sr 1 rfl<|sE ?_;clear H a;intro a H
  refine aX H G G ?_
  refine aA H G G Try.func7 G G (dD _) ?_;clear H a
  rintro _ _ a ⟨rfl,S2⟩ H
  replace S:=S.call S2;clear S2
  refine ls 2 H<|sa G G G<|sr 1 rfl<|sE ?_;clear H a;intro a H
  refine k48 _ _ ?_;clear k48 K48
  refine wp_ret ?_
  refine ret1 (fn:=Try.f4) rfl H rfl ?_
  exact ⟨rfl,(S.sel [] G G)⟩
 have hfin:=sJ hV hq9 hm0.2.2 hk9 hmc9 hb9 hm0.2.1 hnb ho1 ho2
 replace H:=H.keep [9,14,15,18,19] rfl
 refine seq_list fun K49 k49=>?_
 refine ls 14 H<|sr 1 rfl<|sd (oB G G G)<|sr 1 rfl<|sy rfl<|sr 1 rfl<|sy rfl<|sr 1 rfl<|sy rfl<|sr 1 rfl<|sy rfl<|sr 1 rfl<|sy rfl<|sr 1 rfl<|sn G G G<|sn G G G<|sy rfl<|sd ((aR G G G))<|sy rfl<|sd ((lH Try.underlying4 G G).to (v' := .bool true) (congrArg Value.bool hfin))<|sa G G G<|sr 1 rfl<|sE ?_;clear H a;intro a H
 refine aX H G G ?_
 refine aA H G G Try.func7 G G (dD _) ?_;clear H a
 rintro _ _ a ⟨rfl,S2⟩ H
 replace S:=S.call S2;clear S2
 refine ls 2 H<|sa G G G<|sr 1 rfl<|sE ?_;clear H a;intro a H
 refine k49 _ _ ?_;clear k49 K49
 refine wp_ret ?_
 refine ret1 (fn:=Try.f4) rfl H rfl ?_
 exact ⟨rfl,(S.sel [] G G)⟩
theorem qI {B:Nat} (pl:Int) (ps:List Psg) (PA:Option Addr) (pc:Nat) (xs:List Int) (XA:Option Addr) (xc:Nat) (out:Int) (pe:List Int) (BA:Option Addr) (bc:Nat) (T0 mc ha cl op:Int) (hz:Int) (sw:List Int) (SA:Option Addr) (scp:Nat) (wl:List Wq) (QA:Option Addr) (qc:Nat) (w:World) (hps:InS w noF 7 PA ps.length (pcell ps)) (hpn8:56*ps.length≤140737488355328) (hxs:InS w noF 1 XA xs.length (icl xs)) (hxn8:8*xs.length≤140737488355328) (hpe:InS w noF 1 BA pe.length (icl pe)) (hpe8:8*pe.length≤140737488355328) (hsw:InS w noF 1 SA sw.length (icl sw)) (hsw8:8*sw.length≤140737488355328) (hwl:InS w noF 2 QA wl.length (kF wl)) (hwl8:32*wl.length≤140737488355328) (hdd:∀ k,k<wl.length→InS w noF 1 (wl.getD k Wq.zero).A (wl.getD k Wq.zero).of.length (icl (wl.getD k Wq.zero).of)∧(wl.getD k Wq.zero).of.length*8≤140737488351232∧(wl.getD k Wq.zero).of.length≤B) :
    Calls Try.prog 4 [.agg [.int .i64 pl,.slice PA ps.length pc,.slice XA xs.length xc].toArray,.agg [.int .i64 out,.slice BA pe.length bc,.int .i64 T0].toArray,.agg [.int .i64 mc,.int .i64 ha,.int .i64 cl,.int .i64 op,.int .i64 hz,.slice SA sw.length scp,.slice QA wl.length qc].toArray].toArray w (Ret fun u w'=>u = .bool true∧St w noF [] w'):=by
  have h:=nZ pl ps PA pc xs XA xc out pe BA bc T0 mc ha cl op hz sw SA scp (wl.map Wq.w) QA qc (fun k=>(wl.getD k Wq.zero).A) (fun k=>(wl.getD k Wq.zero).c) w hps hpn8 hxs hxn8 hpe hpe8 hsw (by rw [List.length_map,←xA];exact hwl) (fun k hk=>by rw [List.length_map] at hk;rw [Dp];exact (hdd k hk).1) hsw8 (by rw [List.length_map];exact hwl8) (fun k hk=>by rw [List.length_map] at hk;rw [Dp];have:=(hdd k hk).2.1;show 8*(wl.getD k Wq.zero).of.length≤_;omega)
  rw [List.length_map] at h
  exact h
end
section
open Go.ChangeShapes Go.WideShapes Go.ChangeAt Go.Deep Go.Joins
section
variable {H:Type} {enc:TypeId×Value→H} {P:Program}
theorem sK {f:Func} {s:ChangeSpec} {apart fresh handsOn again:Bool} {W W':World} {args:Array Value} {v:Value} {ds gs:List (DataW H)} {before pa pv:List MemPlace}
    (hW:DataW.Whole enc P f.params.toList s.vars apart W args.toList ds gs before)
    (hres:∀ (b:Nat) (sp:Nat→Bool) (hd:Bool),DataW.TrodAll enc P W' b sp hd f.resultTypes.toList (v.resultList f.resultTypes.size) (s.fn H (ds++gs)).results [])
    (hargs:∀ sp:Nat→Bool,(∀ p ∈ before,sp p.block=true)→DataW.TrodAll enc P W' 0 sp true f.params.toList args.toList (s.fn H (ds++gs)).args pa)
    (hvars:∀ sp:Nat→Bool,(∀ p ∈ before,sp p.block=true)→DataW.TrodVars enc P W' sp s.vars (s.fn H (ds++gs)).vars pv)
    (hps:before=pa++pv) (hk:W.keptBut W' (· ∈ before)) (hfz:∀ a:Addr,a.block<W.heap.size→W'.frozen? a=W.frozen? a)
    (hok:∀ (j:Nat) (t:TypeId) (r:Value),f.resultTypes[j]?=some t→(v.resultList f.resultTypes.size)[j]?=some r→Value.okWide P W' .any 0 t r) :
    s.post enc P f apart fresh handsOn again W args v W':=by
  have hold:∀ p ∈ before,(fun b=>decide (b<W.heap.size)) p.block=true:=fun p hp=>by simpa using hW.lt p hp
  have hlt:=hW.lt
  refine ⟨ds,gs,before,[],pa,pv,hW,hres _ _ _,hargs _ hold,hvars _ hold,World.keptBut_mono (fun p hp=>⟨hp,?_⟩) hk,fun _=>?_⟩
  · rw [hps,List.mem_append] at hp
    exact Or.inr hp
  · obtain ⟨_,_,_,_,_,hz,hn⟩:=hW
    refine ⟨hok,_,_,([]++pa)++pv,⟨[]++pa,pv,trodAll_append (hargs _ (fun _ _=>rfl)) (hres _ _ _),hvars _ (fun _ _=>rfl),rfl,?_,?_⟩,?_⟩
    · intro b off hp
      have hb:MemPlace.cell b off ∈ before:=by rw [hps];simpa using hp
      rw [hfz _ (hlt _ hb)]
      exact hz b off hb
    · intro ha
      have:=hn ha
      rw [hps] at this
      simpa using this
    · intro p hp _
      rw [hps]
      simpa using hp
end
theorem St.same {w w':World} {R:List Mem} (S:St w noF R w') {k:Nat} (hk:k<w.heap.size):w'.heap[k]?=w.heap[k]?:=S.ro k hk (fun h=>h)
theorem St.kept {w w':World} {R:List Mem} (S:St w noF R w') (may:MemPlace→Prop):w.keptBut w' may:=by
  refine ⟨S.os,S.out,fun i hi=>?_⟩
  rw [S.same hi]
  cases w.heap[i]? with
  | none=>trivial
  | some o=>
    cases o with
    | cells c t fr=>exact ⟨rfl,rfl,rfl,fun _ _=>rfl⟩
    | map es c=>exact .inr ⟨rfl,rfl⟩
    | _=>rfl
theorem St.frozen {w w':World} {R:List Mem} (S:St w noF R w') (a:Addr) (ha:a.block<w.heap.size):w'.frozen? a=w.frozen? a:=World.frozen?_of_block (S.same ha)
theorem St.sameAt {w w':World} {R:List Mem} (S:St w noF R w') (p:MemPlace) (hp:p.block<w.heap.size):w.sameAt w' p:=by
  cases p with
  | cell b off=>exact World.cell?_of_block (S.same hp)
  | map b=>exact S.same hp
theorem Ah:ownKnob Try.prog.godebug=none:=by kernel_rfl
theorem lR:laidOutB Try.prog=true:=by kernel_rfl
theorem Ai {w:World} {a:Addr} {v:Value} (h:w.cell? a=some v):a.spot=none∧a.block<w.heap.size:=by
  have hc:=h
  unfold World.cell? at hc
  split at hc
  · rename_i c t fr hb
    split at hc
    · cases hc
    · rename_i hs
      refine ⟨?_,dO hb⟩
      cases hq:a.spot with
      | none=>rfl
      | some x=>simp [hq] at hs
  · cases hc
theorem qJ {w:World} {α:Type} {sz len:Nat} {a:Addr} (hsz:0<sz) (cell:α→Nat→Value) (zero:α) (Q:α→Prop) (h:∀ i,i<len→∃ g:α,(∀ j,j<sz→w.cell? ((a.add (i*sz)).add j)=some (cell g j))∧Q g) :
    ∃ l:List α,l.length=len∧InS w noF sz (some a) len (fun k j=>cell (l.getD k zero) j)∧∀ k,k<len→Q (l.getD k zero):=by
  classical
  obtain ⟨ab,ao,asp⟩:=a
  refine ⟨(List.range len).map fun i=>if h':i<len then Classical.choose (h i h') else zero,by simp,fun h0=>?_,fun k hk=>?_⟩
  · obtain ⟨g0,hg0,_⟩:=h 0 h0
    have h00:=hg0 0 hsz
    rw [show ((⟨ab,ao,asp⟩:Addr).add (0*sz)).add 0=⟨ab,ao,asp⟩ by simp [Addr.add]] at h00
    obtain ⟨hsp,hlt⟩:=Ai h00
    dsimp only at hsp hlt
    subst hsp
    refine ⟨ab,ao,rfl,hlt,fun h=>h,fun k j hk hj=>?_⟩
    have:=(Classical.choose_spec (h k hk)).1 j hj
    simp only [List.getD_eq_getElem?_getD,List.getElem?_map,List.getElem?_range hk,Option.map_some,Option.getD_some,dif_pos hk]
    have e:((⟨ab,ao,none⟩:Addr).add (k*sz)).add j=⟨ab,ao+k*sz+j,none⟩:=by rw [eM,eM]
    exact (congrArg w.cell? e).symm.trans this
  · simp only [List.getD_eq_getElem?_getD,List.getElem?_map,List.getElem?_range hk,Option.map_some,Option.getD_some,dif_pos hk]
    exact (Classical.choose_spec (h k hk)).2
theorem Aj {H:Type} (d:DataW H):1≤Rows.uptoBulk d:=by
  cases d with
  | lit v=>cases v <;> simp only [Rows.uptoBulk] <;> omega
  | _=>simp only [Rows.uptoBulk] <;> omega
theorem Ak {H:Type}:∀ (ds:List (DataW H)),ds.length≤Rows.uptoBulkAll ds:=by
  intro ds
  induction ds with
  | nil=>exact Nat.zero_le _
  | cons d ds ih=>have:=Aj d;simp only [Rows.uptoBulkAll,List.length_cons];omega
theorem sM {H:Type} {d:DataW H}:∀ {ds:List (DataW H)},d ∈ ds→Rows.uptoBulk d≤Rows.uptoBulkAll ds:=by
  intro ds
  induction ds with
  | nil=>intro h;cases h
  | cons e ds ih=>
    intro h
    simp only [Rows.uptoBulkAll]
    rcases List.mem_cons.1 h with rfl|h
    · omega
    · have:=ih h;omega
theorem Ci {H:Type} {P:Program} {e:TypeId} {d:DataW H} {n:Nat}:∀ {ds:List (DataW H)},d ∈ ds→n ∈ d.weights P e→n ∈ DataW.weightsAll P e ds:=by
  intro ds
  induction ds with
  | nil=>intro h;cases h
  | cons f ds ih=>
    intro h hn
    simp only [DataW.weightsAll,List.mem_append]
    rcases List.mem_cons.1 h with rfl|h
    · exact .inl hn
    · exact .inr (ih h hn)
def Fits {H:Type} (P:Program) (t:TypeId) (B:Nat) (d:DataW H):Prop:=(B≤1048576∨∀ n ∈ d.weights P t,n≤reachBytes)∧Rows.uptoBulk d≤B
theorem kG {H:Type} {P:Program} {t e B b:Nat} {elems spare:List (DataW H)} (hu:P.underlying t=some (.slice e)) (hb:P.bytesOf e=b) (hb':b≤1000) (h:Fits P t B (.slice elems spare)):elems.length*b≤140737488351232∧elems.length≤B∧∀ d ∈ elems,Fits P e B d:=by
  obtain ⟨h1,h2⟩:=h
  simp only [Rows.uptoBulk] at h2
  have h4:=Ak elems
  have h5:∀ d ∈ elems,Rows.uptoBulk d≤B:=fun d hd=>by have:=sM hd;omega
  rcases h1 with h1|h1
  · refine ⟨?_,by omega,fun d hd=>⟨.inl h1,h5 d hd⟩⟩
    have:elems.length*b≤1048576*1000:=Nat.mul_le_mul (by omega) hb'
    omega
  · simp only [DataW.weights,hu,List.mem_cons,List.mem_append] at h1
    have h3:=h1 _ (.inl rfl)
    rw [hb,Nat.add_mul] at h3
    unfold reachBytes at h3
    exact ⟨by omega,by omega,fun d hd=>⟨.inr fun n hn=>h1 n (.inr (.inl (Ci hd hn))),h5 d hd⟩⟩
theorem fG {H:Type} {P:Program} {t B i u:Nat} {fs:Array Field} {parts:List (DataW H)} {d:DataW H} (hu:P.underlying t=some (.struct fs)) (ht:(fs.toList.map (·.type))[i]?=some u) (hd:parts[i]?=some d) (h:Fits P t B (.agg parts)):Fits P u B d:=by
  obtain ⟨h1,h2⟩:=h
  simp only [Rows.uptoBulk] at h2
  have:=sM (List.mem_of_getElem? hd)
  refine ⟨h1.imp (fun h=>h) fun h1=>?_,by omega⟩
  simp only [DataW.weights,hu] at h1
  exact fun n hn=>h1 n (DataW.weights_mem_each ht hd n hn)
theorem Cj {p:Nat→Prop} (h0:p 0):∀ j,j<1→p j:=by
  intro j hj
  match j,hj with
  | 0,_=>exact h0
theorem Ck {p:Nat→Prop} (h0:p 0) (h1:p 1):∀ j,j<2→p j:=by
  intro j hj
  match j,hj with
  | 0,_=>exact h0
  | 1,_=>exact h1
theorem Cl {p:Nat→Prop} (h0:p 0) (h1:p 1) (h2:p 2) (h3:p 3) (h4:p 4) (h5:p 5) (h6:p 6):∀ j,j<7→p j:=by
  intro j hj
  match j,hj with
  | 0,_=>exact h0
  | 1,_=>exact h1
  | 2,_=>exact h2
  | 3,_=>exact h3
  | 4,_=>exact h4
  | 5,_=>exact h5
  | 6,_=>exact h6
set_option maxRecDepth 100000 in
theorem fP {H:Type} {enc:TypeId×Value→H} {w:World} {fuel:Nat} {spare:Nat→Bool} {held:Bool} {cs:List Value} {x:DataW H×List MemPlace} (h:DataW.trod enc Try.prog w 0 spare held fuel 3 cs=some x):∃ n0:Int,cs=[.int .i64 n0]:=by
  obtain ⟨n,e,_,_⟩:=DataW.trod_int Try.underlying3 h
  exact ⟨n,by simpa using e⟩
theorem Al:Try.prog.cellsOf 63=7:=by kernel_rfl
theorem fQ:Try.prog.cellsOf 3=1:=by kernel_rfl
set_option maxRecDepth 100000 in
theorem Dq {H:Type} {enc:TypeId×Value→H} {w:World} {fuel:Nat} {spare:Nat→Bool} {held:Bool} {cs:List Value} {x:DataW H×List MemPlace} (h:DataW.trod enc Try.prog w 0 spare held fuel 63 cs=some x):∃ n0:Int,∃ n1:Int,∃ n2:Int,∃ n3:Int,∃ n4:Int,∃ n5:Int,∃ n6:Int,cs=[.int .i64 n0,.int .i64 n1,.int .i64 n2,.int .i64 n3,.int .i64 n4,.int .i64 n5,.int .i64 n6]:=by
  obtain ⟨xs,n,_,hx,hl,hlen,hf⟩:=DataW.trod_struct Try.underlying63 h
  rw [Al] at hl
  match cs,hl with
  | [q0,q1,q2,q3,q4,q5,q6],_=>
    match xs,hlen with
    | [y0,y1,y2,y3,y4,y5,y6],_=>
      have f0:DataW.trod enc Try.prog w 0 spare held n 3 [q0]=some y0:=by have:=hf 0 _ rfl;simpa [fQ] using this
      obtain ⟨p0n0,e0⟩:=fP f0
      cases e0
      have f1:DataW.trod enc Try.prog w 0 spare held n 3 [q1]=some y1:=by have:=hf 1 _ rfl;simpa [fQ] using this
      obtain ⟨p1n0,e1⟩:=fP f1
      cases e1
      have f2:DataW.trod enc Try.prog w 0 spare held n 3 [q2]=some y2:=by have:=hf 2 _ rfl;simpa [fQ] using this
      obtain ⟨p2n0,e2⟩:=fP f2
      cases e2
      have f3:DataW.trod enc Try.prog w 0 spare held n 3 [q3]=some y3:=by have:=hf 3 _ rfl;simpa [fQ] using this
      obtain ⟨p3n0,e3⟩:=fP f3
      cases e3
      have f4:DataW.trod enc Try.prog w 0 spare held n 3 [q4]=some y4:=by have:=hf 4 _ rfl;simpa [fQ] using this
      obtain ⟨p4n0,e4⟩:=fP f4
      cases e4
      have f5:DataW.trod enc Try.prog w 0 spare held n 3 [q5]=some y5:=by have:=hf 5 _ rfl;simpa [fQ] using this
      obtain ⟨p5n0,e5⟩:=fP f5
      cases e5
      have f6:DataW.trod enc Try.prog w 0 spare held n 3 [q6]=some y6:=by have:=hf 6 _ rfl;simpa [fQ] using this
      obtain ⟨p6n0,e6⟩:=fP f6
      cases e6
      exact ⟨p0n0,p1n0,p2n0,p3n0,p4n0,p5n0,p6n0,rfl⟩
theorem Dr:Try.prog.bytesOf 63=56:=by kernel_rfl
set_option maxRecDepth 100000 in
theorem Ds {H:Type} {enc:TypeId×Value→H} {w:World} {fuel:Nat} {spare:Nat→Bool} {held:Bool} {cs:List Value} {x:DataW H×List MemPlace} (h:DataW.trod enc Try.prog w 0 spare held fuel 22 cs=some x) {B:Nat} (hz:Fits Try.prog 22 B x.1):∃ l0:List Psg,∃ A0:Option Addr,∃ c0:Nat,cs=[.slice A0 l0.length c0]∧InS w noF 7 A0 l0.length (pcell l0)∧l0.length*56≤140737488351232∧l0.length≤B:=by
  rcases Go.Deep.open_slice Try.underlying22 h with ⟨hcs,_⟩|⟨a,len',cap',m,n,D,Pl,hcs,_,hlc,hcm,hm,hx,hi⟩
  · subst hcs
    exact ⟨[],none,0,rfl,InS.nil,by decide,Nat.zero_le _⟩
  · subst hcs
    rw [hx] at hz
    obtain ⟨hz1,hz2,hz3⟩:=kG Try.underlying22 Dr (by decide) hz
    rw [List.length_map,List.length_range] at hz1 hz2
    have hmle:len'≤m:=by rw [hm];split <;> omega
    obtain ⟨l,hl,hin,hq⟩:=qJ (w:=w) (a:=a) (len:=len') (sz:=7) (by decide) Psg.cell Psg.zero (fun _=>True) (fun i hil=>by
      obtain ⟨cs',hc,ht⟩:=hi i (by omega)
      rw [Al] at hc
      obtain ⟨_,_,hat⟩:=World.cells?_some hc
      obtain ⟨en0,en1,en2,en3,en4,en5,en6,rfl⟩:=Dq ht
      exact ⟨⟨en0,en1,en2,en3,en4,en5,en6⟩,fun j hj=>by rw [hat j hj];revert j;exact Cl (rfl) (rfl) (rfl) (rfl) (rfl) (rfl) (rfl),trivial⟩)
    subst hl
    exact ⟨l,some a,cap',rfl,hin,hz1,hz2⟩
theorem Eu:Try.prog.bytesOf 3=8:=by kernel_rfl
set_option maxRecDepth 100000 in
theorem qL {H:Type} {enc:TypeId×Value→H} {w:World} {fuel:Nat} {spare:Nat→Bool} {held:Bool} {cs:List Value} {x:DataW H×List MemPlace} (h:DataW.trod enc Try.prog w 0 spare held fuel 23 cs=some x) {B:Nat} (hz:Fits Try.prog 23 B x.1):∃ l0:List Int,∃ A0:Option Addr,∃ c0:Nat,cs=[.slice A0 l0.length c0]∧InS w noF 1 A0 l0.length (icl l0)∧l0.length*8≤140737488351232∧l0.length≤B:=by
  rcases Go.Deep.open_slice Try.underlying23 h with ⟨hcs,_⟩|⟨a,len',cap',m,n,D,Pl,hcs,_,hlc,hcm,hm,hx,hi⟩
  · subst hcs
    exact ⟨[],none,0,rfl,InS.nil,by decide,Nat.zero_le _⟩
  · subst hcs
    rw [hx] at hz
    obtain ⟨hz1,hz2,hz3⟩:=kG Try.underlying23 Eu (by decide) hz
    rw [List.length_map,List.length_range] at hz1 hz2
    have hmle:len'≤m:=by rw [hm];split <;> omega
    obtain ⟨l,hl,hin,hq⟩:=qJ (w:=w) (a:=a) (len:=len') (sz:=1) (by decide) Cr 0 (fun _=>True) (fun i hil=>by
      obtain ⟨cs',hc,ht⟩:=hi i (by omega)
      rw [fQ] at hc
      obtain ⟨_,_,hat⟩:=World.cells?_some hc
      obtain ⟨en0,rfl⟩:=fP ht
      exact ⟨en0,fun j hj=>by rw [hat j hj];revert j;exact Cj (rfl),trivial⟩)
    subst hl
    exact ⟨l,some a,cap',rfl,hin,hz1,hz2⟩
theorem Dt:Try.prog.cellsOf 25=3:=by kernel_rfl
theorem Du:Try.prog.cellsOf 22=1:=by kernel_rfl
theorem qM:Try.prog.cellsOf 23=1:=by kernel_rfl
set_option maxRecDepth 100000 in
theorem Dv {H:Type} {enc:TypeId×Value→H} {w:World} {fuel:Nat} {spare:Nat→Bool} {held:Bool} {cs:List Value} {x:DataW H×List MemPlace} (h:DataW.trod enc Try.prog w 0 spare held fuel 25 cs=some x) {B:Nat} (hz:Fits Try.prog 25 B x.1):∃ n0:Int,∃ l1:List Psg,∃ A1:Option Addr,∃ c1:Nat,∃ l2:List Int,∃ A2:Option Addr,∃ c2:Nat,cs=[.int .i64 n0,.slice A1 l1.length c1,.slice A2 l2.length c2]∧InS w noF 7 A1 l1.length (pcell l1)∧l1.length*56≤140737488351232∧l1.length≤B∧InS w noF 1 A2 l2.length (icl l2)∧l2.length*8≤140737488351232∧l2.length≤B:=by
  obtain ⟨xs,n,_,hx,hl,hlen,hf⟩:=DataW.trod_struct Try.underlying25 h
  rw [Dt] at hl
  match cs,hl with
  | [q0,q1,q2],_=>
    match xs,hlen with
    | [y0,y1,y2],_=>
      have f0:DataW.trod enc Try.prog w 0 spare held n 3 [q0]=some y0:=by have:=hf 0 _ rfl;simpa [fQ] using this
      obtain ⟨p0n0,e0⟩:=fP f0
      cases e0
      have f1:DataW.trod enc Try.prog w 0 spare held n 22 [q1]=some y1:=by have:=hf 1 _ rfl;simpa [Du] using this
      have g1:=fG (i:=1) (u:=22) (d:=y1.1) Try.underlying25 G G (by rw [hx] at hz;exact hz)
      obtain ⟨p1l0,p1A0,p1c0,e1,p1f0,p1f1,p1f2⟩:=Ds f1 g1
      cases e1
      have f2:DataW.trod enc Try.prog w 0 spare held n 23 [q2]=some y2:=by have:=hf 2 _ rfl;simpa [qM] using this
      have g2:=fG (i:=2) (u:=23) (d:=y2.1) Try.underlying25 G G (by rw [hx] at hz;exact hz)
      obtain ⟨p2l0,p2A0,p2c0,e2,p2f0,p2f1,p2f2⟩:=qL f2 g2
      cases e2
      exact ⟨p0n0,p1l0,p1A0,p1c0,p2l0,p2A0,p2c0,rfl,p1f0,p1f1,p1f2,p2f0,p2f1,p2f2⟩
theorem Dw:Try.prog.cellsOf 48=3:=by kernel_rfl
set_option maxRecDepth 100000 in
theorem Dx {H:Type} {enc:TypeId×Value→H} {w:World} {fuel:Nat} {spare:Nat→Bool} {held:Bool} {cs:List Value} {x:DataW H×List MemPlace} (h:DataW.trod enc Try.prog w 0 spare held fuel 48 cs=some x) {B:Nat} (hz:Fits Try.prog 48 B x.1):∃ n0:Int,∃ l1:List Int,∃ A1:Option Addr,∃ c1:Nat,∃ n2:Int,cs=[.int .i64 n0,.slice A1 l1.length c1,.int .i64 n2]∧InS w noF 1 A1 l1.length (icl l1)∧l1.length*8≤140737488351232∧l1.length≤B:=by
  obtain ⟨xs,n,_,hx,hl,hlen,hf⟩:=DataW.trod_struct Try.underlying48 h
  rw [Dw] at hl
  match cs,hl with
  | [q0,q1,q2],_=>
    match xs,hlen with
    | [y0,y1,y2],_=>
      have f0:DataW.trod enc Try.prog w 0 spare held n 3 [q0]=some y0:=by have:=hf 0 _ rfl;simpa [fQ] using this
      obtain ⟨p0n0,e0⟩:=fP f0
      cases e0
      have f1:DataW.trod enc Try.prog w 0 spare held n 23 [q1]=some y1:=by have:=hf 1 _ rfl;simpa [qM] using this
      have g1:=fG (i:=1) (u:=23) (d:=y1.1) Try.underlying48 G G (by rw [hx] at hz;exact hz)
      obtain ⟨p1l0,p1A0,p1c0,e1,p1f0,p1f1,p1f2⟩:=qL f1 g1
      cases e1
      have f2:DataW.trod enc Try.prog w 0 spare held n 3 [q2]=some y2:=by have:=hf 2 _ rfl;simpa [fQ] using this
      obtain ⟨p2n0,e2⟩:=fP f2
      cases e2
      exact ⟨p0n0,p1l0,p1A0,p1c0,p2n0,rfl,p1f0,p1f1,p1f2⟩
theorem Am:Try.prog.cellsOf 96=2:=by kernel_rfl
set_option maxRecDepth 100000 in
theorem Dy {H:Type} {enc:TypeId×Value→H} {w:World} {fuel:Nat} {spare:Nat→Bool} {held:Bool} {cs:List Value} {x:DataW H×List MemPlace} (h:DataW.trod enc Try.prog w 0 spare held fuel 96 cs=some x) {B:Nat} (hz:Fits Try.prog 96 B x.1):∃ n0:Int,∃ l1:List Int,∃ A1:Option Addr,∃ c1:Nat,cs=[.int .i64 n0,.slice A1 l1.length c1]∧InS w noF 1 A1 l1.length (icl l1)∧l1.length*8≤140737488351232∧l1.length≤B:=by
  obtain ⟨xs,n,_,hx,hl,hlen,hf⟩:=DataW.trod_struct Try.underlying96 h
  rw [Am] at hl
  match cs,hl with
  | [q0,q1],_=>
    match xs,hlen with
    | [y0,y1],_=>
      have f0:DataW.trod enc Try.prog w 0 spare held n 3 [q0]=some y0:=by have:=hf 0 _ rfl;simpa [fQ] using this
      obtain ⟨p0n0,e0⟩:=fP f0
      cases e0
      have f1:DataW.trod enc Try.prog w 0 spare held n 23 [q1]=some y1:=by have:=hf 1 _ rfl;simpa [qM] using this
      have g1:=fG (i:=1) (u:=23) (d:=y1.1) Try.underlying96 G G (by rw [hx] at hz;exact hz)
      obtain ⟨p1l0,p1A0,p1c0,e1,p1f0,p1f1,p1f2⟩:=qL f1 g1
      cases e1
      exact ⟨p0n0,p1l0,p1A0,p1c0,rfl,p1f0,p1f1,p1f2⟩
theorem Dz:Try.prog.bytesOf 96=32:=by kernel_rfl
set_option maxRecDepth 100000 in
theorem Ea {H:Type} {enc:TypeId×Value→H} {w:World} {fuel:Nat} {spare:Nat→Bool} {held:Bool} {cs:List Value} {x:DataW H×List MemPlace} (h:DataW.trod enc Try.prog w 0 spare held fuel 49 cs=some x) {B:Nat} (hz:Fits Try.prog 49 B x.1):∃ l0:List Wq,∃ A0:Option Addr,∃ c0:Nat,cs=[.slice A0 l0.length c0]∧InS w noF 2 A0 l0.length (kF l0)∧l0.length*32≤140737488351232∧l0.length≤B∧(∀ k,k<l0.length→InS w noF 1 (l0.getD k Wq.zero).A (l0.getD k Wq.zero).of.length (icl (l0.getD k Wq.zero).of)∧(l0.getD k Wq.zero).of.length*8≤140737488351232∧(l0.getD k Wq.zero).of.length≤B):=by
  rcases Go.Deep.open_slice Try.underlying49 h with ⟨hcs,_⟩|⟨a,len',cap',m,n,D,Pl,hcs,_,hlc,hcm,hm,hx,hi⟩
  · subst hcs
    exact ⟨[],none,0,rfl,InS.nil,by decide,Nat.zero_le _,fun k hk=>absurd hk (Nat.not_lt_zero _)⟩
  · subst hcs
    rw [hx] at hz
    obtain ⟨hz1,hz2,hz3⟩:=kG Try.underlying49 Dz (by decide) hz
    rw [List.length_map,List.length_range] at hz1 hz2
    have hmle:len'≤m:=by rw [hm];split <;> omega
    obtain ⟨l,hl,hin,hq⟩:=qJ (w:=w) (a:=a) (len:=len') (sz:=2) (by decide) Wq.cell Wq.zero (fun g=>InS w noF 1 g.A g.of.length (icl g.of)∧g.of.length*8≤140737488351232∧g.of.length≤B) (fun i hil=>by
      obtain ⟨cs',hc,ht⟩:=hi i (by omega)
      rw [Am] at hc
      obtain ⟨_,_,hat⟩:=World.cells?_some hc
      obtain ⟨en0,el1,eA1,ec1,rfl,ef0,ef1,ef2⟩:=Dy ht (hz3 _ (List.mem_map.2 ⟨i,List.mem_range.2 hil,rfl⟩))
      exact ⟨⟨en0,el1,eA1,ec1⟩,fun j hj=>by rw [hat j hj];revert j;exact Ck (rfl) (rfl),⟨ef0,ef1,ef2⟩⟩)
    subst hl
    exact ⟨l,some a,cap',rfl,hin,hz1,hz2,hq⟩
theorem An:Try.prog.cellsOf 51=3:=by kernel_rfl
theorem Eb:Try.prog.cellsOf 49=1:=by kernel_rfl
set_option maxRecDepth 100000 in
theorem Ec {H:Type} {enc:TypeId×Value→H} {w:World} {fuel:Nat} {spare:Nat→Bool} {held:Bool} {cs:List Value} {x:DataW H×List MemPlace} (h:DataW.trod enc Try.prog w 0 spare held fuel 51 cs=some x) {B:Nat} (hz:Fits Try.prog 51 B x.1):∃ n0:Int,∃ l1:List Int,∃ A1:Option Addr,∃ c1:Nat,∃ l2:List Wq,∃ A2:Option Addr,∃ c2:Nat,cs=[.int .i64 n0,.slice A1 l1.length c1,.slice A2 l2.length c2]∧InS w noF 1 A1 l1.length (icl l1)∧l1.length*8≤140737488351232∧l1.length≤B∧InS w noF 2 A2 l2.length (kF l2)∧l2.length*32≤140737488351232∧l2.length≤B∧(∀ k,k<l2.length→InS w noF 1 (l2.getD k Wq.zero).A (l2.getD k Wq.zero).of.length (icl (l2.getD k Wq.zero).of)∧(l2.getD k Wq.zero).of.length*8≤140737488351232∧(l2.getD k Wq.zero).of.length≤B):=by
  obtain ⟨xs,n,_,hx,hl,hlen,hf⟩:=DataW.trod_struct Try.underlying51 h
  rw [An] at hl
  match cs,hl with
  | [q0,q1,q2],_=>
    match xs,hlen with
    | [y0,y1,y2],_=>
      have f0:DataW.trod enc Try.prog w 0 spare held n 3 [q0]=some y0:=by have:=hf 0 _ rfl;simpa [fQ] using this
      obtain ⟨p0n0,e0⟩:=fP f0
      cases e0
      have f1:DataW.trod enc Try.prog w 0 spare held n 23 [q1]=some y1:=by have:=hf 1 _ rfl;simpa [qM] using this
      have g1:=fG (i:=1) (u:=23) (d:=y1.1) Try.underlying51 G G (by rw [hx] at hz;exact hz)
      obtain ⟨p1l0,p1A0,p1c0,e1,p1f0,p1f1,p1f2⟩:=qL f1 g1
      cases e1
      have f2:DataW.trod enc Try.prog w 0 spare held n 49 [q2]=some y2:=by have:=hf 2 _ rfl;simpa [Eb] using this
      have g2:=fG (i:=2) (u:=49) (d:=y2.1) Try.underlying51 G G (by rw [hx] at hz;exact hz)
      obtain ⟨p2l0,p2A0,p2c0,e2,p2f0,p2f1,p2f2,p2f3⟩:=Ea f2 g2
      cases e2
      exact ⟨p0n0,p1l0,p1A0,p1c0,p2l0,p2A0,p2c0,rfl,p1f0,p1f1,p1f2,p2f0,p2f1,p2f2,p2f3⟩
theorem Ed:Try.prog.cellsOf 53=7:=by kernel_rfl
set_option maxRecDepth 100000 in
theorem Ee {H:Type} {enc:TypeId×Value→H} {w:World} {fuel:Nat} {spare:Nat→Bool} {held:Bool} {cs:List Value} {x:DataW H×List MemPlace} (h:DataW.trod enc Try.prog w 0 spare held fuel 53 cs=some x) {B:Nat} (hz:Fits Try.prog 53 B x.1):∃ n0:Int,∃ n1:Int,∃ n2:Int,∃ n3:Int,∃ n4:Int,∃ l5:List Int,∃ A5:Option Addr,∃ c5:Nat,∃ l6:List Wq,∃ A6:Option Addr,∃ c6:Nat,cs=[.int .i64 n0,.int .i64 n1,.int .i64 n2,.int .i64 n3,.int .i64 n4,.slice A5 l5.length c5,.slice A6 l6.length c6]∧InS w noF 1 A5 l5.length (icl l5)∧l5.length*8≤140737488351232∧l5.length≤B∧InS w noF 2 A6 l6.length (kF l6)∧l6.length*32≤140737488351232∧l6.length≤B∧(∀ k,k<l6.length→InS w noF 1 (l6.getD k Wq.zero).A (l6.getD k Wq.zero).of.length (icl (l6.getD k Wq.zero).of)∧(l6.getD k Wq.zero).of.length*8≤140737488351232∧(l6.getD k Wq.zero).of.length≤B):=by
  obtain ⟨xs,n,_,hx,hl,hlen,hf⟩:=DataW.trod_struct Try.underlying53 h
  rw [Ed] at hl
  match cs,hl with
  | [q0,q1,q2,q3,q4,q5,q6],_=>
    match xs,hlen with
    | [y0,y1,y2,y3,y4],_=>
      have f0:DataW.trod enc Try.prog w 0 spare held n 3 [q0]=some y0:=by have:=hf 0 _ rfl;simpa [fQ] using this
      obtain ⟨p0n0,e0⟩:=fP f0
      cases e0
      have f1:DataW.trod enc Try.prog w 0 spare held n 3 [q1]=some y1:=by have:=hf 1 _ rfl;simpa [fQ] using this
      obtain ⟨p1n0,e1⟩:=fP f1
      cases e1
      have f2:DataW.trod enc Try.prog w 0 spare held n 3 [q2]=some y2:=by have:=hf 2 _ rfl;simpa [fQ] using this
      obtain ⟨p2n0,e2⟩:=fP f2
      cases e2
      have f3:DataW.trod enc Try.prog w 0 spare held n 3 [q3]=some y3:=by have:=hf 3 _ rfl;simpa [fQ] using this
      obtain ⟨p3n0,e3⟩:=fP f3
      cases e3
      have f4:DataW.trod enc Try.prog w 0 spare held n 51 [q4,q5,q6]=some y4:=by have:=hf 4 _ rfl;simpa [An] using this
      have g4:=fG (i:=4) (u:=51) (d:=y4.1) Try.underlying53 G G (by rw [hx] at hz;exact hz)
      obtain ⟨p4n0,p4l1,p4A1,p4c1,p4l2,p4A2,p4c2,e4,p4f0,p4f1,p4f2,p4f3,p4f4,p4f5,p4f6⟩:=Ec f4 g4
      cases e4
      exact ⟨p0n0,p1n0,p2n0,p3n0,p4n0,p4l1,p4A1,p4c1,p4l2,p4A2,p4c2,rfl,p4f0,p4f1,p4f2,p4f3,p4f4,p4f5,p4f6⟩
set_option maxRecDepth 100000 in
theorem Ef {H:Type} {enc:TypeId×Value→H} {w:World} {r:Reach} {b0:Nat} {v:Value} {d:DataW H} {p:List MemPlace} {sp:Nat→Bool} {hd:Bool} (hv:Value.okWide Try.prog w r b0 25 v) (h:DataW.Trod enc Try.prog w 0 sp hd 25 v d p) {B:Nat} (hz:Fits Try.prog 25 B d):∃ n0:Int,∃ l1:List Psg,∃ A1:Option Addr,∃ c1:Nat,∃ l2:List Int,∃ A2:Option Addr,∃ c2:Nat,v = .agg [.int .i64 n0,.slice A1 l1.length c1,.slice A2 l2.length c2].toArray∧InS w noF 7 A1 l1.length (pcell l1)∧l1.length*56≤140737488351232∧l1.length≤B∧InS w noF 1 A2 l2.length (icl l2)∧l2.length*8≤140737488351232∧l2.length≤B:=by
  obtain ⟨cs,rfl,_⟩:=okWide_struct Try.underlying25 hv
  obtain ⟨fuel,hf⟩:=h
  obtain ⟨n0,l1,A1,c1,l2,A2,c2,e,f0,f1,f2,f3,f4,f5⟩:=Dv hf hz
  have e':cs=[.int .i64 n0,.slice A1 l1.length c1,.slice A2 l2.length c2].toArray:=by rw [←e];simp [Value.cells]
  subst e'
  exact ⟨n0,l1,A1,c1,l2,A2,c2,rfl,f0,f1,f2,f3,f4,f5⟩
set_option maxRecDepth 100000 in
theorem Eh {H:Type} {enc:TypeId×Value→H} {w:World} {r:Reach} {b0:Nat} {v:Value} {d:DataW H} {p:List MemPlace} {sp:Nat→Bool} {hd:Bool} (hv:Value.okWide Try.prog w r b0 48 v) (h:DataW.Trod enc Try.prog w 0 sp hd 48 v d p) {B:Nat} (hz:Fits Try.prog 48 B d):∃ n0:Int,∃ l1:List Int,∃ A1:Option Addr,∃ c1:Nat,∃ n2:Int,v = .agg [.int .i64 n0,.slice A1 l1.length c1,.int .i64 n2].toArray∧InS w noF 1 A1 l1.length (icl l1)∧l1.length*8≤140737488351232∧l1.length≤B:=by
  obtain ⟨cs,rfl,_⟩:=okWide_struct Try.underlying48 hv
  obtain ⟨fuel,hf⟩:=h
  obtain ⟨n0,l1,A1,c1,n2,e,f0,f1,f2⟩:=Dx hf hz
  have e':cs=[.int .i64 n0,.slice A1 l1.length c1,.int .i64 n2].toArray:=by rw [←e];simp [Value.cells]
  subst e'
  exact ⟨n0,l1,A1,c1,n2,rfl,f0,f1,f2⟩
set_option maxRecDepth 100000 in
theorem Ei {H:Type} {enc:TypeId×Value→H} {w:World} {r:Reach} {b0:Nat} {v:Value} {d:DataW H} {p:List MemPlace} {sp:Nat→Bool} {hd:Bool} (hv:Value.okWide Try.prog w r b0 53 v) (h:DataW.Trod enc Try.prog w 0 sp hd 53 v d p) {B:Nat} (hz:Fits Try.prog 53 B d):∃ n0:Int,∃ n1:Int,∃ n2:Int,∃ n3:Int,∃ n4:Int,∃ l5:List Int,∃ A5:Option Addr,∃ c5:Nat,∃ l6:List Wq,∃ A6:Option Addr,∃ c6:Nat,v = .agg [.int .i64 n0,.int .i64 n1,.int .i64 n2,.int .i64 n3,.int .i64 n4,.slice A5 l5.length c5,.slice A6 l6.length c6].toArray∧InS w noF 1 A5 l5.length (icl l5)∧l5.length*8≤140737488351232∧l5.length≤B∧InS w noF 2 A6 l6.length (kF l6)∧l6.length*32≤140737488351232∧l6.length≤B∧(∀ k,k<l6.length→InS w noF 1 (l6.getD k Wq.zero).A (l6.getD k Wq.zero).of.length (icl (l6.getD k Wq.zero).of)∧(l6.getD k Wq.zero).of.length*8≤140737488351232∧(l6.getD k Wq.zero).of.length≤B):=by
  obtain ⟨cs,rfl,_⟩:=okWide_struct Try.underlying53 hv
  obtain ⟨fuel,hf⟩:=h
  obtain ⟨n0,n1,n2,n3,n4,l5,A5,c5,l6,A6,c6,e,f0,f1,f2,f3,f4,f5,f6⟩:=Ee hf hz
  have e':cs=[.int .i64 n0,.int .i64 n1,.int .i64 n2,.int .i64 n3,.int .i64 n4,.slice A5 l5.length c5,.slice A6 l6.length c6].toArray:=by rw [←e];simp [Value.cells]
  subst e'
  exact ⟨n0,n1,n2,n3,n4,l5,A5,c5,l6,A6,c6,rfl,f0,f1,f2,f3,f4,f5,f6⟩
end
end Go.Proofs.Ytoekeohiokcefaa
