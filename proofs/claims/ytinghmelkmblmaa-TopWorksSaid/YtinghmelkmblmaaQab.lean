/- Part 2 of the proof. -/
import Derived.Test.YtinghmelkmblmaaQaa
namespace Go.Proofs.Ytinghmelkmblmaa
open Go.RowKit
set_option linter.unusedVariables false
set_option linter.unusedSimpArgs false
set_option maxRecDepth 100000
set_option maxHeartbeats 4000000
section
theorem oH {l:List Int} {x:Int} {v:Value} (hv:v = .int .i64 x):∀ k j,k<l.length+1→j<1→capp l.length (icl l) (fun k' j=>([[v]].getD k' []).getD j undef) k j=icl (l++[x]) k j:=by
  subst hv
  intro k j hk hj
  unfold capp icl
  by_cases h:k<l.length
  · rw [if_pos h]
    simp only [List.getD_eq_getElem?_getD,List.getElem?_append_left h]
  · rw [if_neg h]
    obtain rfl:k=l.length:=by omega
    obtain rfl:j=0:=by omega
    simp
theorem pwc {h:Nat} (hh:h<12):0≤(1:Int)*2^(h:Int).toNat∧(1:Int)*2^(h:Int).toNat≤2048:=by
  rw [Int.toNat_natCast,Int.one_mul]
  have h8:2^h≤2048:=Nat.le_trans (Nat.pow_le_pow_right (by omega) (show h≤11 by omega)) (by decide)
  have e:(2:Int)^h=((2^h:Nat):Int):=(Int.natCast_pow 2 h).symm
  rw [e]
  exact ⟨Int.natCast_nonneg _,Int.ofNat_le.2 h8⟩
def wkN (hz:Int) (sw:List Int) (ws:List Wr) (cl:Int):Nat→List Int
  | 0=>[]
  | h+1=>if wireB sw ws (1*2^(h:Int).toNat) cl 0 ws.length (Int.toNat 0)=true then wkN hz sw ws cl h++[(h:Int)] else wkN hz sw ws cl h
theorem nN {hz cl:Int} {sw:List Int} {ws:List Wr}:∀ h,(wkN hz sw ws cl h).length≤h:=fun h=>by
  induction h with
  | zero=>exact Nat.le_refl _
  | succ h ih=>rw [wkN];split <;> (try rw [List.length_append,List.length_singleton]) <;> omega
def critN (hz:Int) (sw:List Int) (ws:List Wr):Nat→List Int
  | 0=>[]
  | s+1=>if 0<(wkN hz sw ws (1*2^(s:Int).toNat) hz.toNat).length then critN hz sw ws s++[(s:Int)] else critN hz sw ws s
theorem qC {hz:Int} {sw:List Int} {ws:List Wr}:∀ h,(critN hz sw ws h).length≤h:=fun h=>by
  induction h with
  | zero=>exact Nat.le_refl _
  | succ h ih=>rw [critN];split <;> (try rw [List.length_append,List.length_singleton]) <;> omega
theorem one {p:Nat→Prop} (h0:p 0):∀ j,j<1→p j:=by
  intro j hj
  have:j=0:=by omega
  subst this
  exact h0
theorem kM {sz:Nat} {vs:List Value} (h:∀ j,j<sz→(vs.getD j undef).oneCell'=true):∀ k j,k<1→j<sz→(([vs].getD k []).getD j undef).oneCell'=true:=by
  intro k j hk hj
  have e:k=0:=by omega
  subst e
  exact h j hj
theorem tN (hz:Int) (sw:List Int) (SA:Option Addr) (sc:Nat) (ws:List Wr) (QA:Option Addr) (qc:Nat) (OA:Nat→Option Addr) (oc:Nat→Nat) (cl:Int) (w:World) (hsw:InS w noF 1 SA sw.length (icl sw)) (hws:InS w noF 2 QA ws.length (eG ws OA oc)) (hof:∀ k,k<ws.length→InS w noF 1 (OA k) (ws.getD k Wr.zero).of.length (icl (ws.getD k Wr.zero).of)) (V:CirV hz sw ws) (hcl:0≤cl∧cl≤4095) :
    Calls Try.prog 38 [.agg [.int .i64 hz,.slice SA sw.length sc,.slice QA ws.length qc].toArray,.int .i64 cl].toArray w (Ret (fun u w'=>∃ A' c',u = .slice A' (wkN hz sw ws cl hz.toNat).length c'∧St w noF [ownM 3 1 A' (wkN hz sw ws cl hz.toNat).length c' (icl (wkN hz sw ws cl hz.toNat))] w')):=by
 have hzb:=V.hzb
 have hnw:=V.nws
 refine enter Try.func38 rfl Try.ntmps38 rfl (fun a H=>?_)
 have S:=St.start w
 refine aB fun K1 k1=>?_
 refine aS H rfl S G G ?_;clear H a S;intro b2 _ a hb2 hbw2 S H
 refine ls 1 H<|sr 1 rfl<|sE ?_;clear H a;intro a H
 refine k1 _ _ ?_;clear k1 K1
 refine wp_seq_k fun K2 k2=>?_
 refine sS H fun K3 k3=>sf nK rfl<|sl S 0 aF G G G<|sr 1 rfl<|sE ?_;clear H a;intro a H
 refine k3 _ ?_;clear k3 K3
 refine wp_block ?_
 replace S:=S.newNil 3 1 (icl [])
 refine loop_st (X:=Nat×List Int×Option Addr×Nat) (R0:=_) [1,2,7] H rfl (fun ⟨h,L9,A9,c9⟩=>[(4,.slice A9 L9.length c9),(8,.int .i64 (h:Int))]) (fun ⟨h,L9,A9,c9⟩=>[ownM 3 1 A9 L9.length c9 (icl L9)]) (fun g ⟨h,L9,A9,c9⟩=>(h:Int)≤hz∧(g:Int)+h=hz∧L9=wkN hz sw ws cl h) (hz.toNat) (0,[],none,0) ?_ (S.sel [0,1] G G) (H.keep [4,8,1,2,7] rfl) ?_
 · exact ⟨by omega,by omega,rfl⟩
 clear H S a
 intro g1 x1 a w1 hp S H K4 k4
 obtain ⟨h,L9,A9,c9⟩:=x1
 dsimp only at hp S H
 refine sS H fun K5 k5=>sr 1 rfl<|sE ?_;clear H a;intro a H
 refine k5 _ ?_;clear k5 K5
 refine wp_seq_k fun K6 k6=>?_
 refine condL H rfl (fun hc1=>?_) (fun hc1=>?_)
 ·skip
  refine wp_skip ?_
  refine k6 _ _ ?_
  refine wp_seq_k fun K7 k7=>?_
  refine wp_block ?_
  refine sS H fun K8 k8=>sr 2 rfl<|sE ?_;clear H a;intro a H
  refine k8 _ ?_;clear k8 K8
  have hsh:=pwc (h:=h) (by omega)
  have hL9:L9.length≤h:=by rw [hp.2.2];exact nN h
  replace S:=S.drew
  refine cD [(0,true),(1,true),(2,true),(3,true),(4,true),(5,false)] (by kernel_rfl) (by kernel_rfl) (S.sel [0,1] G G) fun K9 k9=>?_
  refine qF H<|qd rfl (fun _ S=>(aC dB cM rfl S (i:=1) G G))<|qr 1 rfl<|qd rfl (fun _ S=>dE G G (by omega) (by omega) (by unfold i64ok;omega))<|qr 1 rfl<|qd rfl (fun _ S=>aO Ik G G)<|qK ?_;clear H a;intro a H
  refine aU rfl ?_
  refine aA H G G Try.func58 G G (Ck hz sw SA sc ws QA qc OA oc (1*2^(h:Int).toNat) cl 0 V (by omega) hcl (by omega) ws.length 0 _ (by omega) (by omega) (hsw.now S) (hws.now S) (fun k hk=>(hof k hk).now S)) ?_;clear H a
  rintro _ _ a ⟨rfl,S2⟩ H
  replace S:=S.call S2;clear S2
  refine wpList_nil (And.intro (S.sel [0,1] G G) ?_)
  refine bV ?_
  refine k9 _ _ ?_
  clear k9 K9
  refine aQ H rfl (fun hc2=>?_) (fun hc2=>?_)
  ·skip
   try simp only [o1,o2,o3,o4,o5,o6,o7,o8,o9,oa] at hc2
   replace H:=H.keep [1,2,4,5,7,8] rfl
   refine bY ?_
   refine ls 2 H<|sr 2 rfl<|sE ?_;clear H a;intro a H
   refine aY H rfl S aN aX eF G G G G G G G G G ?_;clear H a S;intro A1 _ a hA1 S H
   refine cI H rfl S aN aX eF lL G G (i:=1) G G G (ownM.inS S (i:=0) rfl) (kM (one rfl)) (by omega) (by omega) ?_;clear H a S;intro A2 c2 _ a S H
   replace S:=S.recell (i:=1) rfl (cell':=icl (L9++[(h:Int)])) (oH rfl)
   rw [show L9.length+1=(L9++[(h:Int)]).length by simp] at H S
   refine ls 1 H<|sr 1 rfl<|sE ?_;clear H a;intro a H
   refine k7 _ _ ?_
   refine sO H<|sd (aH G G (by unfold i64ok;omega))<|sr 1 rfl<|sE ?_;clear H a;intro a H
   exact k4 (g1-1) (h+1,_,_,_) a _ (by omega) (⟨by omega,by omega,by rw [wkN];first|rw [if_pos hc2,←hp.2.2]|rw [if_neg (by simpa using hc2),←hp.2.2]⟩) (S.sel [1,2] G G) (H.keep [4,8,1,2,7] rfl)
  try simp only [o1,o2,o3,o4,o5,o6,o7,o8,o9,oa] at hc2
  refine wp_skip ?_
  refine k7 _ _ ?_
  refine sO H<|sd (aH G G (by unfold i64ok;omega))<|sr 1 rfl<|sE ?_;clear H a;intro a H
  exact k4 (g1-1) (h+1,_,_,_) a _ (by omega) (⟨by omega,by omega,by rw [wkN];first|rw [if_pos hc2,←hp.2.2]|rw [if_neg (by simpa using hc2),←hp.2.2]⟩) (S.sel [0,1] G G) (H.keep [4,8,1,2,7] rfl)
 refine wp_exit ?_
 refine k2 _ _ ?_
 replace H:=H.keep [4] rfl
 refine sS H fun K13 k13=>sr 2 rfl<|sE ?_;clear H a;intro a H
 refine k13 _ ?_;clear k13 K13
 refine wp_ret ?_
 refine ret1 (fn:=Try.f38) rfl H rfl ?_
 have hh9:h=hz.toNat:=by omega
 rw [hh9] at hp
 rw [←hp.2.2]
 exact ⟨_,_,rfl,(S.sel [0] G G)⟩
end
section
structure Psg where
  a:Int
  b:Int
  kind:Int
  ticks:Int
  wide:Int
  mach:Int
  still:Int
def Psg.zero:Psg:=⟨0,0,0,0,0,0,0⟩
def Psg.cell (p:Psg):Nat→Value
  | 0 => .int .i64 p.a
  | 1 => .int .i64 p.b
  | 2 => .int .i64 p.kind
  | 3 => .int .i64 p.ticks
  | 4 => .int .i64 p.wide
  | 5 => .int .i64 p.mach
  | _ => .int .i64 p.still
def pcell (l:List Psg) (k j:Nat):Value:=(l.getD k Psg.zero).cell j
structure Mv where
  pas:Int
  fr:Int
  at_:Int
  many:Int
def Mv.zero:Mv:=⟨0,0,0,0⟩
def Mv.none:Mv:=⟨-1,0,0,0⟩
def Mv.cells (m:Mv):List Value:=[.int .i64 m.pas,.int .i64 m.fr,.int .i64 m.at_,.int .i64 m.many]
def Mv.cell (m:Mv):Nat→Value
  | 0 => .int .i64 m.pas
  | 1 => .int .i64 m.fr
  | 2 => .int .i64 m.at_
  | _ => .int .i64 m.many
structure Ent where
  to:Nat
  room:Int
  back:Nat
  mv:Mv
def Ent.zero:Ent:=⟨0,0,0,Mv.zero⟩
def Ent.cell (x:Ent):Nat→Value
  | 0 => .int .i64 (x.to:Int)
  | 1 => .int .i64 x.room
  | 2 => .int .i64 (x.back:Int)
  | 3 => .int .i64 x.mv.pas
  | 4 => .int .i64 x.mv.fr
  | 5 => .int .i64 x.mv.at_
  | _ => .int .i64 x.mv.many
abbrev Tab:=Nat→List Ent
def tcell (T:Tab) (i k j:Nat):Value:=((T i).getD k Ent.zero).cell j
def hdc (A:Nat→Option Addr) (n c:Nat→Nat) (i _j:Nat):Value := .slice (A i) (n i) (c i)
def tlen (T:Tab) (i:Nat):Nat:=(T i).length
def joinT (T:Tab) (f t:Nat) (room:Int) (mv:Mv):Tab:=
  upd (upd T f (T f++[⟨t,room,(T t).length,mv⟩])) t (T t++[⟨f,0,(T f).length,Mv.none⟩])
def Tab.net (T:Tab) (k:Nat):Net:=⟨k,tlen T,fun i j=>((T i).getD j Ent.zero).to,fun i j=>((T i).getD j Ent.zero).back⟩
def Tab.room (T:Tab):RM:=fun i j=>((T i).getD j Ent.zero).room
def Tab.mv (T:Tab):Nat→Nat→Mv:=fun i j=>((T i).getD j Ent.zero).mv
def edgeC (N:Net) (r:RM) (mv:Nat→Nat→Mv) (i k:Nat):Nat→Value
  | 0 => .int .i64 (N.to i k:Int)
  | 1 => .int .i64 (r i k)
  | 2 => .int .i64 (N.back i k:Int)
  | 3 => .int .i64 (mv i k).pas
  | 4 => .int .i64 (mv i k).fr
  | 5 => .int .i64 (mv i k).at_
  | _ => .int .i64 (mv i k).many
theorem vQ (T:Tab) (k:Nat):tcell T=edgeC (T.net k) T.room T.mv:=by
  funext i q j
  unfold tcell edgeC Ent.cell Tab.net Tab.room Tab.mv
  match j with
  | 0=>rfl
  | 1=>rfl
  | 2=>rfl
  | 3=>rfl
  | 4=>rfl
  | 5=>rfl
  | _+6=>rfl
theorem yW {N:Net} {r:RM} {mv:Nat→Nat→Mv} {p q:Nat} {v:Int}:upd (edgeC N r mv) p (cput (edgeC N r mv p) q 1 (.int .i64 v))=edgeC N (put2 r p q v) mv:=by
  funext i k j
  unfold upd cput
  by_cases h:i=p
  · subst h
    rw [if_pos rfl]
    by_cases h2:k=q∧j=1
    · obtain ⟨rfl,rfl⟩:=h2
      rw [if_pos ⟨rfl,rfl⟩]
      simp only [edgeC,jQ]
    · skip
      rw [if_neg h2]
      match j with
      | 0=>rfl
      | 1=>simp only [edgeC];rw [fT (fun h=>h2 ⟨h.2,rfl⟩)]
      | 2=>rfl
      | 3=>rfl
      | 4=>rfl
      | 5=>rfl
      | _+6=>rfl
  · rw [if_neg h]
    match j with
    | 0=>rfl
    | 1=>simp only [edgeC];rw [fT (fun h2=>h h2.1)]
    | 2=>rfl
    | 3=>rfl
    | 4=>rfl
    | 5=>rfl
    | _+6=>rfl
def lcl (L:Nat→Int) (i _j:Nat):Value := .int .i64 (L i)
def ncl (n:Nat→Nat) (i _j:Nat):Value := .int .i64 (n i:Int)
theorem Fq {n:Nat→Nat} {p v:Nat} {x:Int} (h:x=(v:Int)):cput (ncl n) p 0 (.int .i64 x)=fun i j=>if j=0 then ncl (upd n p v) i j else ncl n i j:=by
  subst h
  funext i j
  unfold cput ncl upd
  by_cases h1:i=p <;> by_cases h2:j=0 <;> simp [h1,h2]
def hasI (l:List Int) (x:Int):Bool:=l.any fun y=>decide (x=y)
structure Hd where
  pas:Int
  fr:Int
  to:Int
  ticks:Int
  wide:Int
def Hd.zero:Hd:=⟨0,0,0,0,0⟩
def Hd.cells (h:Hd):List Value:=[.int .i64 h.pas,.int .i64 h.fr,.int .i64 h.to,.int .i64 h.ticks,.int .i64 h.wide]
def bitI (out m:Int):Int:=out/2^m.toNat%2
def eQ (out:Int) (p:Psg):Int:=if p.kind=3∧¬ bitI out p.mach=0 then p.still else p.ticks
def iQ (out:Int) (p:Psg):Bool:=!(decide (p.kind=3)&&decide (bitI out p.mach=0))
theorem Cl {out:Int} {p:Psg} (h:p.kind=3∧out/2^p.mach.toNat%2=0):false=iQ out p:=by unfold iQ bitI;rw [decide_eq_true h.1,decide_eq_true h.2];rfl
theorem tO {out:Int} {p:Psg} (h:¬ p.kind=3∨¬ out/2^p.mach.toNat%2=0):true=iQ out p:=by
  unfold iQ bitI
  rcases h with h|h
  · rw [decide_eq_false h];rfl
  · rw [decide_eq_false h,Bool.and_false];rfl
def hdsA (out:Int) (xs:List Int) (k:Nat) (p:Psg):List Hd:=if hasI xs p.a=true then [] else [⟨k,p.a,p.b,eQ out p,p.wide⟩]
def hdsB (out:Int) (xs:List Int) (k:Nat) (p:Psg):List Hd:=if (iQ out p&&!hasI xs p.b)=true then [⟨k,p.b,p.a,eQ out p,p.wide⟩] else []
def hdsOf (out:Int) (xs:List Int) (k:Nat) (p:Psg):List Hd:=if p.kind=4 then [] else hdsA out xs k p++hdsB out xs k p
def hdsTo (out:Int) (xs:List Int) (ps:List Psg):Nat→List Hd
  | 0=>[]
  | k+1=>hdsTo out xs ps k++hdsOf out xs k (ps.getD k Psg.zero)
def hds (out:Int) (xs:List Int) (ps:List Psg):List Hd:=hdsTo out xs ps ps.length
section
variable {out:Int} {xs:List Int} {ps:List Psg} {k:Nat}
theorem Fs:∀ {n k:Nat},k≤n→∃ t,hdsTo out xs ps n=hdsTo out xs ps k++t:=by
  intro n
  induction n with
  | zero => intro k hk;have:k=0:=by omega
            subst this;exact ⟨[],by simp⟩
  | succ n ih=>
    intro k hk
    by_cases e:k=n+1
    · subst e;exact ⟨[],by simp⟩
    · obtain ⟨t,ht⟩:=ih (k:=k) (by omega)
      exact ⟨t++hdsOf out xs n (ps.getD n Psg.zero),by rw [hdsTo,ht,List.append_assoc]⟩
theorem Cm (hk:k<ps.length) {j:Nat} {h:Hd} (hj:(hdsOf out xs k (ps.getD k Psg.zero))[j]?=some h):(hds out xs ps).getD ((hdsTo out xs ps k).length+j) Hd.zero=h∧(hdsTo out xs ps k).length+j<(hds out xs ps).length:=by
  obtain ⟨t,ht⟩:=Fs (out:=out) (xs:=xs) (ps:=ps) (n:=ps.length) (k:=k+1) (by omega)
  have hjl:=(List.getElem?_eq_some_iff.1 hj).1
  unfold hds
  rw [ht,hdsTo]
  refine ⟨?_,by simp only [List.length_append];omega⟩
  rw [List.getD_eq_getElem?_getD,List.append_assoc,List.getElem?_append_right (by omega),List.getElem?_append_left (by omega),show (hdsTo out xs ps k).length+j-(hdsTo out xs ps k).length=j by omega,hj]
  rfl
theorem yX (hk:k<ps.length) (h4:¬ (ps.getD k Psg.zero).kind=4) (ha:hasI xs (ps.getD k Psg.zero).a=false) :
    (hds out xs ps).getD (hdsTo out xs ps k).length Hd.zero=⟨k,(ps.getD k Psg.zero).a,(ps.getD k Psg.zero).b,eQ out (ps.getD k Psg.zero),(ps.getD k Psg.zero).wide⟩∧(hdsTo out xs ps k).length<(hds out xs ps).length:=
  Cm (out:=out) (xs:=xs) hk (j:=0) (by unfold hdsOf hdsA;rw [if_neg h4,if_neg (by rw [ha];simp)];rfl)
def qA (xs:List Int) (p:Psg):Nat:=if hasI xs p.a=true then 0 else 1
def qB (out:Int) (xs:List Int) (p:Psg):Nat:=if (iQ out p&&!hasI xs p.b)=true then 1 else 0
theorem vR (hk:k<ps.length) (h4:¬ (ps.getD k Psg.zero).kind=4) (hb:(iQ out (ps.getD k Psg.zero)&&!hasI xs (ps.getD k Psg.zero).b)=true) :
    (hds out xs ps).getD ((hdsTo out xs ps k).length+qA xs (ps.getD k Psg.zero)) Hd.zero=⟨k,(ps.getD k Psg.zero).b,(ps.getD k Psg.zero).a,eQ out (ps.getD k Psg.zero),(ps.getD k Psg.zero).wide⟩∧(hdsTo out xs ps k).length+qA xs (ps.getD k Psg.zero)<(hds out xs ps).length:=
  Cm (out:=out) (xs:=xs) hk (j:=qA xs (ps.getD k Psg.zero)) (by
    unfold hdsOf hdsA hdsB qA
    rw [if_neg h4,if_pos hb]
    by_cases h:hasI xs (ps.getD k Psg.zero).a=true
    · rw [if_pos h,if_pos h];rfl
    · rw [if_neg h,if_neg h];rfl)
theorem fX (h4:¬ (ps.getD k Psg.zero).kind=4):(hdsTo out xs ps (k+1)).length=(hdsTo out xs ps k).length+qA xs (ps.getD k Psg.zero)+qB out xs (ps.getD k Psg.zero):=by
  rw [hdsTo,List.length_append]
  unfold hdsOf hdsA hdsB qA qB
  rw [if_neg h4,List.length_append]
  split <;> split <;> simp
theorem jH (h4:(ps.getD k Psg.zero).kind=4):(hdsTo out xs ps (k+1)).length=(hdsTo out xs ps k).length:=by
  rw [hdsTo,List.length_append]
  unfold hdsOf
  rw [if_pos h4]
  rfl
theorem Il:∀ k,(hdsTo out xs ps k).length≤2*k:=by
  intro k
  induction k with
  | zero=>simp [hdsTo]
  | succ k ih=>
    by_cases h4:(ps.getD k Psg.zero).kind=4
    · rw [jH h4];omega
    · rw [fX h4]
      have h1:qA xs (ps.getD k Psg.zero)≤1:=by unfold qA;split <;> omega
      have h2:qB out xs (ps.getD k Psg.zero)≤1:=by unfold qB;split <;> omega
      omega
theorem bk3 (b h:Bool):b=false∨(b=true∧h=true)∨(b=true∧h=false):=by cases b <;> cases h <;> simp
end
structure Jn where
  f:Nat
  t:Nat
  room:Int
  mv:Mv
def joins (J:List Jn):Tab:=J.foldl (fun T j=>joinT T j.f j.t j.room j.mv) (fun _=>[])
theorem fD (J:List Jn) (j:Jn):joins (J++[j])=joinT (joins J) j.f j.t j.room j.mv:=by unfold joins;rw [List.foldl_append];rfl
theorem yY (J:List Jn) (hne:∀ j ∈ J,j.f≠j.t) (i:Nat):(joins J i).length≤J.length:=by
  have key:∀ (n:Nat) (J:List Jn),J.length=n→(∀ j ∈ J,j.f≠j.t)→(joins J i).length≤n:=by
    intro n
    induction n with
    | zero => intro J h _;have:J=[]:=List.eq_nil_of_length_eq_zero h
              subst this;exact Nat.le_refl 0
    | succ n ih=>
      intro J h hn
      obtain ⟨J',j,rfl⟩:∃ J' j,J=J'++[j]:=⟨J.dropLast,J.getLast (by intro e;subst e;simp at h),(List.dropLast_concat_getLast _).symm⟩
      have h1:=ih J' (by simpa using h) (fun x hx=>hn x (List.mem_append_left _ hx))
      have h2:=hn j (List.mem_append_right _ (by simp))
      rw [fD]
      unfold joinT upd
      split
      · rename_i e
        subst e
        simp;omega
      · split
        · rename_i e;subst e;simp;omega
        · omega
  exact key _ J rfl hne
def nd (P t p:Nat):Nat:=P*t+p
theorem lM {P T t p:Nat} (ht:t≤T) (hp:p<P):nd P t p<P*(T+1):=by
  have:P*(t+1)≤P*(T+1):=Nat.mul_le_mul_left _ (by omega)
  rw [Nat.mul_add] at this
  unfold nd
  omega
theorem Hm {P t t' p p':Nat} (ht:t<t') (hp:p<P):nd P t p≠nd P t' p':=by
  have:P*(t+1)≤P*t':=Nat.mul_le_mul_left _ (by omega)
  rw [Nat.mul_add] at this
  unfold nd
  omega
def rM:Int:=1099511627776
def jBeg (P T:Nat) (pe:List Int) (p:Nat):Jn:=⟨P*(T+1),nd P 0 p,pe.getD p 0,Mv.none⟩
def jWait (P p t:Nat):Jn:=⟨nd P t p,nd P (t+1) p,rM,Mv.none⟩
def jExit (P T p t:Nat):Jn:=⟨nd P t p,P*(T+1)+1,rM,Mv.none⟩
def cA (P p n:Nat):List Jn:=(List.range n).map (jWait P p)
def dC (P T p n:Nat):List Jn:=(List.range n).map (jExit P T p)
def gF (P T:Nat) (pe xs:List Int) (p:Nat):List Jn:=jBeg P T pe p::(cA P p T++(if hasI xs p=true then dC P T p (T+1) else []))
def aW (P T:Nat) (pe xs:List Int):Nat→List Jn
  | 0=>[]
  | p+1=>aW P T pe xs p++gF P T pe xs p
def jHead (P:Nat) (h:Hd) (t:Nat):Jn:=⟨nd P t h.fr.toNat,nd P (t+h.ticks.toNat) h.to.toNat,h.wide,⟨h.pas,h.fr,t,0⟩⟩
def eH (P:Nat) (h:Hd) (n:Nat):List Jn:=(List.range n).map (jHead P h)
def cP (P T:Nat) (hs:List Hd):Nat→List Jn
  | 0=>[]
  | i+1=>cP P T hs i++eH P (hs.getD i Hd.zero) (T+1-(hs.getD i Hd.zero).ticks.toNat)
def jAll (P T:Nat) (pe xs:List Int) (hs:List Hd):List Jn:=aW P T pe xs P++cP P T hs hs.length
theorem kN {f:Nat→Jn} (n:Nat):(List.range (n+1)).map f=(List.range n).map f++[f n]:=by rw [List.range_succ,List.map_append];rfl
section
variable {P T:Nat} {pe xs:List Int} {hs:List Hd}
def JOk (P T:Nat) (j:Jn):Prop:=j.f≠j.t∧j.f<P*(T+1)+2∧j.t<P*(T+1)+2
theorem lN {p:Nat} (hp:p<P):JOk P T (jBeg P T pe p):=by
  have:=lM (P:=P) (T:=T) (Nat.zero_le T) hp
  exact ⟨by show P*(T+1)≠nd P 0 p;omega,by show P*(T+1)<_;omega,by show nd P 0 p<_;omega⟩
theorem jI {p t:Nat} (hp:p<P) (ht:t<T):JOk P T (jWait P p t):=by
  have h1:=lM (P:=P) (T:=T) (show t≤T by omega) hp
  have h2:=lM (P:=P) (T:=T) (show t+1≤T by omega) hp
  exact ⟨Hm (by omega) hp,by show nd P t p<_;omega,by show nd P (t+1) p<_;omega⟩
theorem jJ {p t:Nat} (hp:p<P) (ht:t≤T):JOk P T (jExit P T p t):=by
  have h1:=lM (P:=P) (T:=T) ht hp
  exact ⟨by show nd P t p≠P*(T+1)+1;omega,by show nd P t p<_;omega,by show P*(T+1)+1<_;omega⟩
theorem jK {h:Hd} {t:Nat} (h1:h.fr.toNat<P) (h2:h.to.toNat<P) (hd:1≤h.ticks.toNat) (ht:t+h.ticks.toNat≤T):JOk P T (jHead P h t):=by
  have h3:=lM (P:=P) (T:=T) (show t≤T by omega) h1
  have h4:=lM (P:=P) (T:=T) ht h2
  exact ⟨Hm (by omega) h1,by show nd P t h.fr.toNat<_;omega,by show nd P (t+h.ticks.toNat) h.to.toNat<_;omega⟩
theorem yZ {p:Nat} (hp:p<P):∀ j ∈ gF P T pe xs p,JOk P T j:=by
  intro j hj
  unfold gF cA dC at hj
  rcases List.mem_cons.1 hj with rfl|hj
  · exact lN hp
  · rcases List.mem_append.1 hj with hj|hj
    · obtain ⟨t,ht,rfl⟩:=List.mem_map.1 hj
      exact jI hp (List.mem_range.1 ht)
    · split at hj
      · obtain ⟨t,ht,rfl⟩:=List.mem_map.1 hj
        exact jJ hp (by have:=List.mem_range.1 ht;omega)
      · cases hj
theorem kO:∀ {n:Nat},n≤P→∀ j ∈ aW P T pe xs n,JOk P T j:=by
  intro n
  induction n with
  | zero=>intro _ j hj;cases hj
  | succ n ih=>
    intro hn j hj
    rcases List.mem_append.1 hj with hj|hj
    · exact ih (by omega) j hj
    · exact yZ (by omega) j hj
theorem mX:∀ n,(aW P T pe xs n).length≤n*(2*T+2):=by
  intro n
  induction n with
  | zero=>simp [aW]
  | succ n ih=>
    have:(gF P T pe xs n).length≤2*T+2:=by
      unfold gF cA dC
      split <;> simp <;> omega
    rw [aW,List.length_append,Nat.add_mul]
    omega
def HdOk (P:Nat) (h:Hd):Prop:=(0≤h.fr∧h.fr<P)∧(0≤h.to∧h.to<P)∧(1≤h.ticks∧h.ticks≤20)
theorem qD (hh:∀ i,i<hs.length→HdOk P (hs.getD i Hd.zero)):∀ {n:Nat},n≤hs.length→∀ j ∈ cP P T hs n,JOk P T j:=by
  intro n
  induction n with
  | zero=>intro _ j hj;cases hj
  | succ n ih=>
    intro hn j hj
    rcases List.mem_append.1 hj with hj|hj
    · exact ih (by omega) j hj
    · obtain ⟨t,ht,rfl⟩:=List.mem_map.1 hj
      have h1:=hh n (by omega)
      unfold HdOk at h1
      have:=List.mem_range.1 ht
      exact jK (by omega) (by omega) (by omega) (by omega)
theorem vS:∀ n,(cP P T hs n).length≤n*(T+1):=by
  intro n
  induction n with
  | zero=>simp [cP]
  | succ n ih=>
    rw [cP,List.length_append,Nat.add_mul]
    have:(eH P (hs.getD n Hd.zero) (T+1-(hs.getD n Hd.zero).ticks.toNat)).length≤T+1:=by unfold eH;simp
    omega
end
def allN (p:Nat→Bool):Nat→Bool
  | 0=>true
  | n+1=>allN p n&&p n
theorem bX {p:Nat→Bool}:∀ {n:Nat},allN p n=true↔∀ k,k<n→p k=true:=by
  intro n
  induction n with
  | zero=>exact ⟨fun _ k hk=>absurd hk (Nat.not_lt_zero k),fun _=>rfl⟩
  | succ n ih=>
    simp only [allN,Bool.and_eq_true,ih]
    constructor
    · rintro ⟨h1,h2⟩ k hk
      by_cases e:k=n
      · subst e;exact h2
      · exact h1 k (by omega)
    · intro h
      exact ⟨fun k hk=>h k (by omega),h n (by omega)⟩
theorem bT {p:Nat→Bool} {n:Nat} (h:allN p n=true) (hp:p n=true):allN p (n+1)=true:=by simp only [allN,h,hp];rfl
theorem eI {p:Nat→Bool} {n k:Nat} (hk:k<n) (h:p k=false):allN p n=false:=by
  cases ha:allN p n with
  | false=>rfl
  | true=>rw [bX.1 ha k hk] at h;cases h
def psgOk (P:Int) (p:Psg):Bool:=decide (0≤p.a∧p.a<P∧0≤p.b∧p.b<P∧p.a≠p.b∧1≤p.ticks∧p.ticks≤20∧1≤p.wide∧p.wide≤50 ∧
  ((p.kind=1∨p.kind=2∨p.kind=5)∧p.mach = -1∧p.still=0∨p.kind=3∧(0≤p.mach∧p.mach≤11)∧(1≤p.still∧p.still≤20)∨p.kind=4∧(0≤p.mach∧p.mach≤11)∧p.still=0))
def bO (ps:List Psg) (k:Nat):Int:=(ps.getD k Psg.zero).mach
def cntM (ps:List Psg) (m:Int) (k:Nat):Int:=sm (fun j=>if bO ps j=m then 1 else 0) k
theorem xA {ps:List Psg} {m:Int} {k:Nat}:0≤cntM ps m k:=fB fun i _=>by split <;> omega
theorem Ft {ps:List Psg} {m:Int}:∀ k,cntM ps m k≤k:=by
  intro k
  induction k with
  | zero=>exact Int.le_refl 0
  | succ k ih=>unfold cntM at ih ⊢;rw [sm];split <;> omega
theorem zA {ps:List Psg} {m:Int} {k:Nat}:cntM ps m k=0↔∀ j,j<k→bO ps j≠m:=by
  constructor
  · intro h j hj e
    have:=kI (f:=fun j=>if bO ps j=m then 1 else 0) (fun i _=>by split <;> omega) h j hj
    simp [e] at this
  · intro h
    exact nE fun i hi=>if_neg (h i hi)
def pasOk (P:Int) (ps:List Psg) (k:Nat):Bool:=psgOk P (ps.getD k Psg.zero)&&decide (bO ps k<0∨cntM ps (bO ps k) k=0)
def exOk (P:Int) (xs:List Int) (k:Nat):Bool:=decide (0≤xs.getD k 0∧xs.getD k 0<P∧(k=0∨xs.getD (k-1) 0<xs.getD k 0))
def stOk (P:Int) (ps:List Psg) (xs:List Int):Bool:=(decide (1≤P∧P≤10∧ps.length≤24)&&allN (pasOk P ps) ps.length)&&allN (exOk P xs) xs.length
def stE (P:Int) (ps:List Psg) (xs:List Int):Int:=if stOk P ps xs=true then 0 else 80
theorem xB {P:Int} {ps:List Psg} {xs:List Int} (h:¬ (1≤P∧P≤10∧ps.length≤24)):stE P ps xs=80:=by
  unfold stE stOk;rw [decide_eq_false h];rfl
theorem iR {P:Int} {ps:List Psg} {xs:List Int} {k:Nat} (hk:k<ps.length) (h:pasOk P ps k=false):stE P ps xs=80:=by
  unfold stE stOk;rw [eI hk h,Bool.and_false];rfl
theorem Hn {P:Int} {ps:List Psg} {xs:List Int} {k:Nat} (hk:k<xs.length) (h:exOk P xs k=false):stE P ps xs=80:=by
  unfold stE stOk;rw [eI hk h,Bool.and_false];rfl
theorem Ho {P:Int} {ps:List Psg} {xs:List Int} (h1:1≤P∧P≤10∧ps.length≤24) (h2:allN (pasOk P ps) ps.length=true) (h3:allN (exOk P xs) xs.length=true):stE P ps xs=0:=by
  unfold stE stOk;rw [decide_eq_true h1,h2,h3];rfl
theorem Fu {P:Int} {ps:List Psg} {xs:List Int}:stE P ps xs=0↔stOk P ps xs=true:=by
  unfold stE;split <;> simp [*]
def CntMap (ps:List Psg) (k:Nat) (l:List (Int×Value)):Prop:=∀ m:Int,(getL l m).getD (.int .i64 0) = .int .i64 (cntM ps m k)
theorem CntMap.nil (ps:List Psg):CntMap ps 0 []:=fun m=>rfl
theorem CntMap.step {ps:List Psg} {k:Nat} {l:List (Int×Value)} (h:CntMap ps k l):CntMap ps (k+1) (setL l (bO ps k) (.int .i64 (cntM ps (bO ps k) k+1))):=by
  intro m
  rw [Az]
  unfold cntM
  rw [sm]
  by_cases e:m=bO ps k
  · subst e;rw [if_pos rfl,if_pos rfl];rfl
  · rw [if_neg e,if_neg (fun h=>e h.symm),Int.add_zero];exact h m
structure StV (P:Int) (ps:List Psg) (xs:List Int):Prop where
  size:1≤P∧P≤10∧ps.length≤24
  pas:∀ k,k<ps.length→psgOk P (ps.getD k Psg.zero)=true
  mach:∀ k,k<ps.length→0≤bO ps k→∀ j,j<k→bO ps j≠bO ps k
  ex:∀ k,k<xs.length→0≤xs.getD k 0∧xs.getD k 0<P∧(k=0∨xs.getD (k-1) 0<xs.getD k 0)
theorem oI {P:Int} {ps:List Psg} {xs:List Int} (h:stE P ps xs=0):StV P ps xs:=by
  have h1:=Fu.1 h
  unfold stOk at h1
  simp only [Bool.and_eq_true,decide_eq_true_eq] at h1
  obtain ⟨⟨h1,h2⟩,h3⟩:=h1
  refine ⟨h1,fun k hk=>?_,fun k hk h0=>?_,fun k hk=>?_⟩
  · have:=bX.1 h2 k hk
    unfold pasOk at this
    rw [Bool.and_eq_true] at this
    exact this.1
  · have:=bX.1 h2 k hk
    unfold pasOk at this
    simp only [Bool.and_eq_true,decide_eq_true_eq] at this
    exact zA.1 (by omega)
  · have:=bX.1 h3 k hk
    unfold exOk at this
    simpa using this
theorem cO {P:Int} {p:Psg}:psgOk P p=true↔(0≤p.a∧p.a<P∧0≤p.b∧p.b<P∧p.a≠p.b∧1≤p.ticks∧p.ticks≤20∧1≤p.wide∧p.wide≤50 ∧
  ((p.kind=1∨p.kind=2∨p.kind=5)∧p.mach = -1∧p.still=0∨p.kind=3∧(0≤p.mach∧p.mach≤11)∧(1≤p.still∧p.still≤20)∨p.kind=4∧(0≤p.mach∧p.mach≤11)∧p.still=0)):=by
  unfold psgOk;rw [decide_eq_true_eq]
theorem dQ {P:Int} {p:Psg} (h:¬ (0≤p.a∧p.a<P∧0≤p.b∧p.b<P∧p.a≠p.b∧1≤p.ticks∧p.ticks≤20∧1≤p.wide∧p.wide≤50 ∧
  ((p.kind=1∨p.kind=2∨p.kind=5)∧p.mach = -1∧p.still=0∨p.kind=3∧(0≤p.mach∧p.mach≤11)∧(1≤p.still∧p.still≤20)∨p.kind=4∧(0≤p.mach∧p.mach≤11)∧p.still=0))):psgOk P p=false:=by
  unfold psgOk;exact decide_eq_false h
theorem vT {P:Nat} {ps:List Psg} {xs:List Int} {out:Int} (h:StV P ps xs):∀ i,i<(hds out xs ps).length→HdOk P ((hds out xs ps).getD i Hd.zero):=by
  have key:∀ n,n≤ps.length→∀ x ∈ hdsTo out xs ps n,HdOk P x:=by
    intro n
    induction n with
    | zero=>intro _ x hx;cases hx
    | succ n ih=>
      intro hn x hx
      rcases List.mem_append.1 hx with hx|hx
      · exact ih (by omega) x hx
      · have hp:=cO.1 (h.pas n (by omega))
        have ht:1≤eQ out (ps.getD n Psg.zero)∧eQ out (ps.getD n Psg.zero)≤20:=by
          unfold eQ;split <;> omega
        unfold hdsOf hdsA hdsB at hx
        unfold HdOk
        split at hx
        · cases hx
        · rcases List.mem_append.1 hx with hx|hx
          · split at hx
            · cases hx
            · rw [List.mem_singleton.1 hx];dsimp only;omega
          · split at hx
            · rw [List.mem_singleton.1 hx];dsimp only;omega
            · cases hx
  intro i hi
  rw [List.getD_eq_getElem?_getD,List.getElem?_eq_getElem hi]
  exact key _ (Nat.le_refl _) _ (List.getElem_mem hi)
def eA (P:Int) (pe:List Int):Bool:=allN (fun k=>decide (0≤pe.getD k 0∧pe.getD k 0≤1000)) pe.length&&decide ((pe.length:Int)=P)
def jL (P:Int) (ps:List Psg) (xs:List Int) (out:Int) (pe:List Int) (T:Int):Int:=
  if stE P ps xs≠0 then stE P ps xs else if (decide (0≤out∧out≤4095)&&eA P pe&&decide (0≤T∧T≤60))=true then 0 else 1
theorem mJ {P:Int} {ps:List Psg} {xs:List Int} {out:Int} {pe:List Int} {T:Int} (h:jL P ps xs out pe T=0):stE P ps xs=0∧(0≤out∧out≤4095)∧eA P pe=true∧(0≤T∧T≤60):=by
  unfold jL at h
  split at h
  · omega
  · rename_i h1
    split at h
    · rename_i h2
      simp only [Bool.and_eq_true,decide_eq_true_eq] at h2
      exact ⟨by omega,h2.1.1,h2.1.2,h2.2⟩
    · cases h
theorem tP {P:Int} {pe:List Int} (h:eA P pe=true):(∀ k,k<pe.length→0≤pe.getD k 0∧pe.getD k 0≤1000)∧(pe.length:Int)=P:=by
  unfold eA at h
  simp only [Bool.and_eq_true,decide_eq_true_eq] at h
  exact ⟨fun k hk=>by simpa using bX.1 h.1 k hk,h.2⟩
theorem jY {l:List Ent} {e:Ent} {j:Nat}:(l++[e]).getD j Ent.zero=if j=l.length then e else l.getD j Ent.zero:=by
  rw [List.getD_eq_getElem?_getD,List.getD_eq_getElem?_getD]
  by_cases h:j=l.length
  · subst h;rw [if_pos rfl,List.getElem?_append_right (Nat.le_refl _),Nat.sub_self];rfl
  · rw [if_neg h]
    rcases Nat.lt_or_ge j l.length with h1|h1
    · rw [List.getElem?_append_left h1]
    · rw [List.getElem?_append_right h1,List.getElem?_eq_none (by simp;omega),List.getElem?_eq_none h1]
section
variable {T:Tab} {f t k:Nat} {room:Int} {mv:Mv}
theorem tQ (hft:f≠t) (i:Nat):tlen (joinT T f t room mv) i=tlen T i+(if i=f then 1 else 0)+(if i=t then 1 else 0):=by
  unfold tlen joinT upd
  by_cases h1:i=t
  · subst h1
    rw [if_pos rfl,if_neg (fun e=>hft e.symm),if_pos rfl];simp
  · rw [if_neg h1,if_neg h1]
    by_cases h2:i=f
    · subst h2;rw [if_pos rfl,if_pos rfl];simp
    · rw [if_neg h2,if_neg h2];rfl
def entAt (T:Tab) (i j:Nat):Ent:=(T i).getD j Ent.zero
theorem xC (hft:f≠t) (i j:Nat):entAt (joinT T f t room mv) i j=if i=f∧j=tlen T f then ⟨t,room,tlen T t,mv⟩ else if i=t∧j=tlen T t then ⟨f,0,tlen T f,Mv.none⟩ else entAt T i j:=by
  unfold entAt joinT upd tlen
  by_cases h1:i=t
  · subst h1
    rw [if_pos rfl,if_neg (fun h=>hft h.1.symm),jY]
    by_cases h2:j=(T i).length
    · rw [if_pos h2,if_pos ⟨rfl,h2⟩]
    · rw [if_neg h2,if_neg (fun h=>h2 h.2)]
  · rw [if_neg h1]
    by_cases h2:i=f
    · subst h2
      rw [if_pos rfl,jY]
      by_cases h3:j=(T i).length
      · rw [if_pos h3,if_pos ⟨rfl,h3⟩]
      · rw [if_neg h3,if_neg (fun h=>h3 h.2),if_neg (fun h=>h1 h.1)]
    · rw [if_neg h2,if_neg (fun h=>h2 h.1),if_neg (fun h=>h1 h.1)]
theorem mY (hft:f≠t) (hf:f<k) (ht:t<k) (W:(T.net k).Wf):((joinT T f t room mv).net k).Wf:=by
  have hlen:=tQ (T:=T) (room:=room) (mv:=mv) hft
  have hat:=xC (T:=T) (room:=room) (mv:=mv) hft
  have key:∀ i,i<k→∀ j,j<tlen (joinT T f t room mv) i→(i=f∧j=tlen T f)∨(i=t∧j=tlen T t)∨(¬ (i=f∧j=tlen T f)∧¬ (i=t∧j=tlen T t)∧j<tlen T i):=by
    intro i hi j hj
    rw [hlen] at hj
    by_cases h1:i=f∧j=tlen T f
    · exact .inl h1
    · by_cases h2:i=t∧j=tlen T t
      · exact .inr (.inl h2)
      · refine .inr (.inr ⟨h1,h2,?_⟩)
        by_cases e1:i=f
        · subst e1;rw [if_pos rfl,if_neg hft] at hj;have:j≠tlen T i:=fun e=>h1 ⟨rfl,e⟩;omega
        · by_cases e2:i=t
          · subst e2;rw [if_neg e1,if_pos rfl] at hj;have:j≠tlen T i:=fun e=>h2 ⟨rfl,e⟩;omega
          · rw [if_neg e1,if_neg e2] at hj;omega
  have hne':¬ (t=f∧tlen T t=tlen T f):=fun h=>hft h.1.symm
  have kold:∀ i,i<k→∀ j,j<tlen T i→entAt (joinT T f t room mv) i j=entAt T i j:=by
    intro i hi j hj
    rw [hat,if_neg (fun h=>by rw [h.1,h.2] at hj;omega),if_neg (fun h=>by rw [h.1,h.2] at hj;omega)]
  have hW:∀ i,i<k→∀ j,j<tlen T i→(entAt T i j).to<k∧(entAt T i j).to≠i∧(entAt T i j).back<tlen T (entAt T i j).to∧(entAt T (entAt T i j).to (entAt T i j).back).to=i∧(entAt T (entAt T i j).to (entAt T i j).back).back=j:=
    fun i hi j hj=>⟨W.to_lt i hi j hj,W.to_ne i hi j hj,W.bk_lt i hi j hj,W.bk_to i hi j hj,W.bk_bk i hi j hj⟩
  have all:∀ i,i<k→∀ j,j<tlen (joinT T f t room mv) i→(entAt (joinT T f t room mv) i j).to<k∧(entAt (joinT T f t room mv) i j).to≠i∧(entAt (joinT T f t room mv) i j).back<tlen (joinT T f t room mv) (entAt (joinT T f t room mv) i j).to ∧
      (entAt (joinT T f t room mv) (entAt (joinT T f t room mv) i j).to (entAt (joinT T f t room mv) i j).back).to=i∧(entAt (joinT T f t room mv) (entAt (joinT T f t room mv) i j).to (entAt (joinT T f t room mv) i j).back).back=j:=by
    intro i hi j hj
    rcases key i hi j hj with ⟨rfl,rfl⟩|⟨rfl,rfl⟩|⟨h1,h2,h3⟩
    · have e1:entAt (joinT T i t room mv) i (tlen T i)=⟨t,room,tlen T t,mv⟩:=by rw [hat,if_pos ⟨rfl,rfl⟩]
      have e2:entAt (joinT T i t room mv) t (tlen T t)=⟨i,0,tlen T i,Mv.none⟩:=by rw [hat,if_neg hne',if_pos ⟨rfl,rfl⟩]
      rw [e1]
      dsimp only
      rw [e2]
      refine ⟨ht,fun h=>hft h.symm,?_,rfl,rfl⟩
      rw [hlen,if_pos rfl];omega
    · have e1:entAt (joinT T f i room mv) i (tlen T i)=⟨f,0,tlen T f,Mv.none⟩:=by rw [hat,if_neg hne',if_pos ⟨rfl,rfl⟩]
      have e2:entAt (joinT T f i room mv) f (tlen T f)=⟨i,room,tlen T i,mv⟩:=by rw [hat,if_pos ⟨rfl,rfl⟩]
      rw [e1]
      dsimp only
      rw [e2]
      refine ⟨hf,hft,?_,rfl,rfl⟩
      rw [hlen,if_pos rfl];omega
    · rw [kold i hi j h3]
      obtain ⟨g1,g2,g3,g4,g5⟩:=hW i hi j h3
      rw [kold _ g1 _ g3]
      refine ⟨g1,g2,?_,g4,g5⟩
      rw [hlen];omega
  exact ⟨fun i hi j hj=>(all i hi j hj).1,fun i hi j hj=>(all i hi j hj).2.1,fun i hi j hj=>(all i hi j hj).2.2.1,fun i hi j hj=>(all i hi j hj).2.2.2.1,fun i hi j hj=>(all i hi j hj).2.2.2.2⟩
theorem tR {B:Int} (hft:f≠t) (hf:f<k) (ht:t<k) (hr:0≤room∧room≤B) (W:(T.net k).Wf) (O:Ok (T.net k) T.room B):Ok ((joinT T f t room mv).net k) (joinT T f t room mv).room B:=by
  have hlen:=tQ (T:=T) (room:=room) (mv:=mv) hft
  have hat:=xC (T:=T) (room:=room) (mv:=mv) hft
  have W':=mY (room:=room) (mv:=mv) hft hf ht W
  have hroom:∀ i j,(joinT T f t room mv).room i j=if i=f∧j=tlen T f then room else if i=t∧j=tlen T t then 0 else T.room i j:=by
    intro i j
    show (entAt (joinT T f t room mv) i j).room=_
    rw [hat]
    split
    · rfl
    · split <;> rfl
  have hold:∀ i,i<k→∀ j,j<tlen (joinT T f t room mv) i→¬ (i=f∧j=tlen T f)→¬ (i=t∧j=tlen T t)→j<tlen T i:=by
    intro i hi j hj h1 h2
    rw [hlen] at hj
    by_cases e1:i=f
    · subst e1;rw [if_pos rfl,if_neg hft] at hj;have:j≠tlen T i:=fun e=>h1 ⟨rfl,e⟩;omega
    · by_cases e2:i=t
      · subst e2;rw [if_neg e1,if_pos rfl] at hj;have:j≠tlen T i:=fun e=>h2 ⟨rfl,e⟩;omega
      · rw [if_neg e1,if_neg e2] at hj;omega
  refine ⟨fun i hi j hj=>?_,fun i hi j hj=>?_⟩
  · rw [hroom]
    split
    · exact hr.1
    · rename_i h1
      split
      · exact Int.le_refl _
      · rename_i h2
        exact O.nn i hi j (hold i hi j hj h1 h2)
  · have hne':¬ (t=f∧tlen T t=tlen T f):=fun h=>hft h.1.symm
    show (joinT T f t room mv).room i j+(joinT T f t room mv).room (entAt (joinT T f t room mv) i j).to (entAt (joinT T f t room mv) i j).back≤B
    by_cases h1:i=f∧j=tlen T f
    · rw [hat,if_pos h1]
      dsimp only
      rw [hroom,hroom,if_pos h1,if_neg hne',if_pos ⟨rfl,rfl⟩]
      omega
    · by_cases h2:i=t∧j=tlen T t
      · rw [hat,if_neg h1,if_pos h2]
        dsimp only
        rw [hroom,hroom,if_neg h1,if_pos h2,if_pos ⟨rfl,rfl⟩]
        omega
      · have h3:=hold i hi j hj h1 h2
        have g1:=W.to_lt i hi j h3
        have g3:=W.bk_lt i hi j h3
        rw [hat,if_neg h1,if_neg h2,hroom,hroom,if_neg h1,if_neg h2]
        have e1:¬ ((entAt T i j).to=f∧(entAt T i j).back=tlen T f):=fun h=>by
          have:(entAt T i j).back<tlen T (entAt T i j).to:=g3
          rw [h.1,h.2] at this;omega
        have e2:¬ ((entAt T i j).to=t∧(entAt T i j).back=tlen T t):=fun h=>by
          have:(entAt T i j).back<tlen T (entAt T i j).to:=g3
          rw [h.1,h.2] at this;omega
        rw [if_neg e1,if_neg e2]
        exact O.pair i hi j h3
theorem oJ {e:Ent} {S:Nat→Bool} (hf:f<k):resid (Tab.net (upd T f (T f++[e])) k) (Tab.room (upd T f (T f++[e]))) S=resid (T.net k) T.room S+(if S f=true∧S e.to=false then e.room else 0):=by
  unfold resid
  have hrow:∀ i,i≠f→upd T f (T f++[e]) i=T i:=fun i h=>bI _ _ h
  have h:=mC (f:=fun i=>sm (fun j=>if S i=true∧S ((T.net k).to i j)=false then T.room i j else 0) ((T.net k).n i))
    (g:=fun i=>sm (fun j=>if S i=true∧S ((Tab.net (upd T f (T f++[e])) k).to i j)=false then Tab.room (upd T f (T f++[e])) i j else 0) ((Tab.net (upd T f (T f++[e])) k).n i)) hf
    (fun i hi hne=>by
      show sm (fun j=>if S i=true∧S (entAt (upd T f (T f++[e])) i j).to=false then (entAt (upd T f (T f++[e])) i j).room else 0) (tlen (upd T f (T f++[e])) i)=_
      unfold entAt tlen
      rw [hrow i hne]
      rfl)
  show sm _ k=_
  refine h.trans ?_
  congr 1
  have e1:sm (fun j=>if S f=true∧S (entAt (upd T f (T f++[e])) f j).to=false then (entAt (upd T f (T f++[e])) f j).room else 0) (tlen (upd T f (T f++[e])) f) =
      sm (fun j=>if S f=true∧S (entAt T f j).to=false then (entAt T f j).room else 0) (tlen T f)+(if S f=true∧S e.to=false then e.room else 0):=by
    have hl:tlen (upd T f (T f++[e])) f=tlen T f+1:=by unfold tlen;rw [bH];simp
    rw [hl,sm]
    have hlast:entAt (upd T f (T f++[e])) f (tlen T f)=e:=by unfold entAt tlen;rw [bH,jY,if_pos rfl]
    rw [hlast]
    congr 1
    refine hY fun j hj=>?_
    have:entAt (upd T f (T f++[e])) f j=entAt T f j:=by unfold entAt;rw [bH,jY,if_neg (by unfold tlen at hj;omega)]
    rw [this]
  show sm (fun j=>if S f=true∧S (entAt (upd T f (T f++[e])) f j).to=false then (entAt (upd T f (T f++[e])) f j).room else 0) (tlen (upd T f (T f++[e])) f) -
      sm (fun j=>if S f=true∧S (entAt T f j).to=false then (entAt T f j).room else 0) (tlen T f)=_
  omega
end
def capJ (S:Nat→Bool):List Jn→Int
  | []=>0
  | j::J=>(if S j.f=true∧S j.t=false then j.room else 0)+capJ S J
theorem gT (S:Nat→Bool) (J J':List Jn):capJ S (J++J')=capJ S J+capJ S J':=by
  induction J with
  | nil=>simp [capJ]
  | cons j J ih=>simp only [List.cons_append,capJ,ih];omega
theorem qE {S:Nat→Bool} {J:List Jn} (h:∀ j ∈ J,S j.f=true→S j.t=false→j.room=0):capJ S J=0:=by
  induction J with
  | nil=>rfl
  | cons j J ih=>
    rw [capJ,ih (fun x hx=>h x (List.mem_cons_of_mem _ hx))]
    split
    · rename_i h1;rw [h j (List.mem_cons_self ..) h1.1 h1.2];rfl
    · rfl
theorem zB {k:Nat} {S:Nat→Bool}:resid (Tab.net (fun _=>[]) k) (Tab.room (fun _=>[])) S=0:=nE fun i _=>rfl
theorem zC {k:Nat} {B:Int} (hB:0≤B):∀ (J:List Jn),(∀ j ∈ J,j.f≠j.t∧j.f<k∧j.t<k∧0≤j.room∧j.room≤B)→((joins J).net k).Wf∧Ok ((joins J).net k) (joins J).room B∧∀ S,resid ((joins J).net k) (joins J).room S=capJ S J:=by
  have key:∀ (n:Nat) (J:List Jn),J.length=n→(∀ j ∈ J,j.f≠j.t∧j.f<k∧j.t<k∧0≤j.room∧j.room≤B)→((joins J).net k).Wf∧Ok ((joins J).net k) (joins J).room B∧∀ S,resid ((joins J).net k) (joins J).room S=capJ S J:=by
    intro n
    induction n with
    | zero=>
      intro J h _
      have:J=[]:=List.eq_nil_of_length_eq_zero h
      subst this
      exact ⟨⟨fun i _ j hj=>absurd hj (Nat.not_lt_zero j),fun i _ j hj=>absurd hj (Nat.not_lt_zero j),fun i _ j hj=>absurd hj (Nat.not_lt_zero j),fun i _ j hj=>absurd hj (Nat.not_lt_zero j),fun i _ j hj=>absurd hj (Nat.not_lt_zero j)⟩,
        ⟨fun i _ j hj=>absurd hj (Nat.not_lt_zero j),fun i _ j hj=>absurd hj (Nat.not_lt_zero j)⟩,fun S=>zB⟩
    | succ n ih=>
      intro J h hn
      obtain ⟨J',j,rfl⟩:∃ J' j,J=J'++[j]:=⟨J.dropLast,J.getLast (by intro e;subst e;simp at h),(List.dropLast_concat_getLast _).symm⟩
      obtain ⟨W,O,hr⟩:=ih J' (by simpa using h) (fun x hx=>hn x (List.mem_append_left _ hx))
      obtain ⟨h1,h2,h3,h4,h5⟩:=hn j (List.mem_append_right _ (by simp))
      rw [fD]
      refine ⟨mY h1 h2 h3 W,tR h1 h2 h3 ⟨h4,h5⟩ W O,fun S=>?_⟩
      rw [gT]
      unfold joinT
      have e1:=oJ (T:=joins J') (f:=j.f) (k:=k) (e:=⟨j.t,j.room,(joins J' j.t).length,j.mv⟩) (S:=S) h2
      have e2:=oJ (T:=upd (joins J') j.f (joins J' j.f++[⟨j.t,j.room,(joins J' j.t).length,j.mv⟩])) (f:=j.t) (k:=k) (e:=⟨j.f,0,(joins J' j.f).length,Mv.none⟩) (S:=S) h3
      rw [bI (i:=j.t) _ _ (fun e=>h1 e.symm)] at e2
      rw [e2,e1,hr S]
      simp only [capJ]
      split <;> split <;> omega
  intro J h
  exact key _ J rfl h
section
variable {P T:Nat} {pe xs:List Int} {hs:List Hd}
def JRoom (B:Int) (j:Jn):Prop:=0≤j.room∧j.room≤B
theorem vU {p:Nat} (hpe:∀ k,k<pe.length→0≤pe.getD k 0∧pe.getD k 0≤1000):∀ j ∈ gF P T pe xs p,JRoom 1099511627776 j:=by
  intro j hj
  unfold gF cA dC at hj
  rcases List.mem_cons.1 hj with rfl|hj
  · unfold JRoom jBeg
    dsimp only
    by_cases h:p<pe.length
    · have:=hpe p h;omega
    · rw [List.getD_eq_getElem?_getD,List.getElem?_eq_none (by omega)];simp
  · rcases List.mem_append.1 hj with hj|hj
    · obtain ⟨t,_,rfl⟩:=List.mem_map.1 hj
      unfold JRoom jWait rM;dsimp only;omega
    · split at hj
      · obtain ⟨t,_,rfl⟩:=List.mem_map.1 hj
        unfold JRoom jExit rM;dsimp only;omega
      · cases hj
theorem tS (hpe:∀ k,k<pe.length→0≤pe.getD k 0∧pe.getD k 0≤1000):∀ n,∀ j ∈ aW P T pe xs n,JRoom 1099511627776 j:=by
  intro n
  induction n with
  | zero=>intro j hj;cases hj
  | succ n ih=>
    intro j hj
    rcases List.mem_append.1 hj with hj|hj
    · exact ih j hj
    · exact vU hpe j hj
theorem vV (hw:∀ i,i<hs.length→1≤(hs.getD i Hd.zero).wide∧(hs.getD i Hd.zero).wide≤50):∀ {n},n≤hs.length→∀ j ∈ cP P T hs n,JRoom 1099511627776 j:=by
  intro n
  induction n with
  | zero=>intro _ j hj;cases hj
  | succ n ih=>
    intro hn j hj
    rcases List.mem_append.1 hj with hj|hj
    · exact ih (by omega) j hj
    · obtain ⟨t,_,rfl⟩:=List.mem_map.1 hj
      have:=hw n (by omega)
      unfold JRoom jHead;dsimp only;omega
theorem zD (hpe:∀ k,k<pe.length→0≤pe.getD k 0∧pe.getD k 0≤1000) (hh:∀ i,i<hs.length→HdOk P (hs.getD i Hd.zero)):capJ (fun v=>decide (v=P*(T+1))) (jAll P T pe xs hs)≤1000*P:=by
  have h1 : ∀ n,n≤P→capJ (fun v=>decide (v=P*(T+1))) (aW P T pe xs n)≤1000*n:=by
    intro n
    induction n with
    | zero=>intro _;simp [aW,capJ]
    | succ n ih=>
      intro hn
      rw [aW,gT]
      have h2:=ih (by omega)
      have h3 : capJ (fun v=>decide (v=P*(T+1))) (gF P T pe xs n)≤1000:=by
        unfold gF
        rw [capJ,qE (J:=cA P n T++_)]
        · have hb:(jBeg P T pe n).room≤1000:=by
            unfold jBeg;dsimp only
            by_cases h:n<pe.length
            · have:=hpe n h;omega
            · rw [List.getD_eq_getElem?_getD,List.getElem?_eq_none (by omega)];simp
          split <;> omega
        · intro j hj hf
          exfalso
          have hf':j.f=P*(T+1):=by simpa using hf
          unfold cA dC at hj
          rcases List.mem_append.1 hj with hj|hj
          · obtain ⟨t,ht,rfl⟩:=List.mem_map.1 hj
            have:=lM (P:=P) (T:=T) (t:=t) (p:=n) (by have:=List.mem_range.1 ht;omega) (by omega)
            have e:(jWait P n t).f=nd P t n:=rfl
            omega
          · split at hj
            · obtain ⟨t,ht,rfl⟩:=List.mem_map.1 hj
              have:=lM (P:=P) (T:=T) (t:=t) (p:=n) (by have:=List.mem_range.1 ht;omega) (by omega)
              have e:(jExit P T n t).f=nd P t n:=rfl
              omega
            · cases hj
      push_cast
      omega
  have h2:∀ n,n≤hs.length→capJ (fun v=>decide (v=P*(T+1))) (cP P T hs n)=0:=by
    intro n
    induction n with
    | zero=>intro _;rfl
    | succ n ih=>
      intro hn
      rw [cP,gT,ih (by omega),qE]
      · rfl
      · intro j hj hf
        exfalso
        have hf':j.f=P*(T+1):=by simpa using hf
        obtain ⟨t,ht,rfl⟩:=List.mem_map.1 hj
        have h9:=hh n (by omega)
        unfold HdOk at h9
        have:=lM (P:=P) (T:=T) (t:=t) (p:=(hs.getD n Hd.zero).fr.toNat) (by have:=List.mem_range.1 ht;omega) (by omega)
        have e:(jHead P (hs.getD n Hd.zero) t).f=nd P t (hs.getD n Hd.zero).fr.toNat:=rfl
        omega
  unfold jAll
  rw [gT,h2 _ (Nat.le_refl _)]
  have:=h1 P (Nat.le_refl _)
  omega
end
def layT (P T:Nat) (pe xs:List Int) (hs:List Hd):Tab:=joins (jAll P T pe xs hs)
def layN (P T:Nat) (pe xs:List Int) (hs:List Hd):Net:=(layT P T pe xs hs).net (P*(T+1)+2)
structure LayOk (P T:Nat) (pe xs:List Int) (hs:List Hd):Prop where
  wf:(layN P T pe xs hs).Wf
  ok:Ok (layN P T pe xs hs) (layT P T pe xs hs).room 2199023255552
  cap:∀ S,resid (layN P T pe xs hs) (layT P T pe xs hs).room S=capJ S (jAll P T pe xs hs)
  beg:resid (layN P T pe xs hs) (layT P T pe xs hs).room (fun v=>decide (v=P*(T+1)))≤1000*P
theorem Cn {P:Int} {ps:List Psg} {xs:List Int} {out:Int} (h:StV P ps xs):∀ i,i<(hds out xs ps).length→1≤((hds out xs ps).getD i Hd.zero).wide∧((hds out xs ps).getD i Hd.zero).wide≤50:=by
  have key:∀ n,n≤ps.length→∀ x ∈ hdsTo out xs ps n,1≤x.wide∧x.wide≤50:=by
    intro n
    induction n with
    | zero=>intro _ x hx;cases hx
    | succ n ih=>
      intro hn x hx
      rcases List.mem_append.1 hx with hx|hx
      · exact ih (by omega) x hx
      · have hp:=cO.1 (h.pas n (by omega))
        unfold hdsOf hdsA hdsB at hx
        split at hx
        · cases hx
        · rcases List.mem_append.1 hx with hx|hx
          · split at hx
            · cases hx
            · rw [List.mem_singleton.1 hx];dsimp only;omega
          · split at hx
            · rw [List.mem_singleton.1 hx];dsimp only;omega
            · cases hx
  intro i hi
  rw [List.getD_eq_getElem?_getD,List.getElem?_eq_getElem hi]
  exact key _ (Nat.le_refl _) _ (List.getElem_mem hi)
theorem Im {P T:Nat} {ps:List Psg} {pe xs:List Int} {out:Int} (h:StV P ps xs) (hpe:∀ k,k<pe.length→0≤pe.getD k 0∧pe.getD k 0≤1000):LayOk P T pe xs (hds out xs ps):=by
  obtain ⟨W,O,hr⟩:=zC (k:=P*(T+1)+2) (B:=2199023255552) (by omega) (jAll P T pe xs (hds out xs ps)) (by
    intro j hj
    have h1:JOk P T j∧JRoom 1099511627776 j:=by
      rcases List.mem_append.1 hj with hj|hj
      · exact ⟨kO (Nat.le_refl _) j hj,tS hpe P j hj⟩
      · exact ⟨qD (vT h) (Nat.le_refl _) j hj,vV (Cn h) (Nat.le_refl _) j hj⟩
    obtain ⟨⟨a1,a2,a3⟩,a4,a5⟩:=h1
    exact ⟨a1,a2,a3,a4,by omega⟩)
  exact ⟨W,O,hr,Int.le_trans (Int.le_of_eq (hr _)) (zD hpe (vT h))⟩
structure EndP (P T:Nat) (pe xs:List Int) (hs:List Hd) (v:Int) (r:RM) (L:Nat→Int):Prop where
  fl:Fl (layN P T pe xs hs) (layT P T pe xs hs).room r (P*(T+1)) (P*(T+1)+1) v
  nn:0≤v
  lev:LevOk (layN P T pe xs hs) r (P*(T+1)) L
  full:L (P*(T+1)+1)<0
def fstB (f:Nat→Bool):Nat→Nat
  | 0=>0
  | n+1=>if fstB f n<n then fstB f n else if f n=true then n else n+1
theorem iE {f:Nat→Bool}:∀ {n},(∀ q,q<n→f q=false)→fstB f n=n:=by
  intro n
  induction n with
  | zero=>intro _;rfl
  | succ n ih=>intro h;rw [fstB,ih (fun q hq=>h q (by omega)),if_neg (by omega),if_neg (by rw [h n (by omega)];simp)]
theorem vW {f:Nat→Bool} {t:Nat} (h1:∀ q,q<t→f q=false) (h2:f t=true):∀ {n},t<n→fstB f n=t:=by
  intro n
  induction n with
  | zero=>intro h;omega
  | succ n ih=>
    intro h
    by_cases e:t=n
    · subst e;rw [fstB,iE h1,if_neg (by omega),if_pos h2]
    · rw [fstB,ih (by omega),if_pos (by omega)]
def sumI (l:List Int):Nat→Int:=sm (fun k=>l.getD k 0)
theorem oK {N:Net} {r:RM} {S:Nat→Bool} (hn:∀ i,i<N.k→∀ j,j<N.n i→0≤r i j) (h:resid N r S=0):∀ u,u<N.k→S u=true→∀ j,j<N.n u→0<r u j→S (N.to u j)=true:=by
  intro u hu hS j hj hr
  have h1:=kI (f:=fun i=>sm (fun j=>if S i=true∧S (N.to i j)=false then r i j else 0) (N.n i)) (fun i hi=>fB fun j hj=>by split;exact hn i hi j hj;exact Int.le_refl _) h u hu
  have h2:=kI (f:=fun j=>if S u=true∧S (N.to u j)=false then r u j else 0) (fun j hj=>by split;exact hn u hu j hj;exact Int.le_refl _) h1 j hj
  cases hs:S (N.to u j) with
  | true=>rfl
  | false=>
    skip
    rw [if_pos ⟨hS,hs⟩] at h2
    omega
def eB (L:Nat→Int) (v:Nat):Bool:=decide (0≤L v)
section
variable {P T:Nat} {pe xs:List Int} {hs:List Hd} {v v':Int} {r r':RM} {L L':Nat→Int}
theorem rN {S:Nat→Bool} (hb:S (P*(T+1))=true) (hx:S (P*(T+1)+1)=false):ind S (P*(T+1))-ind S (P*(T+1)+1)=1:=by
  unfold ind;rw [hb,hx];rfl
theorem EndP.bound (O:LayOk P T pe xs hs) (h:EndP P T pe xs hs v r L) {S:Nat→Bool} (hb:S (P*(T+1))=true) (hx:S (P*(T+1)+1)=false):v≤capJ S (jAll P T pe xs hs):=by
  have h1:=kZ (S:=S) (h.fl.ok O.ok)
  rw [h.fl.cut,O.cap,rN hb hx] at h1
  omega
theorem EndP.at_reach (O:LayOk P T pe xs hs) (h:EndP P T pe xs hs v r L):eB L (P*(T+1))=true∧eB L (P*(T+1)+1)=false∧capJ (eB L) (jAll P T pe xs hs)=v:=by
  have hb:eB L (P*(T+1))=true:=by unfold eB;rw [h.lev.b0];rfl
  have hx:eB L (P*(T+1)+1)=false:=by unfold eB;rw [decide_eq_false_iff_not];have:=h.full;omega
  refine ⟨hb,hx,?_⟩
  have h0:resid (layN P T pe xs hs) r (eB L)=0:=nE fun i hi=>nE fun j hj=>by
    split
    · rename_i hc
      obtain ⟨h1,h2⟩:=hc
      unfold eB at h1 h2
      simp only [decide_eq_true_eq,decide_eq_false_iff_not] at h1 h2
      have h3:=h.fl.nn i hi j hj
      by_cases h4:0<r i j
      · exact absurd (h.lev.cl i hi h1 j hj h4) h2
      · omega
    · rfl
  rw [h.fl.cut,O.cap,rN hb hx] at h0
  omega
theorem EndP.unique (O:LayOk P T pe xs hs) (h:EndP P T pe xs hs v r L) (h':EndP P T pe xs hs v' r' L'):v=v':=by
  obtain ⟨a1,a2,a3⟩:=h.at_reach O
  obtain ⟨b1,b2,b3⟩:=h'.at_reach O
  have h1:=h.bound O b1 b2
  have h2:=h'.bound O a1 a2
  omega
theorem EndP.inside (O:LayOk P T pe xs hs) (h:EndP P T pe xs hs v r L) {S:Nat→Bool} (hb:S (P*(T+1))=true) (hx:S (P*(T+1)+1)=false) (hc:capJ S (jAll P T pe xs hs)=v):∀ u,u<P*(T+1)+2→0≤L u→S u=true:=by
  have h0:resid (layN P T pe xs hs) r S=0:=by rw [h.fl.cut,O.cap,rN hb hx];omega
  exact h.lev.least hb (oK h.fl.nn h0)
theorem EndP.same (O:LayOk P T pe xs hs) (h:EndP P T pe xs hs v r L) (h':EndP P T pe xs hs v' r' L'):∀ u,u<P*(T+1)+2→eB L u=eB L' u:=by
  have e:=h.unique O h'
  obtain ⟨a1,a2,a3⟩:=h.at_reach O
  obtain ⟨b1,b2,b3⟩:=h'.at_reach O
  intro u hu
  have h1:=h.inside O b1 b2 (by omega) u hu
  have h2:=h'.inside O a1 a2 (by omega) u hu
  unfold eB at h1 h2 ⊢
  exact decide_eq_decide.2 ⟨fun h=>of_decide_eq_true (h1 h),fun h=>of_decide_eq_true (h2 h)⟩
end
open Classical in
noncomputable def mfv (P T:Nat) (pe xs:List Int) (hs:List Hd):Int:=if h:∃ v,∃ r L,EndP P T pe xs hs v r L then Classical.choose h else 0
section
variable {P T:Nat} {pe xs:List Int} {hs:List Hd} {v:Int} {r:RM} {L:Nat→Int}
theorem Io (O:LayOk P T pe xs hs) (h:EndP P T pe xs hs v r L):mfv P T pe xs hs=v:=by
  have he:∃ v,∃ r L,EndP P T pe xs hs v r L:=⟨v,r,L,h⟩
  unfold mfv
  rw [dif_pos he]
  obtain ⟨r',L',h'⟩:=Classical.choose_spec he
  exact h'.unique O h
end
def opn (out:Int) (help:Bool) (p:Psg):Bool:=(decide (p.kind=1)||(decide (p.kind=4)&&decide (bitI out p.mach=0)))||(decide (p.kind=5)&&help)
theorem Co {out:Int} {help:Bool} {p:Psg} (h:(p.kind=1∨p.kind=4∧out/2^p.mach.toNat%2=0)∨p.kind=5∧help=true):opn out help p=true:=by
  unfold opn bitI
  simp only [Bool.or_eq_true,Bool.and_eq_true,decide_eq_true_eq]
  exact h
theorem Ky {out:Int} {help:Bool} {p:Psg} (h:(¬p.kind=1∧(¬p.kind=4∨¬out/2^p.mach.toNat%2=0))∧(¬p.kind=5∨help=false)):opn out help p=false:=by
  unfold opn bitI
  simp only [Bool.or_eq_false_iff,Bool.and_eq_false_iff,decide_eq_false_iff_not]
  exact h
def othr (p:Psg) (a:Int):Int:=if p.a=a then p.b else if p.b=a then p.a else -1
def oth (out:Int) (help:Bool) (p:Psg) (a:Int):Int:=if opn out help p=false then -1 else othr p a
inductive Wk (ps:List Psg) (out:Int) (help:Bool):Nat→Nat→Nat→List Nat→Prop
  | nil (a:Nat):Wk ps out help a a 0 []
  | cons {a b c n k:Nat} {l:List Nat} (hk:k<ps.length) (ho:oth out help (ps.getD k Psg.zero) a=(b:Int)) (h:Wk ps out help b c n l):Wk ps out help a c ((ps.getD k Psg.zero).ticks.toNat+n) (k::l)
def PsV (P:Nat) (ps:List Psg):Prop:=∀ k,k<ps.length→(0≤(ps.getD k Psg.zero).a∧(ps.getD k Psg.zero).a<P)∧(0≤(ps.getD k Psg.zero).b∧(ps.getD k Psg.zero).b<P)∧1≤(ps.getD k Psg.zero).ticks∧(ps.getD k Psg.zero).ticks≤20
theorem StV.psv {P:Nat} {ps:List Psg} {xs:List Int} (h:StV P ps xs):PsV P ps:=fun k hk=>by
  have:=cO.1 (h.pas k hk)
  omega
theorem oL {P:Nat} {ps:List Psg} (V:PsV P ps) {out:Int} {help:Bool} {k:Nat} (hk:k<ps.length) {a:Int} (h:0≤oth out help (ps.getD k Psg.zero) a):opn out help (ps.getD k Psg.zero)=true∧oth out help (ps.getD k Psg.zero) a<P∧((ps.getD k Psg.zero).a=a∧oth out help (ps.getD k Psg.zero) a=(ps.getD k Psg.zero).b∨(ps.getD k Psg.zero).b=a∧oth out help (ps.getD k Psg.zero) a=(ps.getD k Psg.zero).a):=by
  have:=V k hk
  unfold oth othr at h ⊢
  split at h
  · omega
  · rename_i h1
    refine ⟨by simpa using h1,?_⟩
    rw [if_neg h1]
    split at h
    · rename_i h2;rw [if_pos h2];exact ⟨by omega,.inl ⟨h2,rfl⟩⟩
    · rename_i h2
      rw [if_neg h2]
      split at h
      · rename_i h3;rw [if_pos h3];exact ⟨by omega,.inr ⟨h3,rfl⟩⟩
      · omega
def FixAt (ps:List Psg) (out:Int) (help:Bool) (tk:Nat→Int) (i k:Nat):Prop:=∀ b:Nat,oth out help (ps.getD k Psg.zero) i=(b:Int)→0≤tk b→0≤tk i∧tk i≤tk b+(ps.getD k Psg.zero).ticks
def potF (P:Nat) (tk:Nat→Int):Int:=sm (fun i=>if tk i<0 then 1000 else tk i) P
def cntF (P:Nat) (tk:Nat→Int):Int:=sm (fun i=>if tk i<0 then 0 else 1) P
structure FarI (P:Nat) (ps:List Psg) (out:Int) (help:Bool) (to:Nat) (tk:Nat→Int):Prop where
  to0:tk to=0
  low:∀ i,-1≤tk i
  walk:∀ i,i<P→0≤tk i→∃ l,Wk ps out help i to (tk i).toNat l
  bd:∀ i,i<P→tk i≤20*(cntF P tk-1)
theorem Fv {P:Nat} {tk:Nat→Int}:cntF P tk≤P:=by
  unfold cntF
  induction P with
  | zero=>exact Int.le_refl 0
  | succ n ih=>rw [sm];split <;> omega
theorem xD {P:Nat} {tk:Nat→Int}:0≤potF P tk:=fB fun i _=>by split <;> omega
def tk0 (to:Nat) (i:Nat):Int:=if i=to then 0 else -1
section
variable {P:Nat} {ps:List Psg} {out:Int} {help:Bool} {to:Nat} {tk:Nat→Int}
theorem FarI.init (hto:to<P):FarI P ps out help to (tk0 to):=by
  have h1:tk0 to to=0:=by unfold tk0;rw [if_pos rfl]
  have hc:1≤cntF P (tk0 to):=by
    have:=Hw (f:=fun i=>if tk0 to i<0 then 0 else 1) (fun i _=>by split <;> omega) hto
    rw [h1] at this
    exact this
  refine ⟨h1,fun i=>?_,fun i _ h0=>?_,fun i _=>?_⟩
  · unfold tk0;split <;> omega
  · unfold tk0 at h0 ⊢
    split at h0
    · rename_i e;subst e;rw [if_pos rfl];exact ⟨_,Wk.nil _⟩
    · omega
  · unfold tk0 at hc ⊢;split <;> omega
theorem FarI.small (I:FarI P ps out help to tk) (hP:P≤10) {i:Nat} (hi:i<P):tk i≤180:=by
  have:=I.bd i hi
  have:=Fv (P:=P) (tk:=tk)
  omega
theorem FarI.relax (I:FarI P ps out help to tk) (V:PsV P ps) {i b k:Nat} (hi:i<P) (hb:b<P) (hk:k<ps.length) (ho:oth out help (ps.getD k Psg.zero) i=(b:Int)) (h0:0≤tk b) (hl:tk i<0∨tk b+(ps.getD k Psg.zero).ticks<tk i) :
    FarI P ps out help to (upd tk i (tk b+(ps.getD k Psg.zero).ticks))∧potF P (upd tk i (tk b+(ps.getD k Psg.zero).ticks))+1≤potF P tk∨900<tk b+(ps.getD k Psg.zero).ticks:=by
  by_cases hbig:900<tk b+(ps.getD k Psg.zero).ticks
  · exact .inr hbig
  refine .inl ?_
  have ht:1≤(ps.getD k Psg.zero).ticks∧(ps.getD k Psg.zero).ticks≤20:=(V k hk).2.2
  have hti:i≠to:=fun e=>by subst e;have:=I.to0;omega
  have hbi:b≠i:=fun e=>by subst e;omega
  have hc:cntF P (upd tk i (tk b+(ps.getD k Psg.zero).ticks))=cntF P tk+(if tk i<0 then 1 else 0):=by
    unfold cntF
    rw [mC (f:=fun i=>if tk i<0 then 0 else 1) hi (fun j _ hj=>by rw [bI _ _ hj]),bH,if_neg (by omega)]
    split <;> omega
  refine ⟨⟨by rw [bI _ _ (fun e=>hti e.symm)];exact I.to0,fun j=>?_,fun j hj h=>?_,fun j hj=>?_⟩,?_⟩
  · by_cases e:j=i
    · subst e;rw [bH];omega
    · rw [bI _ _ e];exact I.low j
  · by_cases e:j=i
    · subst e
      rw [bH]
      obtain ⟨l,hw⟩:=I.walk b hb h0
      have:=Wk.cons hk ho hw
      rw [show (tk b+(ps.getD k Psg.zero).ticks).toNat=(ps.getD k Psg.zero).ticks.toNat+(tk b).toNat by omega]
      exact ⟨_,this⟩
    · rw [bI _ _ e] at h ⊢;exact I.walk j hj h
  · rw [hc]
    have hbb:=I.bd b hb
    by_cases e:j=i
    · subst e
      rw [bH]
      have:=I.bd j hj
      split <;> omega
    · rw [bI _ _ e];have:=I.bd j hj;split <;> omega
  · unfold potF
    rw [mC (f:=fun i=>if tk i<0 then 1000 else tk i) hi (fun j _ hj=>by rw [bI _ _ hj]),bH,if_neg (by omega)]
    split <;> omega
theorem FarI.step (I:FarI P ps out help to tk) (V:PsV P ps) (hP:P≤10) {i b k:Nat} (hi:i<P) (hb:b<P) (hk:k<ps.length) (ho:oth out help (ps.getD k Psg.zero) i=(b:Int)) (h0:0≤tk b) (hl:tk i<0∨tk b+(ps.getD k Psg.zero).ticks<tk i) :
    FarI P ps out help to (upd tk i (tk b+(ps.getD k Psg.zero).ticks))∧potF P (upd tk i (tk b+(ps.getD k Psg.zero).ticks))+1≤potF P tk:=by
  rcases I.relax V hi hb hk ho h0 hl with h|h
  · exact h
  · exfalso
    have:=I.small hP hb
    have:(ps.getD k Psg.zero).ticks≤20:=(V k hk).2.2.2
    omega
end
theorem oM {ps:List Psg} {out:Int} {help:Bool} {tk:Nat→Int} {i k:Nat} (h:oth out help (ps.getD k Psg.zero) i<0∨tk (oth out help (ps.getD k Psg.zero) i).toNat<0∨(0≤tk i∧tk i≤tk (oth out help (ps.getD k Psg.zero) i).toNat+(ps.getD k Psg.zero).ticks)):FixAt ps out help tk i k:=fun b hb h0=>by
  rw [hb,Int.toNat_natCast] at h
  omega
def b2i (b:Bool):Int:=if b=true then 1 else 0
theorem rO {P:Nat} {ps:List Psg} {out:Int} {help:Bool} {tk:Nat→Int} {m:Bool} {f k:Nat} (h:m=false→(∀ i,i<f→∀ k,k<ps.length→FixAt ps out help tk i k)∧∀ q,q<k→FixAt ps out help tk f q) (hk:FixAt ps out help tk f k) :
    m=false→(∀ i,i<f→∀ k,k<ps.length→FixAt ps out help tk i k)∧∀ q,q<k+1→FixAt ps out help tk f q:=fun e=>⟨(h e).1,fun q hq=>by
  by_cases e2:q=k
  · subst e2;exact hk
  · exact (h e).2 q (by omega)⟩
theorem Ip {P:Nat} {ps:List Psg} {out:Int} {help:Bool} {tk:Nat→Int} {m:Bool} {f k:Nat} (hk:ps.length≤k) (h:m=false→(∀ i,i<f→∀ k,k<ps.length→FixAt ps out help tk i k)∧∀ q,q<k→FixAt ps out help tk f q) :
    m=false→∀ i,i<f+1→∀ k,k<ps.length→FixAt ps out help tk i k:=fun e i hi q hq=>by
  by_cases e2:i=f
  · subst e2;exact (h e).2 q (by omega)
  · exact (h e).1 i (by omega) q hq
theorem FarI.up {P:Nat} {ps:List Psg} {out:Int} {help:Bool} {to:Nat} {tk:Nat→Int} (I:FarI P ps out help to tk) (V:PsV P ps) (hP:P≤10) {i k:Nat} {X:Int} {m:Bool} {Q:Prop} (hi:i<P) (hk:k<ps.length) (ho:0≤oth out help (ps.getD k Psg.zero) i) (hb:oth out help (ps.getD k Psg.zero) i<P) (h0:0≤tk (oth out help (ps.getD k Psg.zero) i).toNat)
    (hl:tk i<0∨tk (oth out help (ps.getD k Psg.zero) i).toNat+(ps.getD k Psg.zero).ticks<tk i) (hp:potF P tk+b2i m≤X) :
    FarI P ps out help to (upd tk i (tk (oth out help (ps.getD k Psg.zero) i).toNat+(ps.getD k Psg.zero).ticks))∧potF P (upd tk i (tk (oth out help (ps.getD k Psg.zero) i).toNat+(ps.getD k Psg.zero).ticks))+b2i true≤X∧(true=false→Q):=by
  have h:=I.step V hP hi (b:=(oth out help (ps.getD k Psg.zero) i).toNat) (by omega) hk (by omega) h0 hl
  have h8:b2i true=1:=rfl
  have h9:0≤b2i m:=by unfold b2i;split <;> omega
  exact ⟨h.1,by omega,fun e=>by cases e⟩
structure FarOk (P:Nat) (ps:List Psg) (out:Int) (help:Bool) (to:Nat) (tk:Nat→Int):Prop where
  to0:tk to=0
  low:∀ i,-1≤tk i
  walk:∀ i,i<P→0≤tk i→∃ l,Wk ps out help i to (tk i).toNat l
  fix:∀ i,i<P→∀ k,k<ps.length→FixAt ps out help tk i k
  sml:∀ i,i<P→tk i≤200
section
variable {P:Nat} {ps:List Psg} {out:Int} {help:Bool} {to:Nat} {tk tk':Nat→Int}
theorem FarI.done (I:FarI P ps out help to tk) (hP:P≤10) (h:∀ i,i<P→∀ k,k<ps.length→FixAt ps out help tk i k):FarOk P ps out help to tk:=
  ⟨I.to0,I.low,I.walk,h,fun i hi=>by have:=I.small hP hi;omega⟩
theorem FarOk.least (h:FarOk P ps out help to tk) (V:PsV P ps) {a c n:Nat} {l:List Nat} (W:Wk ps out help a c n l):a<P→c=to→0≤tk a∧tk a≤n:=by
  induction W with
  | nil a=>intro _ e;subst e;rw [h.to0];exact ⟨Int.le_refl 0,Int.le_refl 0⟩
  | @cons a b c n k l hk ho _ ih=>
    intro ha e
    have hb:=(oL V hk (a:=(a:Int)) (by rw [ho];omega)).2.1
    rw [ho] at hb
    have h1:=ih (by omega) e
    have h2:=h.fix a ha k hk b ho h1.1
    have:=(V k hk).2.2
    omega
theorem FarOk.unique (h:FarOk P ps out help to tk) (h':FarOk P ps out help to tk') (V:PsV P ps) {i:Nat} (hi:i<P):tk i=tk' i:=by
  have key:∀ {t t':Nat→Int},FarOk P ps out help to t→FarOk P ps out help to t'→0≤t i→0≤t' i∧t' i≤t i:=fun {t t'} H H' h0=>by
    obtain ⟨l,W⟩:=H.walk i hi h0
    have:=H'.least V W hi rfl
    omega
  have l1:=h.low i
  have l2:=h'.low i
  by_cases h0:0≤tk i
  · have h1:=key h h' h0
    have h2:=key h' h h1.1
    omega
  · by_cases h1:0≤tk' i
    · have:=key h' h h1;omega
    · omega
end
open Classical in
noncomputable def dst (P:Nat) (ps:List Psg) (out:Int) (help:Bool) (to:Nat) (i:Nat):Int:=if h:∃ tk,FarOk P ps out help to tk then (if i<P then Classical.choose h i else -1) else 0
section
variable {P:Nat} {ps:List Psg} {out:Int} {help:Bool} {to:Nat} {tk:Nat→Int}
theorem kP (V:PsV P ps) (h:FarOk P ps out help to tk) {i:Nat} (hi:i<P):dst P ps out help to i=tk i:=by
  have he:∃ tk,FarOk P ps out help to tk:=⟨tk,h⟩
  unfold dst
  rw [dif_pos he,if_pos hi]
  exact (Classical.choose_spec he).unique h V hi
theorem Iq (V:PsV P ps) (hto:to<P) (h:FarOk P ps out help to tk):FarOk P ps out help to (dst P ps out help to):=by
  have he:∃ tk,FarOk P ps out help to tk:=⟨tk,h⟩
  have hd:∀ i,¬ i<P→dst P ps out help to i = -1:=fun i hi=>by unfold dst;rw [dif_pos he,if_neg hi]
  refine ⟨(kP V h hto).trans h.to0,fun i=>?_,fun i hi=>?_,fun i hi k hk b hb h0=>?_,fun i hi=>?_⟩
  · by_cases hi:i<P
    · rw [kP V h hi];exact h.low i
    · rw [hd i hi];omega
  · rw [kP V h hi];exact h.walk i hi
  · have hb2:=(oL V hk (a:=(i:Int)) (by rw [hb];omega)).2.1
    rw [hb] at hb2
    rw [kP V h (i:=b) (by omega)] at h0 ⊢
    rw [kP V h hi]
    exact h.fix i hi k hk b hb h0
  · rw [kP V h hi];exact h.sml i hi
end
def stepB (ps:List Psg) (out:Int) (help:Bool) (d:Nat→Int) (at_ k:Nat):Bool:=
  decide (0≤oth out help (ps.getD k Psg.zero) at_)&&(decide (0≤d (oth out help (ps.getD k Psg.zero) at_).toNat)&&decide (d (oth out help (ps.getD k Psg.zero) at_).toNat+(ps.getD k Psg.zero).ticks=d at_))
def stepK (ps:List Psg) (out:Int) (help:Bool) (d:Nat→Int) (at_:Nat):Nat:=fstB (stepB ps out help d at_) ps.length
def wayG (ps:List Psg) (out:Int) (help:Bool) (d:Nat→Int) (to:Nat):Nat→Nat→List Nat
  | 0,_=>[]
  | g+1,a=>if a=to then [] else stepK ps out help d a::wayG ps out help d to g (oth out help (ps.getD (stepK ps out help d a) Psg.zero) a).toNat
section
variable {P:Nat} {ps:List Psg} {out:Int} {help:Bool} {to:Nat} {d:Nat→Int}
theorem xE {g:Nat}:wayG ps out help d to g to=[]:=by
  cases g with
  | zero=>rfl
  | succ g=>unfold wayG;rw [if_pos rfl]
theorem xF (V:PsV P ps) {a k:Nat} (hk:k<ps.length) (h:stepB ps out help d a k=true):∃ b:Nat,oth out help (ps.getD k Psg.zero) a=(b:Int)∧b<P∧0≤d b∧d b+(ps.getD k Psg.zero).ticks=d a∧1≤(ps.getD k Psg.zero).ticks:=by
  unfold stepB at h
  simp only [Bool.and_eq_true,decide_eq_true_eq] at h
  have h1:=oL V hk h.1
  have hV:=(V k hk).2.2
  exact ⟨(oth out help (ps.getD k Psg.zero) a).toNat,by omega,by omega,h.2.1,h.2.2,hV.1⟩
theorem FarOk.step_ex (h:FarOk P ps out help to d) (V:PsV P ps) {a:Nat} (ha:a<P) (h0:0≤d a) (hne:a≠to):∃ k,k<ps.length∧stepB ps out help d a k=true:=by
  obtain ⟨l,W⟩:=h.walk a ha h0
  generalize hn:(d a).toNat=n at W
  cases W with
  | nil=>exact absurd rfl hne
  | @cons _ b _ n2 k l2 hk ho W2=>
    have hb:=(oL V hk (a:=(a:Int)) (by rw [ho];omega)).2.1
    rw [ho] at hb
    have h1:=h.least V W2 (by omega) rfl
    have h2:=h.fix a ha k hk b ho h1.1
    have:=(V k hk).2.2
    refine ⟨k,hk,?_⟩
    unfold stepB
    simp only [Bool.and_eq_true,decide_eq_true_eq]
    rw [ho,Int.toNat_natCast]
    omega
theorem FarOk.stp (h:FarOk P ps out help to d) (V:PsV P ps) {a:Nat} (ha:a<P) (h0:0≤d a) (hne:a≠to):stepK ps out help d a<ps.length∧stepB ps out help d a (stepK ps out help d a)=true∧∀ q,q<stepK ps out help d a→stepB ps out help d a q=false:=by
  obtain ⟨k,hk,hs⟩:=h.step_ex V ha h0 hne
  have key:∀ n,(∃ k,k<n∧stepB ps out help d a k=true)→fstB (stepB ps out help d a) n<n∧stepB ps out help d a (fstB (stepB ps out help d a) n)=true∧∀ q,q<fstB (stepB ps out help d a) n→stepB ps out help d a q=false:=by
    intro n
    induction n with
    | zero=>rintro ⟨k,hk,_⟩;omega
    | succ n ih=>
      rintro ⟨k,hk,hs⟩
      by_cases he:∃ k,k<n∧stepB ps out help d a k=true
      · obtain ⟨h1,h2,h3⟩:=ih he
        rw [fstB,if_pos h1]
        exact ⟨by omega,h2,h3⟩
      · have hno:∀ q,q<n→stepB ps out help d a q=false:=fun q hq=>by
          cases hb:stepB ps out help d a q with
          | false=>rfl
          | true=>exact absurd ⟨q,hq,hb⟩ he
        have hkn:k=n:=by
          by_cases e:k<n
          · exact absurd ⟨k,e,hs⟩ he
          · omega
        subst hkn
        rw [fstB,iE hno,if_neg (by omega),if_pos hs]
        exact ⟨by omega,hs,hno⟩
  exact key _ ⟨k,hk,hs⟩
theorem zE {a k g:Nat} (hne:a≠to) (h:stepK ps out help d a=k):wayG ps out help d to (g+1) a=k::wayG ps out help d to g (oth out help (ps.getD k Psg.zero) a).toNat:=by
  rw [wayG,if_neg hne,h]
theorem FarOk.way (h:FarOk P ps out help to d) (V:PsV P ps):∀ (g a:Nat),a<P→0≤d a→d a≤g→Wk ps out help a to (d a).toNat (wayG ps out help d to g a):=by
  intro g
  induction g with
  | zero=>
    intro a ha h0 hg
    by_cases e:a=to
    · subst e;rw [xE,h.to0];exact Wk.nil _
    · obtain ⟨h1,h2,h3⟩:=h.stp V ha h0 e
      obtain ⟨b,hb,hbP,hb0,hbd,hbt⟩:=xF V h1 h2
      omega
  | succ g ih=>
    intro a ha h0 hg
    by_cases e:a=to
    · subst e;rw [xE,h.to0];exact Wk.nil _
    · obtain ⟨h1,h2,h3⟩:=h.stp V ha h0 e
      obtain ⟨b,hb,hbP,hb0,hbd,hbt⟩:=xF V h1 h2
      rw [zE e rfl,hb,Int.toNat_natCast]
      have:=Wk.cons h1 hb (ih b hbP hb0 (by omega))
      rw [show (d a).toNat=(ps.getD (stepK ps out help d a) Psg.zero).ticks.toNat+(d b).toNat by omega]
      exact this
end
def plOk (P:Int) (l:List Int):Bool:=allN (fun k=>decide (0≤l.getD k 0∧l.getD k 0≤P-1)) l.length
theorem vX {P:Int} {l:List Int} {k:Nat} (hk:k<l.length) (h:¬ (0≤l.getD k 0∧l.getD k 0≤P-1)):plOk P l=false:=eI hk (decide_eq_false h)
theorem zF {x y:Int}:∀ k j,k<2→j<1→([[Value.int .i64 x],[Value.int .i64 y]].getD k []).getD j undef=icl [x,y] k j:=by
  intro k j hk hj
  have:j=0:=by omega
  subst this
  match k,hk with
  | 0,_=>rfl
  | 1,_=>rfl
section
variable {ps:List Psg} {out:Int} {help:Bool} {d:Nat→Int} {p:Nat} {k:Nat}
theorem xG {q:Psg} {a:Int} (h:opn out help q=true):oth out help q a=othr q a:=by unfold oth;rw [if_neg (by rw [h];simp)]
theorem Cp {q:Psg} {a:Int} (h:opn out help q=false):oth out help q a = -1:=by unfold oth;rw [if_pos h]
end
section
variable {ps:List Psg} {out kind:Int}
end
theorem Wk.mono' {ps:List Psg} {out out':Int} {help help':Bool} {a c n:Nat} {l:List Nat} (W:Wk ps out help a c n l):(∀ k,k ∈ l→k<ps.length→opn out help (ps.getD k Psg.zero)=true→opn out' help' (ps.getD k Psg.zero)=true)→Wk ps out' help' a c n l:=by
  induction W with
  | nil a=>exact fun _ => .nil a
  | @cons a b c n k l hk ho _ ih=>
    intro h
    have ho1:opn out help (ps.getD k Psg.zero)=true:=by
      cases hb:opn out help (ps.getD k Psg.zero) with
      | true=>rfl
      | false=>rw [Cp hb] at ho;omega
    refine .cons hk ?_ (ih fun q hq=>h q (List.mem_cons_of_mem _ hq))
    rw [xG (h k (List.mem_cons_self ..) hk ho1),←xG ho1]
    exact ho
theorem Wk.mono {ps:List Psg} {out out':Int} {help help':Bool} (h:∀ k,k<ps.length→opn out help (ps.getD k Psg.zero)=true→opn out' help' (ps.getD k Psg.zero)=true) {a c n:Nat} {l:List Nat} (W:Wk ps out help a c n l):Wk ps out' help' a c n l:=W.mono' fun k _=>h k
end
section
structure Jq where
  mach:Int
  nights:Int
  after:List Int
def Jq.zero:Jq:=⟨0,0,[]⟩
def eR (js:List Jq) (AA:Nat→Option Addr) (ac:Nat→Nat) (k:Nat):Nat→Value
  | 0 => .int .i64 (js.getD k Jq.zero).mach
  | 1 => .int .i64 (js.getD k Jq.zero).nights
  | _ => .slice (AA k) (js.getD k Jq.zero).after.length (ac k)
structure Jb where
  mach:Int
  nights:Int
  after:List Int
  A:Option Addr
  c:Nat
def Jb.zero:Jb:=⟨0,0,[],none,0⟩
def Jb.cell (h:Jb):Nat→Value
  | 0 => .int .i64 h.mach
  | 1 => .int .i64 h.nights
  | _ => .slice h.A h.after.length h.c
def mK (l:List Jb) (k j:Nat):Value:=(l.getD k Jb.zero).cell j
def Jb.q (h:Jb):Jq:=⟨h.mach,h.nights,h.after⟩
theorem Ir (l:List Jb) (k:Nat):(l.map Jb.q).getD k Jq.zero=(l.getD k Jb.zero).q:=by
  rw [List.getD_eq_getElem?_getD,List.getD_eq_getElem?_getD,List.getElem?_map]
  cases l[k]? <;> rfl
theorem zG (l:List Jb):mK l=eR (l.map Jb.q) (fun k=>(l.getD k Jb.zero).A) (fun k=>(l.getD k Jb.zero).c):=by
  funext k j
  unfold mK Jb.cell eR
  rw [Ir]
  match j with
  | 0=>rfl
  | 1=>rfl
  | _+2=>rfl
def afP (l:List Int) (i:Nat) (q:Nat):Bool:=decide (lowA l 0 q≤l.getD q 0∧l.getD q 0≤(i:Int)-1)
def jobOk (mm:Int) (js:List Jq) (i:Nat):Bool:=decide ((0≤(js.getD i Jq.zero).mach∧(js.getD i Jq.zero).mach≤mm-1)∧(1≤(js.getD i Jq.zero).nights∧(js.getD i Jq.zero).nights≤24))&&allN (afP (js.getD i Jq.zero).after i) (js.getD i Jq.zero).after.length
def nvOk (mm n:Int):Bool:=decide (1≤n∧n≤1*2^mm.toNat-1)
def wksSz (mm:Int) (js:List Jq) (nv:List Int) (cr un:Int):Bool:=decide ((1≤mm∧mm≤12)∧(1≤js.length∧js.length≤6)∧nv.length≤20∧(1≤cr∧cr≤6)∧(1≤un∧un≤24))
def wksOk (mm:Int) (js:List Jq) (nv:List Int) (cr un:Int):Bool:=wksSz mm js nv cr un&&(allN (jobOk mm js) js.length&&allN (fun q=>nvOk mm (nv.getD q 0)) nv.length)
def wksE (mm:Int) (js:List Jq) (nv:List Int) (cr un:Int):Int:=if wksOk mm js nv cr un=true then 0 else 92
structure WkV (mm:Int) (js:List Jq) (nv:List Int) (cr un:Int):Prop where
  mmb:1≤mm∧mm≤12
  nj:1≤js.length∧js.length≤6
  nn:nv.length≤20
  crb:1≤cr∧cr≤6
  unb:1≤un∧un≤24
  job:∀ i,i<js.length→(0≤(js.getD i Jq.zero).mach∧(js.getD i Jq.zero).mach≤mm-1)∧(1≤(js.getD i Jq.zero).nights∧(js.getD i Jq.zero).nights≤24)
  aft:∀ i,i<js.length→∀ q,q<(js.getD i Jq.zero).after.length→lowA (js.getD i Jq.zero).after 0 q≤(js.getD i Jq.zero).after.getD q 0∧(js.getD i Jq.zero).after.getD q 0≤(i:Int)-1
  nev:∀ q,q<nv.length→1≤nv.getD q 0∧nv.getD q 0≤1*2^mm.toNat-1
section
variable {mm cr un:Int} {js:List Jq} {nv:List Int} {i k q:Nat}
theorem jZ (h:wksE mm js nv cr un=0):WkV mm js nv cr un:=by
  unfold wksE at h
  split at h
  · rename_i h1
    unfold wksOk wksSz at h1
    rw [Bool.and_eq_true,Bool.and_eq_true,decide_eq_true_eq,bX,bX] at h1
    obtain ⟨⟨h2,h3,h4,h5,h6⟩,h7,h8⟩:=h1
    refine ⟨h2,h3,h4,h5,h6,fun i hi=>?_,fun i hi q hq=>?_,fun q hq=>of_decide_eq_true (h8 q hq)⟩
    · have h9:=h7 i hi
      unfold jobOk at h9
      rw [Bool.and_eq_true] at h9
      exact of_decide_eq_true h9.1
    · have h9:=h7 i hi
      unfold jobOk at h9
      rw [Bool.and_eq_true,bX] at h9
      exact of_decide_eq_true (h9.2 q hq)
  · cases h
theorem oN (h:WkV mm js nv cr un):wksE mm js nv cr un=0:=by
  unfold wksE
  rw [if_pos]
  unfold wksOk wksSz
  rw [Bool.and_eq_true,Bool.and_eq_true,decide_eq_true_eq,bX,bX]
  refine ⟨⟨h.mmb,h.nj,h.nn,h.crb,h.unb⟩,fun i hi=>?_,fun q hq=>decide_eq_true (h.nev q hq)⟩
  unfold jobOk
  rw [Bool.and_eq_true,bX]
  exact ⟨decide_eq_true (h.job i hi),fun q hq=>decide_eq_true (h.aft i hi q hq)⟩
theorem nO (h:¬ WkV mm js nv cr un):wksE mm js nv cr un=92:=by
  unfold wksE
  rw [if_neg]
  intro h2
  exact h (jZ (by unfold wksE;rw [if_pos h2]))
theorem WkV.never (h:WkV mm js nv cr un) {nv':List Int} (h1:nv'.length≤20) (h2:∀ q,q<nv'.length→1≤nv'.getD q 0∧nv'.getD q 0≤1*2^mm.toNat-1):WkV mm js nv' cr un:=
  ⟨h.mmb,h.nj,h1,h.crb,h.unb,h.job,h.aft,h2⟩
end
def lorW (a b:Int):Int:=((a.toNat ||| b.toNat:Nat):Int)
section
variable {P:Program} {L:List (Nat×Value)} {w:World} {d:Option Nat} {ty:TypeId} {pos:String} {af:Array Edge} {g:Option (Nat×Bool)}
theorem zH {x y:Operand} {xt yt:TypeId} {m k:Int} (hx:ev L x=some (.int .i64 m)) (hy:ev L y=some (.int .i64 k)) (hm:0≤m∧m<2^20) (hk:0≤k∧k<2^20) :
    Does P L ⟨d,.binOp .or xt x y yt,ty,pos,af,g⟩ w (.int .i64 (lorW m k)):=fun ρ hρ=>by
  obtain ⟨m,rfl⟩:∃ n:Nat,m=n:=⟨m.toNat,by omega⟩
  obtain ⟨k,rfl⟩:∃ n:Nat,k=n:=⟨k.toNat,by omega⟩
  have e0:((BitVec.ofInt 64 (m:Int) ||| BitVec.ofInt 64 (k:Int)).toNat)=m ||| k:=by
    rw [BitVec.toNat_or,BitVec.ofInt_natCast,BitVec.ofInt_natCast,BitVec.toNat_ofNat,BitVec.toNat_ofNat,Nat.mod_eq_of_lt (by omega),Nat.mod_eq_of_lt (by omega)]
  have hle:m ||| k<2^20:=Nat.or_lt_two_pow (by have:=hm.2;omega) (by have:=hk.2;omega)
  have e1:IntKind.i64.wrap ((BitVec.ofInt 64 (m:Int) ||| BitVec.ofInt 64 (k:Int)).toNat:Int)=((m ||| k:Nat):Int):=by
    rw [e0];exact i64ok.eq ⟨by omega,by omega⟩
  have e:Op.intBits .or .i64 (m:Int) (k:Int)=pure (.int .i64 (lorW m k)):=by
    unfold lorW
    rw [Int.toNat_natCast,Int.toNat_natCast]
    exact congrArg (fun z=>(pure (Value.int .i64 z):Sem Value)) e1
  simp [execOp,hρ _ _ hx,hρ _ _ hy,eqGuard,binOp,e]
end
section
variable (js:List Jq) (st:List Int) (d:Int)
def atB (i:Nat):Bool:=decide (st.getD i 0≤d)&&decide (d<st.getD i 0+(js.getD i Jq.zero).nights)
def nSet:Nat→Int
  | 0=>0
  | i+1=>if atB js st d i=true then lorW (nSet i) (1*2^(js.getD i Jq.zero).mach.toNat) else nSet i
def nJobs:Nat→Int
  | 0=>0
  | i+1=>if atB js st d i=true then nJobs i+1 else nJobs i
def eS:Nat→Bool
  | 0=>false
  | i+1=>if atB js st d i=true then eS i||decide (nSet js st d i/2^(js.getD i Jq.zero).mach.toNat%2=1) else eS i
end
structure WkR (js:List Jq) (nv:List Int) (cr un:Int) (st:List Int):Prop where
  start:∀ i,i<js.length→0≤st.getD i 0∧st.getD i 0≤un-(js.getD i Jq.zero).nights
  tw:∀ n:Nat,(n:Int)<un→eS js st n js.length=false
  crew:∀ n:Nat,(n:Int)<un→nJobs js st n js.length≤cr
  nev:∀ n:Nat,(n:Int)<un→∀ q,q<nv.length→¬ landI (nSet js st n js.length) (nv.getD q 0)=nv.getD q 0
section
variable {mm cr un d:Int} {js:List Jq} {nv st:List Int} {i k:Nat}
theorem nP (V:WkV mm js nv cr un):∀ i,i≤js.length→0≤nSet js st d i∧nSet js st d i<2^mm.toNat:=by
  intro i
  induction i with
  | zero=>
    intro _
    refine ⟨Int.le_refl 0,?_⟩
    have e:(2:Int)^mm.toNat=((2^mm.toNat:Nat):Int):=(Int.natCast_pow 2 mm.toNat).symm
    rw [e]
    have:=Nat.pow_pos (n:=mm.toNat) (show 0<2 by decide)
    show (0:Int)<_
    omega
  | succ i ih=>
    intro hi
    have h1:=ih (by omega)
    rw [nSet]
    split
    · have hj:=(V.job i (by omega)).1
      have e:(2:Int)^mm.toNat=((2^mm.toNat:Nat):Int):=(Int.natCast_pow 2 mm.toNat).symm
      have e2:(1:Int)*2^(js.getD i Jq.zero).mach.toNat=((2^(js.getD i Jq.zero).mach.toNat:Nat):Int):=by rw [Int.one_mul];exact (Int.natCast_pow 2 _).symm
      have hlt:2^(js.getD i Jq.zero).mach.toNat<2^mm.toNat:=Nat.pow_lt_pow_right (by decide) (by omega)
      unfold lorW
      rw [e2,Int.toNat_natCast,e]
      refine ⟨Int.natCast_nonneg _,?_⟩
      rw [e] at h1
      exact_mod_cast Nat.or_lt_two_pow (by omega) hlt
    · exact h1
theorem Cq:∀ i,0≤nJobs js st d i∧nJobs js st d i≤i:=by
  intro i
  induction i with
  | zero=>exact ⟨Int.le_refl 0,Int.le_refl 0⟩
  | succ i ih=>rw [nJobs];split <;> omega
theorem pw12 {m:Int} (h:0≤m∧m≤12):(1:Int)≤2^m.toNat∧(2:Int)^m.toNat≤4096:=by
  have e:(2:Int)^m.toNat=((2^m.toNat:Nat):Int):=(Int.natCast_pow 2 m.toNat).symm
  have h1:=Nat.pow_pos (n:=m.toNat) (show 0<2 by decide)
  have h2:2^m.toNat≤2^12:=Nat.pow_le_pow_right (by decide) (by omega)
  rw [e]
  omega
end
end
section
def odV (U:Nat) (l:List Int):Nat→Nat
  | 0=>0
  | n+1=>odV U l n*U+(l.getD n 0).toNat
section
variable {U n i:Nat} {l l':List Int}
theorem Is (h:∀ k,k<n→0≤l.getD k 0∧l.getD k 0<U):odV U l n<U^n:=by
  induction n with
  | zero=>exact Nat.lt_succ_self 0
  | succ n ih=>
    have h1:=ih fun k hk=>h k (by omega)
    have h2:=h n (by omega)
    have h3:(odV U l n+1)*U≤U^n*U:=Nat.mul_le_mul_right U h1
    rw [odV,Nat.pow_succ]
    rw [Nat.add_mul,Nat.one_mul] at h3
    omega
theorem Fw (h:∀ k,k<n→l'.getD k 0=l.getD k 0):odV U l' n=odV U l n:=by
  induction n with
  | zero=>rfl
  | succ n ih=>rw [odV,odV,ih fun k hk=>h k (by omega),h n (by omega)]
theorem Cr (hp:∀ k,k<i→l'.getD k 0=l.getD k 0) (h0:0≤l.getD i 0) (h1:l'.getD i 0=l.getD i 0+1):∀ m,(∀ k,i<k→k<i+1+m→l.getD k 0=(U:Int)-1∧1≤U∧l'.getD k 0=0)→odV U l' (i+1+m)=odV U l (i+1+m)+1:=by
  intro m
  induction m with
  | zero=>
    intro _
    show odV U l' (i+1)=odV U l (i+1)+1
    rw [odV,odV,Fw hp,h1]
    omega
  | succ m ih=>
    intro h
    have h2:=ih fun k hk hk2=>h k hk (by omega)
    obtain ⟨h3,h4,h5⟩:=h (i+1+m) (by omega) (by omega)
    show odV U l' (i+1+m+1)=odV U l (i+1+m+1)+1
    rw [odV,odV,h2,h3,h5,Nat.add_mul,Nat.one_mul]
    have h6:((U:Int)-1).toNat=U-1:=by omega
    rw [h6]
    show _+0=_
    omega
end
def endV (js:List Jq) (st:List Int):Nat→Int
  | 0=>0
  | i+1=>max (endV js st i) (st.getD i 0+(js.getD i Jq.zero).nights)
def odZ (pl:List Int) (i:Int):List Int:=(List.range pl.length).map fun (q:Nat)=>if i<(q:Int) then 0 else pl.getD q 0
def odN (pl:List Int) (i:Int):List Int:=(List.range pl.length).map fun (q:Nat)=>if i<(q:Int) then 0 else if (q:Int)=i then pl.getD q 0+1 else pl.getD q 0
section
variable {pl:List Int} {i:Int} {q:Nat}
theorem odN_len:(odN pl i).length=pl.length:=by unfold odN;rw [List.length_map,List.length_range]
theorem kQ (h:q<pl.length):(odZ pl i).getD q 0=if i<(q:Int) then 0 else pl.getD q 0:=by
  unfold odZ
  rw [List.getD_eq_getElem?_getD,List.getElem?_map,List.getElem?_range h];rfl
theorem oO (h:q<pl.length):(odN pl i).getD q 0=if i<(q:Int) then 0 else if (q:Int)=i then pl.getD q 0+1 else pl.getD q 0:=by
  unfold odN
  rw [List.getD_eq_getElem?_getD,List.getElem?_map,List.getElem?_range h];rfl
theorem Cs:∀ k j,k<pl.length→j<1→icl pl k j=icl (odZ pl ((pl.length:Int)-1)) k j:=fun k j hk _=>by
  unfold icl
  rw [kQ hk,if_neg (by omega)]
theorem Fx (h:0≤i):∀ k j,k<pl.length→j<1→cput (icl (odZ pl i)) i.toNat 0 (.int .i64 0) k j=icl (odZ pl (i-1)) k j:=fun k j hk hj=>by
  have:j=0:=by omega
  subst this
  unfold cput icl
  rw [kQ hk]
  by_cases e:k=i.toNat
  · rw [if_pos ⟨e,rfl⟩,kQ hk,if_pos (by omega)]
  · rw [if_neg (fun h=>e h.1),kQ hk]
    by_cases h2:i<(k:Int)
    · rw [if_pos h2,if_pos (by omega)]
    · rw [if_neg h2,if_neg (by omega)]
theorem Fy (h:0≤i) (hi:i.toNat<pl.length):∀ k j,k<pl.length→j<1→cput (icl (odZ pl i)) i.toNat 0 (.int .i64 ((odZ pl i).getD i.toNat 0+1)) k j=icl (odN pl i) k j:=fun k j hk hj=>by
  have:j=0:=by omega
  subst this
  unfold cput icl
  rw [oO hk,kQ hi,if_neg (show ¬ i<((i.toNat:Nat):Int) by omega)]
  by_cases e:k=i.toNat
  · subst e;rw [if_pos ⟨rfl,rfl⟩,if_neg (by omega),if_pos (by omega)]
  · rw [if_neg (fun h=>e h.1),kQ hk]
    by_cases h2:i<(k:Int)
    · rw [if_pos h2,if_pos h2]
    · rw [if_neg h2,if_neg h2,if_neg (by omega)]
theorem Ct {un:Int} (hu:1≤un) (h:∀ k,k<pl.length→0≤pl.getD k 0∧pl.getD k 0≤un-1) (h0:0≤i) (hi:i<pl.length) (hn:¬ pl.getD i.toNat 0=un-1) (ha:∀ k:Nat,i<(k:Int)→k<pl.length→pl.getD k 0=un-1) :
    (∀ k,k<(odN pl i).length→0≤(odN pl i).getD k 0∧(odN pl i).getD k 0≤un-1)∧odV un.toNat (odN pl i) pl.length=odV un.toNat pl pl.length+1:=by
  obtain ⟨n,rfl⟩:∃ n:Nat,i=n:=⟨i.toNat,by omega⟩
  rw [Int.toNat_natCast] at hn
  refine ⟨fun k hk=>?_,?_⟩
  · rw [odN_len] at hk
    have h1:=h k hk
    rw [oO hk]
    split
    · omega
    · split
      · have e:k=n:=by omega
        subst e;omega
      · exact h1
  · have h1:=Cr (U:=un.toNat) (l:=pl) (l':=odN pl n) (i:=n) (fun k hk=>by rw [oO (by omega),if_neg (by omega),if_neg (by omega)]) (h n (by omega)).1 (by rw [oO (by omega),if_neg (by omega),if_pos rfl]) (pl.length-n-1) (fun k hk hk2=>⟨by have:=ha k (by omega) (by omega);omega,by omega,by rw [oO (by omega),if_pos (by omega)]⟩)
    rw [show n+1+(pl.length-n-1)=pl.length by omega] at h1
    exact h1
end
end
section
theorem Cu {l:List Int} {i:Int} {q:Nat} {n:Nat} (hi:i=n) (h:lowA l 0 q≤l.getD q 0∧l.getD q 0≤i-1):afP l n q=true:=by
  subst hi;unfold afP;exact decide_eq_true h
theorem Cv {l:List Int} {q:Nat} {n:Nat} (h:l.getD q 0<lowA l 0 q∨(n:Int)-1<l.getD q 0):afP l n q=false:=by
  unfold afP;exact decide_eq_false (by omega)
theorem xH {l:List Int} {k:Nat}:lowA l 0 (k+1)=l.getD k 0+1:=by unfold lowA;rw [if_neg (by omega)];rfl
section
variable {mm cr un:Int} {js:List Jq} {nv:List Int} {i k q:Nat}
theorem xI (h:¬ ((1≤mm∧mm≤12)∧(1≤js.length∧js.length≤6)∧nv.length≤20∧(1≤cr∧cr≤6)∧(1≤un∧un≤24))):wksE mm js nv cr un=92:=nO fun V=>h ⟨V.mmb,V.nj,V.nn,V.crb,V.unb⟩
theorem xJ (hi:i<js.length) (h:¬ ((0≤(js.getD i Jq.zero).mach∧(js.getD i Jq.zero).mach≤mm-1)∧(1≤(js.getD i Jq.zero).nights∧(js.getD i Jq.zero).nights≤24))):wksE mm js nv cr un=92:=nO fun V=>h (V.job i hi)
theorem xK (hi:i<js.length) (hq:q<(js.getD i Jq.zero).after.length) (h:afP (js.getD i Jq.zero).after i q=false):wksE mm js nv cr un=92:=nO fun V=>by
  unfold afP at h
  exact of_decide_eq_false h (V.aft i hi q hq)
theorem xL (hq:q<nv.length) (h:nvOk mm (nv.getD q 0)=false):wksE mm js nv cr un=92:=nO fun V=>by
  unfold nvOk at h
  exact of_decide_eq_false h (V.nev q hq)
theorem Hp (h1:(1≤mm∧mm≤12)∧(1≤js.length∧js.length≤6)∧nv.length≤20∧(1≤cr∧cr≤6)∧(1≤un∧un≤24)) (h2:∀ i,i<js.length→((0≤(js.getD i Jq.zero).mach∧(js.getD i Jq.zero).mach≤mm-1)∧(1≤(js.getD i Jq.zero).nights∧(js.getD i Jq.zero).nights≤24))∧∀ q,q<(js.getD i Jq.zero).after.length→afP (js.getD i Jq.zero).after i q=true)
    (h3:∀ q,q<nv.length→nvOk mm (nv.getD q 0)=true):wksE mm js nv cr un=0:=oN ⟨h1.1,h1.2.1,h1.2.2.1,h1.2.2.2.1,h1.2.2.2.2,fun i hi=>(h2 i hi).1,fun i hi q hq=>by
  have h4:=(h2 i hi).2 q hq
  unfold afP at h4
  exact of_decide_eq_true h4,fun q hq=>by
  have h4:=h3 q hq
  unfold nvOk at h4
  exact of_decide_eq_true h4⟩
theorem gG {p:Nat→Prop} (h:∀ z,z<q→p z) (h1:p q):∀ z,z<q+1→p z:=fun z hz=>by
  by_cases e:z=q
  · subst e;exact h1
  · exact h z (by omega)
theorem pwm (h:1≤mm∧mm≤12):(2:Int)≤1*2^mm.toNat∧(1:Int)*2^mm.toNat≤4096:=by
  have e:(2:Int)^mm.toNat=((2^mm.toNat:Nat):Int):=(Int.natCast_pow 2 mm.toNat).symm
  have h1:2^1≤2^mm.toNat:=Nat.pow_le_pow_right (by decide) (by omega)
  have h2:2^mm.toNat≤2^12:=Nat.pow_le_pow_right (by decide) (by omega)
  rw [Int.one_mul,e]
  omega
def farN (un:Int):Nat→Int
  | 0=>1
  | i+1=>if (0<un∧un≤24)∧farN un i≤20000 then farN un i*un else farN un i
def farW (js:List Jq) (nv:List Int) (un:Int):Bool:=(decide (10<(js.length:Int))||decide (30<(nv.length:Int)))||(!allN (fun i=>!decide (10<((js.getD i Jq.zero).after.length:Int))) js.length||(decide (20000<farN un js.length)&&decide (farN un js.length≤200000)))
theorem rP:∀ i,1≤farN un i∧farN un i≤480000:=by
  intro i
  induction i with
  | zero=>exact ⟨Int.le_refl 1,by show (1:Int)≤480000;decide⟩
  | succ i ih=>
    rw [farN]
    split
    · rename_i h
      have h1:farN un i*un≤20000*24:=Int.mul_le_mul h.2 h.1.2 (by omega) (by decide)
      have h2:1*1≤farN un i*un:=Int.mul_le_mul ih.1 (by omega) (by omega) (by omega)
      omega
    · exact ih
theorem Cw (h:(0<un∧un≤24)∧farN un i≤20000):0≤farN un i*un∧farN un i*un≤480000:=by
  have h1:=rP (un:=un) i
  have h2:farN un i*un≤20000*24:=Int.mul_le_mul h.2 h.1.2 (by omega) (by decide)
  exact ⟨Int.mul_nonneg (by omega) (by omega),by omega⟩
theorem It (h:(0<un∧un≤24)∧farN un i≤20000):farN un i*un=farN un (i+1):=by rw [farN,if_pos h]
theorem Iu (h:¬ ((0<un∧un≤24)∧farN un i≤20000)):farN un i=farN un (i+1):=by rw [farN,if_neg h]
theorem Iv (h:10<(js.length:Int)∨30<(nv.length:Int)):farW js nv un=true:=by
  unfold farW
  rcases h with h|h
  · rw [decide_eq_true h];rfl
  · rw [decide_eq_true h];simp
theorem Iw (hi:i<js.length) (h:10<((js.getD i Jq.zero).after.length:Int)):farW js nv un=true:=by
  unfold farW
  have h2:allN (fun i=>!decide (10<((js.getD i Jq.zero).after.length:Int))) js.length=false:=by
    rw [←Bool.not_eq_true,bX]
    intro h3
    have:=h3 i hi
    rw [decide_eq_true h] at this
    cases this
  rw [h2];simp
theorem Ix (h0:¬ (10<(js.length:Int)∨30<(nv.length:Int))) (h:∀ i,i<js.length→¬ 10<((js.getD i Jq.zero).after.length:Int)):farW js nv un=(decide (20000<farN un js.length)&&decide (farN un js.length≤200000)):=by
  unfold farW
  have h2:allN (fun i=>!decide (10<((js.getD i Jq.zero).after.length:Int))) js.length=true:=bX.2 fun i hi=>by rw [decide_eq_false (h i hi)];rfl
  rw [h2,decide_eq_false (fun h9=>h0 (.inl h9)),decide_eq_false (fun h9=>h0 (.inr h9))];rfl
end
def lstW (l:List Int) (i:Int):Nat→Int
  | 0=>i
  | q+1=>l.getD q 0
theorem kA {l:List Int}:∀ {q},lowA l 0 q=lstW l (-1) q+1:=fun {q}=>by
  cases q with
  | zero=>rfl
  | succ q=>unfold lowA;rw [if_neg (by omega)];rfl
theorem Cx {l:List Int} {i q:Nat} (hi:i≤6) (h:∀ z,z<q→afP l i z=true) : -1≤lstW l (-1) q∧lstW l (-1) q≤1000:=by
  have hb:∀ q,(∀ z,z<q→afP l i z=true)→0≤lowA l 0 q∧lowA l 0 q≤i:=by
    intro q
    induction q with
    | zero=>intro _;exact ⟨Int.le_refl 0,by show (0:Int)≤(i:Int);omega⟩
    | succ q ih=>
      intro h
      have h1:=ih fun z hz=>h z (by omega)
      have h2:=h q (by omega)
      unfold afP at h2
      have h3:=of_decide_eq_true h2
      rw [xH]
      omega
  have:=hb q h
  rw [kA] at this
  omega
theorem eK (n lo hi:Int) (w:World) :
    Calls Try.prog 17 [.int .i64 n,.int .i64 lo,.int .i64 hi].toArray w (Ret (fun v w'=>v = .bool (decide (lo≤n)&&decide (n≤hi))∧w'=w)):=by
 refine enter Try.func17 rfl Try.ntmps17 rfl (fun a H=>?_)
 have S:=St.start w
 refine sS H fun K1 k1=>sr 1 rfl<|sE ?_;clear H a;intro a H
 refine k1 _ ?_;clear k1 K1
 replace H:=H.keep [0,1,2] rfl
 refine sS H fun K2 k2=>sr 4 rfl<|sg 3 3 10 13 true G G (fun hg4=>sy hg4<|sr 1 rfl<|sy hg4<|sr 1 rfl<|sy hg4<|sr 1 rfl<|sz 3 G G G)<|sa G G G<|sr 1 rfl<|sE ?_;clear H a;intro a H
 refine k2 _ ?_;clear k2 K2
 refine wp_ret ?_
 refine ret1 (fn:=Try.f17) rfl H rfl ?_
 exact ⟨rfl,rfl⟩
theorem Iy (mm:Int) (js:List Jq) (JA:Option Addr) (jc:Nat) (AA:Nat→Option Addr) (ac:Nat→Nat) (nv:List Int) (NA:Option Addr) (nc:Nat) (cr un:Int) (w:World) (hjs:InS w noF 3 JA js.length (eR js AA ac)) (hnv:InS w noF 1 NA nv.length (icl nv)) (haf:∀ k,k<js.length→InS w noF 1 (AA k) (js.getD k Jq.zero).after.length (icl (js.getD k Jq.zero).after)) (hjn:js.length≤9223372036854775807) (hnn:nv.length≤9223372036854775807) (han:∀ k,k<js.length→(js.getD k Jq.zero).after.length≤9223372036854775807) :
    Calls Try.prog 5 [.agg [.int .i64 mm,.slice JA js.length jc,.slice NA nv.length nc,.int .i64 cr,.int .i64 un].toArray].toArray w (Ret (fun u w'=>u = .bool (farW js nv un)∧St w noF [] w')):=by
 refine enter Try.func5 rfl Try.ntmps5 rfl (fun a H=>?_)
 have S:=St.start w
 refine aB fun K1 k1=>?_
 refine aS H rfl S G G ?_;clear H a S;intro b1 _ a hb1 hbw1 S H
 refine ls 1 H<|sr 1 rfl<|sE ?_;clear H a;intro a H
 refine k1 _ _ ?_;clear k1 K1
 refine wp_seq_k fun K2 k2=>?_
 replace H:=H.keep [1] rfl
 refine sS H fun K3 k3=>sf cV rfl<|sl S 0 dS G G G<|sL dV rfl<|sr 2 rfl<|sg 4 4 9 13 false G G (fun hg5=>by
     have hq5:=hg5;try simp only [o1,o2,o3,o4,o5,o6,o7,o8,o9,oa] at hq5
     exact sy hg5<|sf fK rfl<|sy hg5<|sl S 0 aZ G G G<|sy hg5<|sL aN rfl<|sy hg5<|sr 1 rfl<|sz 4 G G G)<|so G G G<|sE ?_;clear H a;intro a H
 refine k3 _ ?_;clear k3 K3
 refine aQ H rfl (fun hc1=>?_) (fun hc1=>?_)
 ·skip
  try simp only [o1,o2,o3,o4,o5,o6,o7,o8,o9,oa] at hc1
  replace H:=H.keep [] rfl
  refine sS H fun K4 k4=>sr 1 rfl<|sE ?_;clear H a;intro a H
  refine k4 _ ?_;clear k4 K4
  refine wp_ret ?_
  refine ret1 (fn:=Try.f5) rfl H rfl ?_
  rw [Iv (by omega)];exact ⟨rfl,(S.sel [] G G)⟩
 try simp only [o1,o2,o3,o4,o5,o6,o7,o8,o9,oa] at hc1
 refine wp_skip ?_
 refine k2 _ _ ?_
 refine sS H fun K5 k5=>sr 1 rfl<|sE ?_;clear H a;intro a H
 refine k5 _ ?_;clear k5 K5
 refine wp_seq_k fun K6 k6=>?_
 refine sS H fun K7 k7=>sr 1 rfl<|sE ?_;clear H a;intro a H
 refine k7 _ ?_;clear k7 K7
 refine wp_block ?_
 rw [show (1:Int)=farN un 0 from rfl] at H
 refine loop_st (X:=Nat) (R0:=_) [1] H rfl (fun i=>[(3,.int .i64 (farN un i)),(4,.int .i64 (i:Int))]) (fun i=>[]) (fun g i=>i≤js.length∧g+i=js.length∧∀ k,k<i→¬ 10<((js.getD k Jq.zero).after.length:Int)) (js.length) 0 ?_ (S.sel [0] G G) (H.keep [3,4,1] rfl) ?_
 · exact ⟨by omega,by omega,fun k hk=>absurd hk (Nat.not_lt_zero k)⟩
 clear H S a
 intro g1 x1 a w1 hp S H K8 k8
 obtain ⟨i,rfl⟩:∃ y,y=x1:=⟨_,rfl⟩
 refine wp_seq_k fun K9 k9=>?_
 refine sS H fun K10 k10=>sr 1 rfl<|sf cV rfl<|sl S 0 dS G G G<|sL dV rfl<|sr 1 rfl<|sE ?_;clear H a;intro a H
 refine k10 _ ?_;clear k10 K10
 refine condL H rfl (fun hc2=>?_) (fun hc2=>?_)
 ·skip
  refine wp_skip ?_
  refine k9 _ _ ?_
  refine wp_seq_k fun K11 k11=>?_
  refine wp_block ?_
  refine wp_seq_k fun K12 k12=>?_
  replace H:=H.keep [1,3,4] rfl
  refine sS H fun K13 k13=>sf cV rfl<|sl S 0 dS G G G<|sr 1 rfl<|si dV eJ G G (hjs.adr (by omega)) (by omega)<|sp jT rfl<|slm aZ rfl (hjs.rd S (by omega) (by omega))<|sL aN rfl<|sr 1 rfl<|sE ?_;clear H a;intro a H
  refine k13 _ ?_;clear k13 K13
  refine condL H rfl (fun hc3=>?_) (fun hc3=>?_)
  ·skip
   refine sS H fun K14 k14=>sr 1 rfl<|sE ?_;clear H a;intro a H
   refine k14 _ ?_;clear k14 K14
   refine wp_ret ?_
   refine ret1 (fn:=Try.f5) rfl H rfl ?_
   rw [Iw (i:=i) (by omega) hc3];exact ⟨rfl,(S.sel [] G G)⟩
  refine wp_skip ?_
  refine k12 _ _ ?_
  have hfb:=rP (un:=un) i
  replace H:=H.keep [1,3,4] rfl
  refine sS H fun K15 k15=>sf dP rfl<|sl S 0 aF G G G<|sr 2 rfl<|sg 3 3 33 36 true G G (fun hg4=>by
      have hq4:=hg4;try simp only [o1,o2,o3,o4,o5,o6,o7,o8,o9,oa] at hq4
      exact sy hg4<|sf dP rfl<|sy hg4<|sl S 0 aF G G G<|sy hg4<|sr 1 rfl<|sz 3 G G G)<|sa G G G<|sr 1 rfl<|sg 2 8 38 40 true G G (fun hg9=>by
      have hq9:=hg9;try simp only [o1,o2,o3,o4,o5,o6,o7,o8,o9,oa] at hq9
      exact sy hg9<|sr 1 rfl<|sy hg9<|sr 1 rfl<|sz 2 G G G)<|sa G G G<|sE ?_;clear H a;intro a H
  refine k15 _ ?_;clear k15 K15
  refine aQ H rfl (fun hc4=>?_) (fun hc4=>?_)
  ·skip
   try simp only [o1,o2,o3,o4,o5,o6,o7,o8,o9,oa] at hc4
   have hfm:=Cw hc4
   replace H:=H.keep [1,3,4] rfl
   refine sO H<|sr 1 rfl<|sf dP rfl<|sl S 0 aF G G G<|sd (iV G G (by unfold i64ok;omega))<|sr 1 rfl<|sE ?_;clear H a;intro a H
   refine k11 _ _ ?_
   refine sO H<|sr 1 rfl<|sd (aH G G (by unfold i64ok;omega))<|sr 1 rfl<|sE ?_;clear H a;intro a H
   rw [It hc4] at H
   exact k8 (g1-1) (i+1) a _ (by omega) (⟨by omega,by omega,gG hp.2.2 (by omega)⟩) (S.sel [0] G G) (H.keep [3,4,1] rfl)
  try simp only [o1,o2,o3,o4,o5,o6,o7,o8,o9,oa] at hc4
  refine wp_skip ?_
  refine k11 _ _ ?_
  replace H:=H.keep [1,3,4] rfl
  refine sO H<|sr 1 rfl<|sd (aH G G (by unfold i64ok;omega))<|sr 1 rfl<|sE ?_;clear H a;intro a H
  rw [Iu (by omega)] at H
  exact k8 (g1-1) (i+1) a _ (by omega) (⟨by omega,by omega,gG hp.2.2 (by omega)⟩) (S.sel [0] G G) (H.keep [3,4,1] rfl)
 refine wp_exit ?_
 refine k6 _ _ ?_
 obtain rfl:i=js.length:=by omega
 have hfb:=rP (un:=un) js.length
 replace H:=H.keep [3] rfl
 refine sS H fun K19 k19=>sr 3 rfl<|sg 2 2 48 50 true G G (fun hg3=>by
     have hq3:=hg3;try simp only [o1,o2,o3,o4,o5,o6,o7,o8,o9,oa] at hq3
     exact sy hg3<|sr 1 rfl<|sy hg3<|sr 1 rfl<|sz 2 G G G)<|sa G G G<|sr 1 rfl<|sE ?_;clear H a;intro a H
 refine k19 _ ?_;clear k19 K19
 refine wp_ret ?_
 refine ret1 (fn:=Try.f5) rfl H rfl ?_
 rw [Ix (by omega) hp.2.2];exact ⟨rfl,(S.sel [] G G)⟩
theorem pN (mm:Int) (js:List Jq) (JA:Option Addr) (jc:Nat) (AA:Nat→Option Addr) (ac:Nat→Nat) (nv:List Int) (NA:Option Addr) (nc:Nat) (cr un:Int) (w:World) (hjs:InS w noF 3 JA js.length (eR js AA ac)) (hnv:InS w noF 1 NA nv.length (icl nv)) (haf:∀ k,k<js.length→InS w noF 1 (AA k) (js.getD k Jq.zero).after.length (icl (js.getD k Jq.zero).after)) (hjn:js.length≤9223372036854775807) (hnn:nv.length≤9223372036854775807) (han:∀ k,k<js.length→(js.getD k Jq.zero).after.length≤9223372036854775807) :
    Calls Try.prog 7 [.agg [.int .i64 mm,.slice JA js.length jc,.slice NA nv.length nc,.int .i64 cr,.int .i64 un].toArray].toArray w (Ret (fun u w'=>u = .int .i64 (wksE mm js nv cr un)∧St w noF [] w')):=by
 refine enter Try.func7 rfl Try.ntmps7 rfl (fun a H=>?_)
 have S:=St.start w
 refine aB fun K1 k1=>?_
 refine aS H rfl S G G ?_;clear H a S;intro b1 _ a hb1 hbw1 S H
 refine ls 1 H<|sr 1 rfl<|sE ?_;clear H a;intro a H
 refine k1 _ _ ?_;clear k1 K1
 refine wp_seq_k fun K2 k2=>?_
 replace H:=H.keep [1] rfl
 refine sS H fun K3 k3=>sf fV rfl<|sl S 0 aF G G G<|sc rfl Try.func17 G G (eK _ _ _ _)<|sr 2 rfl<|sg 5 4 12 17 false G G (fun hg5=>by
     have hq5:=hg5;try simp only [o1,o2,o3,o4,o5,o6,o7,o8,o9,oa] at hq5
     exact sy hg5<|sf cV rfl<|sy hg5<|sl S 0 dS G G G<|sy hg5<|sL dV rfl<|sy hg5<|sc rfl Try.func17 G G (eK _ _ _ _)<|sy hg5<|sr 1 rfl<|sz 5 G G G)<|so G G G<|sr 1 rfl<|sg 4 11 19 23 false G G (fun hg12=>by
     have hq12:=hg12;try simp only [o1,o2,o3,o4,o5,o6,o7,o8,o9,oa] at hq12
     exact sy hg12<|sf fK rfl<|sy hg12<|sl S 0 aZ G G G<|sy hg12<|sL aN rfl<|sy hg12<|sr 1 rfl<|sz 4 G G G)<|so G G G<|sr 1 rfl<|sg 4 17 25 29 false G G (fun hg18=>by
     have hq18:=hg18;try simp only [o1,o2,o3,o4,o5,o6,o7,o8,o9,oa] at hq18
     exact sy hg18<|sf rB rfl<|sy hg18<|sl S 0 aF G G G<|sy hg18<|sc rfl Try.func17 G G (eK _ _ _ _)<|sy hg18<|sr 1 rfl<|sz 4 G G G)<|so G G G<|sr 1 rfl<|sg 4 23 31 35 false G G (fun hg24=>by
     have hq24:=hg24;try simp only [o1,o2,o3,o4,o5,o6,o7,o8,o9,oa] at hq24
     exact sy hg24<|sf dP rfl<|sy hg24<|sl S 0 aF G G G<|sy hg24<|sc rfl Try.func17 G G (eK _ _ _ _)<|sy hg24<|sr 1 rfl<|sz 4 G G G)<|so G G G<|sE ?_;clear H a;intro a H
 refine k3 _ ?_;clear k3 K3
 refine aQ H rfl (fun hc1=>?_) (fun hc1=>?_)
 ·skip
  try simp only [o1,o2,o3,o4,o5,o6,o7,o8,o9,oa] at hc1
  replace H:=H.keep [] rfl
  refine sS H fun K4 k4=>sr 1 rfl<|sE ?_;clear H a;intro a H
  refine k4 _ ?_;clear k4 K4
  refine wp_ret ?_
  refine ret1 (fn:=Try.f7) rfl H rfl ?_
  rw [xI (by omega)];exact ⟨rfl,(S.sel [] G G)⟩
 try simp only [o1,o2,o3,o4,o5,o6,o7,o8,o9,oa] at hc1
 have hsz:((1≤mm∧mm≤12)∧(1≤js.length∧js.length≤6)∧nv.length≤20∧(1≤cr∧cr≤6)∧(1≤un∧un≤24)):=by omega
 obtain ⟨hmb,hjb,hnb,hcb,hub⟩:=hsz
 have hpm:=pwm hmb
 refine wp_skip ?_
 refine k2 _ _ ?_
 refine wp_seq_k fun K5 k5=>?_
 refine sS H fun K6 k6=>sr 1 rfl<|sE ?_;clear H a;intro a H
 refine k6 _ ?_;clear k6 K6
 refine wp_block ?_
 refine loop_st (X:=Nat) (R0:=_) [1] H rfl (fun i=>[(3,.int .i64 (i:Int))]) (fun i=>[]) (fun g i=>i≤js.length∧g+i=js.length∧∀ k,k<i→(fun i=>((0≤(js.getD i Jq.zero).mach∧(js.getD i Jq.zero).mach≤mm-1)∧(1≤(js.getD i Jq.zero).nights∧(js.getD i Jq.zero).nights≤24))∧∀ q,q<(js.getD i Jq.zero).after.length→afP (js.getD i Jq.zero).after i q=true) k) (js.length) 0 ?_ (S.sel [0] G G) (H.keep [3,1] rfl) ?_
 · exact ⟨by omega,by omega,fun k hk=>absurd hk (Nat.not_lt_zero k)⟩
 clear H S a
 intro g1 x1 a w1 hp S H K7 k7
 obtain ⟨i,rfl⟩:∃ y,y=x1:=⟨_,rfl⟩
 obtain ⟨hil,hgi,hja⟩:=hp
 refine wp_seq_k fun K8 k8=>?_
 refine sS H fun K9 k9=>sr 1 rfl<|sf cV rfl<|sl S 0 dS G G G<|sL dV rfl<|sr 1 rfl<|sE ?_;clear H a;intro a H
 refine k9 _ ?_;clear k9 K9
 refine condL H rfl (fun hc2=>?_) (fun hc2=>?_)
 ·skip
  refine wp_skip ?_
  refine k8 _ _ ?_
  refine wp_seq_k fun K10 k10=>?_
  refine wp_block ?_
  replace H:=H.keep [1,3] rfl
  refine aB fun K11 k11=>?_
  refine ls 5 H<|sf cV rfl<|sl S 0 dS G G G<|sr 1 rfl<|si dV eJ G G (hjs.adr (by omega)) (by omega)<|sd ((bG mD eJ rfl S hjs (by omega) (by omega)))<|sE ?_;clear H a;intro a H
  refine aJ H rfl S pY ?_;clear H a S;intro b4 _ a hb4 hbw4 S H
  refine aD H S (i:=0) G G G G eJ G G ?_
  clear H a S;intro _ a S H
  refine k11 _ _ ?_;clear k11 K11
  refine wp_seq_k fun K12 k12=>?_
  replace H:=H.keep [1,3,4] rfl
  refine sS H fun K13 k13=>sf nI rfl<|sl S 0 aF G G G<|sf fV rfl<|sl S 1 aF G G G<|sd (bK G G (by unfold i64ok;omega))<|sc rfl Try.func17 G G (eK _ _ _ _)<|sr 2 rfl<|sg 4 7 56 60 false G G (fun hg8=>by
      have hq8:=hg8;try simp only [o1,o2,o3,o4,o5,o6,o7,o8,o9,oa] at hq8
      exact sy hg8<|sf jS rfl<|sy hg8<|sl S 0 aF G G G<|sy hg8<|sc rfl Try.func17 G G (eK _ _ _ _)<|sy hg8<|sr 1 rfl<|sz 4 G G G)<|so G G G<|sE ?_;clear H a;intro a H
  refine k13 _ ?_;clear k13 K13
  refine aQ H rfl (fun hc3=>?_) (fun hc3=>?_)
  ·skip
   try simp only [o1,o2,o3,o4,o5,o6,o7,o8,o9,oa] at hc3
   replace H:=H.keep [] rfl
   refine sS H fun K14 k14=>sr 1 rfl<|sE ?_;clear H a;intro a H
   refine k14 _ ?_;clear k14 K14
   refine wp_ret ?_
   refine ret1 (fn:=Try.f7) rfl H rfl ?_
   rw [xJ (i:=i) (by omega) (by omega)];exact ⟨rfl,(S.sel [] G G)⟩
  try simp only [o1,o2,o3,o4,o5,o6,o7,o8,o9,oa] at hc3
  have hjo:=hc3
  refine wp_skip ?_
  refine k12 _ _ ?_
  refine sS H fun K15 k15=>sr 1 rfl<|sE ?_;clear H a;intro a H
  refine k15 _ ?_;clear k15 K15
  refine sS H fun K16 k16=>sr 1 rfl<|sE ?_;clear H a;intro a H
  refine k16 _ ?_;clear k16 K16
  refine wp_block ?_
  have hai:=han i (by omega)
  refine loop_st (X:=Nat) (R0:=_) [1,3,4] H rfl (fun q=>[(5,.int .i64 (lstW (js.getD i Jq.zero).after (-1) q)),(6,.int .i64 (q:Int))]) (fun q=>[]) (fun g q=>q≤(js.getD i Jq.zero).after.length∧g+q=(js.getD i Jq.zero).after.length∧∀ z,z<q→afP (js.getD i Jq.zero).after i z=true) ((js.getD i Jq.zero).after.length) 0 ?_ (S.sel [0,1] G G) (H.keep [5,6,1,3,4] rfl) ?_
  · exact ⟨by omega,by omega,fun k hk=>absurd hk (Nat.not_lt_zero k)⟩
  clear H S a
  intro g2 x2 a w2 hp S H K17 k17
  obtain ⟨q,rfl⟩:∃ y,y=x2:=⟨_,rfl⟩
  refine wp_seq_k fun K18 k18=>?_
  refine sS H fun K19 k19=>sr 1 rfl<|sf jT rfl<|sl S 0 aZ G G G<|sL aN rfl<|sr 1 rfl<|sE ?_;clear H a;intro a H
  refine k19 _ ?_;clear k19 K19
  refine condL H rfl (fun hc4=>?_) (fun hc4=>?_)
  ·skip
   refine wp_skip ?_
   refine k18 _ _ ?_
   refine wp_seq_k fun K20 k20=>?_
   refine wp_block ?_
   refine wp_seq_k fun K21 k21=>?_
   have hlb : -1≤lstW (js.getD i Jq.zero).after (-1) q∧lstW (js.getD i Jq.zero).after (-1) q≤1000:=Cx (by omega) hp.2.2
   replace H:=H.keep [1,3,4,5,6] rfl
   refine sS H fun K22 k22=>sf jT rfl<|sl S 0 aZ G G G<|sr 1 rfl<|si aN aX G G ((haf i (by omega)).adr (by omega)) (by omega)<|slm aF rfl ((haf i (by omega)).rd S (by omega) (by omega))<|sr 1 rfl<|sd (aH G G (by unfold i64ok;omega))<|sr 1 rfl<|sd (bK G G (by unfold i64ok;omega))<|sc rfl Try.func17 G G (eK _ _ _ _)<|sr 1 rfl<|sE ?_;clear H a;intro a H
   refine k22 _ ?_;clear k22 K22
   refine aQ H rfl (fun hc5=>?_) (fun hc5=>?_)
   ·skip
    try simp only [o1,o2,o3,o4,o5,o6,o7,o8,o9,oa] at hc5
    replace H:=H.keep [] rfl
    refine sS H fun K23 k23=>sr 1 rfl<|sE ?_;clear H a;intro a H
    refine k23 _ ?_;clear k23 K23
    refine wp_ret ?_
    refine ret1 (fn:=Try.f7) rfl H rfl ?_
    rw [xK (i:=i) (q:=q) (by omega) (by omega) (Cv (by rw [kA];omega))];exact ⟨rfl,(S.sel [] G G)⟩
   try simp only [o1,o2,o3,o4,o5,o6,o7,o8,o9,oa] at hc5
   refine wp_skip ?_
   refine k21 _ _ ?_
   refine sO H<|sf jT rfl<|sl S 0 aZ G G G<|sr 1 rfl<|si aN aX G G ((haf i (by omega)).adr (by omega)) (by omega)<|slm aF rfl ((haf i (by omega)).rd S (by omega) (by omega))<|sr 1 rfl<|sE ?_;clear H a;intro a H
   refine k20 _ _ ?_
   replace H:=H.keep [1,3,4,5,6] rfl
   refine sO H<|sr 1 rfl<|sd (aH G G (by unfold i64ok;omega))<|sr 1 rfl<|sE ?_;clear H a;intro a H
   exact k17 (g2-1) (q+1) a _ (by omega) (⟨by omega,by omega,gG hp.2.2 (Cu rfl (by rw [kA];omega))⟩) (S.sel [0,1] G G) (H.keep [5,6,1,3,4] rfl)
  refine wp_exit ?_
  refine k10 _ _ ?_
  refine sO H<|sr 1 rfl<|sd (aH G G (by unfold i64ok;omega))<|sr 1 rfl<|sE ?_;clear H a;intro a H
  exact k7 (g1-1) (i+1) a _ (by omega) (⟨by omega,by omega,gG hja ⟨by omega,fun q9 hq9=>hp.2.2 q9 (by omega)⟩⟩) (S.sel [1] G G) (H.keep [3,1] rfl)
 refine wp_exit ?_
 refine k5 _ _ ?_
 refine wp_seq_k fun K27 k27=>?_
 refine sS H fun K28 k28=>sr 1 rfl<|sE ?_;clear H a;intro a H
 refine k28 _ ?_;clear k28 K28
 refine wp_block ?_
 obtain rfl:i=js.length:=by omega
 refine loop_st (X:=Nat) (R0:=_) [1] H rfl (fun z=>[(7,.int .i64 (z:Int))]) (fun z=>[]) (fun g z=>z≤nv.length∧g+z=nv.length∧∀ k,k<z→nvOk mm (nv.getD k 0)=true) (nv.length) 0 ?_ (S.sel [0] G G) (H.keep [7,1] rfl) ?_
 · exact ⟨by omega,by omega,fun k hk=>absurd hk (Nat.not_lt_zero k)⟩
 clear H S a
 intro g3 x3 a w3 hp S H K29 k29
 obtain ⟨z,rfl⟩:∃ y,y=x3:=⟨_,rfl⟩
 refine wp_seq_k fun K30 k30=>?_
 refine sS H fun K31 k31=>sr 1 rfl<|sf fK rfl<|sl S 0 aZ G G G<|sL aN rfl<|sr 1 rfl<|sE ?_;clear H a;intro a H
 refine k31 _ ?_;clear k31 K31
 refine condL H rfl (fun hc6=>?_) (fun hc6=>?_)
 ·skip
  refine wp_skip ?_
  refine k30 _ _ ?_
  refine wp_seq_k fun K32 k32=>?_
  refine wp_block ?_
  replace H:=H.keep [1,7] rfl
  replace S:=S.drew
  refine sD H fun K33 k33=>sf fK rfl<|sl S 0 aZ G G G<|sr 1 rfl<|si aN aX G G (hnv.adr (by omega)) (by omega)<|slm aF rfl (hnv.rd S (by omega) (by omega))<|sf fV rfl<|sl S 0 aF G G G<|sd (dN Try.underlying3 Try.underlying42 rfl (by first|omega|exact IntWalk.i64_in _ (by omega)|exact IntWalk.u64_in _ (by omega)))<|sd (dE G G (by omega) (by omega) (by unfold i64ok;omega))<|sd (bK G G (by unfold i64ok;omega))<|sc rfl Try.func17 G G (eK _ _ _ _)<|sr 1 rfl<|sE ?_;clear H a;intro a H
  refine k33 _ ?_;clear k33 K33
  refine aQ H rfl (fun hc7=>?_) (fun hc7=>?_)
  ·skip
   try simp only [o1,o2,o3,o4,o5,o6,o7,o8,o9,oa] at hc7
   replace H:=H.keep [] rfl
   refine sS H fun K34 k34=>sr 1 rfl<|sE ?_;clear H a;intro a H
   refine k34 _ ?_;clear k34 K34
   refine wp_ret ?_
   refine ret1 (fn:=Try.f7) rfl H rfl ?_
   rw [xL (q:=z) (by omega) (decide_eq_false (by omega))];exact ⟨rfl,(S.sel [] G G)⟩
  try simp only [o1,o2,o3,o4,o5,o6,o7,o8,o9,oa] at hc7
  refine wp_skip ?_
  refine k32 _ _ ?_
  refine sO H<|sr 1 rfl<|sd (aH G G (by unfold i64ok;omega))<|sr 1 rfl<|sE ?_;clear H a;intro a H
  exact k29 (g3-1) (z+1) a _ (by omega) (⟨by omega,by omega,gG hp.2.2 (decide_eq_true (by omega))⟩) (S.sel [0] G G) (H.keep [7,1] rfl)
 refine wp_exit ?_
 refine k27 _ _ ?_
 refine sS H fun K36 k36=>sr 1 rfl<|sE ?_;clear H a;intro a H
 refine k36 _ ?_;clear k36 K36
 refine wp_ret ?_
 refine ret1 (fn:=Try.f7) rfl H rfl ?_
 rw [Hp ⟨hmb,hjb,hnb,hcb,hub⟩ hja (fun q9 hq9=>hp.2.2 q9 (by omega))];exact ⟨rfl,(S.sel [] G G)⟩
theorem dL (n lo hi:Int) (w:World) :
    Calls Try.prog 45 [.int .i64 n,.int .i64 lo,.int .i64 hi].toArray w (Ret (fun v w'=>v = .bool (decide (lo≤n)&&decide (n≤hi))∧w'=w)):=by
 refine enter Try.func45 rfl Try.ntmps45 rfl (fun a H=>?_)
 have S:=St.start w
 refine sS H fun K1 k1=>sr 1 rfl<|sE ?_;clear H a;intro a H
 refine k1 _ ?_;clear k1 K1
 replace H:=H.keep [0,1,2] rfl
 refine sS H fun K2 k2=>sr 4 rfl<|sg 3 3 10 13 true G G (fun hg4=>sy hg4<|sr 1 rfl<|sy hg4<|sr 1 rfl<|sy hg4<|sr 1 rfl<|sz 3 G G G)<|sa G G G<|sr 1 rfl<|sE ?_;clear H a;intro a H
 refine k2 _ ?_;clear k2 K2
 refine wp_ret ?_
 refine ret1 (fn:=Try.f45) rfl H rfl ?_
 exact ⟨rfl,rfl⟩
end
section
def lowW (l:List Int):Nat→Int
  | 0=>0
  | q+1=>l.getD q 0+1
theorem mL {l:List Int}:∀ {q},lowA l 0 q=lowW l q:=fun {q}=>by
  cases q with
  | zero=>rfl
  | succ q=>unfold lowA;rw [if_neg (by omega)];rfl
theorem Fz {l:List Int} {i q:Nat} (hi:i≤6) (h:∀ z,z<q→afP l i z=true):0≤lowW l q∧lowW l q≤1001:=by
  have:=Cx hi h
  rw [←mL,kA]
  omega
theorem Ga {mm n:Int}:nvOk mm n=(decide (1≤n)&&decide (n≤1*2^mm.toNat-1)):=by unfold nvOk;rw [Bool.decide_and]
section
variable {mm cr un n:Int} {js:List Jq} {nv st:List Int} {i k q:Nat}
theorem Iz (h:(nv.any fun x=>!nvOk mm x)=true):wksE mm js nv cr un=92:=by
  rw [List.any_eq_true] at h
  obtain ⟨x,hx,h⟩:=h
  obtain ⟨q,hq,rfl⟩:=List.getElem_of_mem hx
  refine xL (q:=q) hq ?_
  rw [List.getD_eq_getElem?_getD,List.getElem?_eq_getElem hq,Option.getD_some]
  simpa using h
theorem Gb (h:(nv.any fun x=>!nvOk mm x)=false):∀ q,q<nv.length→nvOk mm (nv.getD q 0)=true:=fun q hq=>by
  rw [List.any_eq_false] at h
  have h2:=h nv[q] (List.getElem_mem hq)
  rw [List.getD_eq_getElem?_getD,List.getElem?_eq_getElem hq,Option.getD_some]
  simpa using h2
theorem Kz (h:st.getD i 0≤n∧n<st.getD i 0+(js.getD i Jq.zero).nights):atB js st n i=true:=by unfold atB;rw [decide_eq_true h.1,decide_eq_true h.2];rfl
theorem La (h:¬ (st.getD i 0≤n∧n<st.getD i 0+(js.getD i Jq.zero).nights)):atB js st n i=false:=by
  unfold atB
  rw [Bool.and_eq_false_iff,decide_eq_false_iff_not,decide_eq_false_iff_not]
  by_cases h1:st.getD i 0≤n
  · exact .inr fun h2=>h ⟨h1,h2⟩
  · exact .inl h1
theorem Ja (h:atB js st n i=true):lorW (nSet js st n i) (1*2^(js.getD i Jq.zero).mach.toNat)=nSet js st n (i+1):=by rw [nSet,if_pos h]
theorem Jc (h:atB js st n i=false):nSet js st n i=nSet js st n (i+1):=by rw [nSet,if_neg (by rw [h];simp)]
theorem Gc (h:atB js st n i=true):nJobs js st n i+1=nJobs js st n (i+1):=by rw [nJobs,if_pos h]
theorem Gd (h:atB js st n i=false):nJobs js st n i=nJobs js st n (i+1):=by rw [nJobs,if_neg (by rw [h];simp)]
theorem Lb (h:atB js st n i=true):(eS js st n i||decide (nSet js st n i/2^(js.getD i Jq.zero).mach.toNat%2=1))=eS js st n (i+1):=by rw [eS,if_pos h]
theorem Lc (h:atB js st n i=false):eS js st n i=eS js st n (i+1):=by rw [eS,if_neg (by rw [h];simp)]
theorem qG (V:WkV mm js nv cr un):0≤nSet js st n js.length∧nSet js st n js.length≤4095:=by
  have h1:=nP (st:=st) (d:=n) V js.length (Nat.le_refl _)
  have h2:=pw12 (m:=mm) (by have:=V.mmb;omega)
  omega
end
theorem zI (mm:Int) (js:List Jq) (JA:Option Addr) (jc:Nat) (AA:Nat→Option Addr) (ac:Nat→Nat) (nv:List Int) (NA:Option Addr) (nc:Nat) (cr un:Int) (cb fb:Nat) (n:Int) (w:World) (F:Nat→Prop) (S:St w F [boxM cb 28 [.int .i64 mm,.slice JA js.length jc,.slice NA nv.length nc,.int .i64 cr,.int .i64 un],boxM fb 55 [.func (.func 45) #[] #[]]] w) (hmm:1≤mm∧mm≤12) :
    Calls Try.prog 46 [.int .i64 n,.pointer (some ⟨fb,0,none⟩),.pointer (some ⟨cb,0,none⟩)].toArray w (Ret (fun u w'=>u = .bool (!nvOk mm n)∧St w F [boxM cb 28 [.int .i64 mm,.slice JA js.length jc,.slice NA nv.length nc,.int .i64 cr,.int .i64 un],boxM fb 55 [.func (.func 45) #[] #[]]] w')):=by
 have hpm:=pwm hmm
 refine enter Try.func46 rfl Try.ntmps46 rfl (fun a H=>?_)
 skip
 refine sS H fun K1 k1=>sr 1 rfl<|sE ?_;clear H a;intro a H
 refine k1 _ ?_;clear k1 K1
 replace H:=H.keep [0,1,2] rfl
 replace S:=S.drew
 refine sD H fun K2 k2=>sl S 1 jF G G G<|sr 1 rfl<|sf fV rfl<|sl S 0 aF G G G<|sd (dE G G (by omega) (by omega) (by unfold i64ok;omega))<|sd (bK G G (by unfold i64ok;omega))<|scv G G Try.func45 G G (dL _ _ _ _)<|sr 2 rfl<|sE ?_;clear H a;intro a H
 refine k2 _ ?_;clear k2 K2
 refine wp_ret ?_
 refine ret1 (fn:=Try.f46) rfl H rfl ?_
 rw [Ga];exact ⟨rfl,(S.sel [0,1] G G)⟩
theorem zJ (mm:Int) (js:List Jq) (JA:Option Addr) (jc:Nat) (AA:Nat→Option Addr) (ac:Nat→Nat) (nv:List Int) (NA:Option Addr) (nc:Nat) (cr un:Int) (cb fb:Nat) (w:World) (F:Nat→Prop) (S:St w F [bun [boxM cb 28 [.int .i64 mm,.slice JA js.length jc,.slice NA nv.length nc,.int .i64 cr,.int .i64 un],boxM fb 55 [.func (.func 45) #[] #[]]]] w) (hnv:InS w F 1 NA nv.length (icl nv)) (hnn:nv.length≤9223372036854775807) (hmm:1≤mm∧mm≤12):Calls Try.prog 30 #[.slice NA nv.length nc,.func (.func 46) #[] #[.pointer (some ⟨fb,0,none⟩),.pointer (some ⟨cb,0,none⟩)]] w (Ret fun u w'=>u = .bool (nv.any fun n=>!nvOk mm n)∧St w F [bun [boxM cb 28 [.int .i64 mm,.slice JA js.length jc,.slice NA nv.length nc,.int .i64 cr,.int .i64 un],boxM fb 55 [.func (.func 45) #[] #[]]]] w'):=by
  have hh:=cE nv NA nc 46 _ [] [.pointer (some ⟨fb,0,none⟩),.pointer (some ⟨cb,0,none⟩)] (fun n=>!nvOk mm n) _ w F S hnv hnn Try.func46 G G (fun k w' hk S'=>iD (zI mm js JA jc AA ac nv NA nc cr un cb fb (nv.getD k 0) w' _ (St.unpack (R:=[]) S'.startR) hmm) fun v w'' h=>⟨h.1,St.pack (Ms:=[_,_]) (R:=[]) h.2⟩)
  exact hh
theorem iF (mm:Int) (js:List Jq) (JA:Option Addr) (jc:Nat) (AA:Nat→Option Addr) (ac:Nat→Nat) (nv:List Int) (NA:Option Addr) (nc:Nat) (cr un:Int) (w:World) (hjs:InS w noF 3 JA js.length (eR js AA ac)) (hnv:InS w noF 1 NA nv.length (icl nv)) (haf:∀ k,k<js.length→InS w noF 1 (AA k) (js.getD k Jq.zero).after.length (icl (js.getD k Jq.zero).after)) (hjn:js.length≤9223372036854775807) (hnn:nv.length≤9223372036854775807) (han:∀ k,k<js.length→(js.getD k Jq.zero).after.length≤9223372036854775807) :
    Calls Try.prog 25 [.agg [.int .i64 mm,.slice JA js.length jc,.slice NA nv.length nc,.int .i64 cr,.int .i64 un].toArray].toArray w (Ret (fun u w'=>u = .int .i64 (wksE mm js nv cr un)∧St w noF [] w')):=by
 refine enter Try.func25 rfl Try.ntmps25 rfl (fun a H=>?_)
 have S:=St.start w
 refine aB fun K1 k1=>?_
 refine aS H rfl S G G ?_;clear H a S;intro b1 _ a hb1 hbw1 S H
 refine ls 1 H<|sr 1 rfl<|sE ?_;clear H a;intro a H
 refine k1 _ _ ?_;clear k1 K1
 refine aB fun K2 k2=>?_
 refine aJ H rfl S Ks ?_;clear H a S;intro b3 _ a hb3 hbw3 S H
 refine aD H S (i:=0) G G G G Kq G G ?_
 clear H a S;intro _ a S H
 refine k2 _ _ ?_;clear k2 K2
 refine wp_seq_k fun K3 k3=>?_
 replace H:=H.keep [1,3] rfl
 refine sS H fun K4 k4=>sl S 0 jF G G G<|sf fV rfl<|sl S 1 aF G G G<|scv G G Try.func45 G G (dL _ _ _ _)<|sr 2 rfl<|sg 6 5 14 20 false G G (fun hg6=>by
     have hq6:=hg6;try simp only [o1,o2,o3,o4,o5,o6,o7,o8,o9,oa] at hq6
     exact sy hg6<|sl S 0 jF G G G<|sy hg6<|sf cV rfl<|sy hg6<|sl S 1 dS G G G<|sy hg6<|sL dV rfl<|sy hg6<|scv G G Try.func45 G G (dL _ _ _ _)<|sy hg6<|sr 1 rfl<|sz 6 G G G)<|so G G G<|sr 1 rfl<|sg 4 13 22 26 false G G (fun hg14=>by
     have hq14:=hg14;try simp only [o1,o2,o3,o4,o5,o6,o7,o8,o9,oa] at hq14
     exact sy hg14<|sf fK rfl<|sy hg14<|sl S 1 aZ G G G<|sy hg14<|sL aN rfl<|sy hg14<|sr 1 rfl<|sz 4 G G G)<|so G G G<|sr 1 rfl<|sg 5 19 28 33 false G G (fun hg20=>by
     have hq20:=hg20;try simp only [o1,o2,o3,o4,o5,o6,o7,o8,o9,oa] at hq20
     exact sy hg20<|sl S 0 jF G G G<|sy hg20<|sf rB rfl<|sy hg20<|sl S 1 aF G G G<|sy hg20<|scv G G Try.func45 G G (dL _ _ _ _)<|sy hg20<|sr 1 rfl<|sz 5 G G G)<|so G G G<|sr 1 rfl<|sg 5 26 35 40 false G G (fun hg27=>by
     have hq27:=hg27;try simp only [o1,o2,o3,o4,o5,o6,o7,o8,o9,oa] at hq27
     exact sy hg27<|sl S 0 jF G G G<|sy hg27<|sf dP rfl<|sy hg27<|sl S 1 aF G G G<|sy hg27<|scv G G Try.func45 G G (dL _ _ _ _)<|sy hg27<|sr 1 rfl<|sz 5 G G G)<|so G G G<|sE ?_;clear H a;intro a H
 refine k4 _ ?_;clear k4 K4
 refine aQ H rfl (fun hc1=>?_) (fun hc1=>?_)
 ·skip
  try simp only [o1,o2,o3,o4,o5,o6,o7,o8,o9,oa] at hc1
  replace H:=H.keep [] rfl
  refine sS H fun K5 k5=>sr 1 rfl<|sE ?_;clear H a;intro a H
  refine k5 _ ?_;clear k5 K5
  refine wp_ret ?_
  refine ret1 (fn:=Try.f25) rfl H rfl ?_
  rw [xI (by omega)];exact ⟨rfl,(S.sel [] G G)⟩
 try simp only [o1,o2,o3,o4,o5,o6,o7,o8,o9,oa] at hc1
 have hsz:((1≤mm∧mm≤12)∧(1≤js.length∧js.length≤6)∧nv.length≤20∧(1≤cr∧cr≤6)∧(1≤un∧un≤24)):=by omega
 obtain ⟨hmb,hjb,hnb,hcb,hub⟩:=hsz
 have hpm:=pwm hmb
 refine wp_skip ?_
 refine k3 _ _ ?_
 refine wp_seq_k fun K6 k6=>?_
 refine sS H fun K7 k7=>sf cV rfl<|sl S 1 dS G G G<|sL dV rfl<|sr 1 rfl<|sE ?_;clear H a;intro a H
 refine k7 _ ?_;clear k7 K7
 refine wp_block ?_
 refine loop_st (X:=Nat) (R0:=_) [1,3,43,44] H rfl (fun i=>[(45,.int .i64 (i:Int))]) (fun i=>[]) (fun g i=>i≤js.length∧g+i=js.length∧∀ k,k<i→(fun i=>((0≤(js.getD i Jq.zero).mach∧(js.getD i Jq.zero).mach≤mm-1)∧(1≤(js.getD i Jq.zero).nights∧(js.getD i Jq.zero).nights≤24))∧∀ q,q<(js.getD i Jq.zero).after.length→afP (js.getD i Jq.zero).after i q=true) k) (js.length) 0 ?_ (S.sel [0,1] G G) (H.keep [45,1,3,43,44] rfl) ?_
 · exact ⟨by omega,by omega,fun k hk=>absurd hk (Nat.not_lt_zero k)⟩
 clear H S a
 intro g1 x1 a w1 hp S H K8 k8
 obtain ⟨i,rfl⟩:∃ y,y=x1:=⟨_,rfl⟩
 obtain ⟨hil,hgi,hja⟩:=hp
 refine sS H fun K9 k9=>sr 1 rfl<|sE ?_;clear H a;intro a H
 refine k9 _ ?_;clear k9 K9
 refine wp_seq_k fun K10 k10=>?_
 refine condL H rfl (fun hc2=>?_) (fun hc2=>?_)
 ·skip
  refine wp_skip ?_
  refine k10 _ _ ?_
  refine wp_seq_k fun K11 k11=>?_
  refine wp_block ?_
  refine aB fun K12 k12=>?_
  refine ls 3 H<|sr 1 rfl<|si dV eJ G G (hjs.adr (by omega)) (by omega)<|sd ((bG mD eJ rfl S hjs (by omega) (by omega)))<|sE ?_;clear H a;intro a H
  refine aJ H rfl S pY ?_;clear H a S;intro b5 _ a hb5 hbw5 S H
  refine ls 1 H<|sr 1 rfl<|sE ?_;clear H a;intro a H
  refine aD H S (i:=0) G G G G eJ G G ?_
  clear H a S;intro _ a S H
  refine k12 _ _ ?_;clear k12 K12
  refine wp_seq_k fun K13 k13=>?_
  replace H:=H.keep [1,3,4,5,43,44,45] rfl
  refine sS H fun K14 k14=>sl S 1 jF G G G<|sf nI rfl<|sl S 0 aF G G G<|sf fV rfl<|sl S 2 aF G G G<|sd (bK G G (by unfold i64ok;omega))<|scv G G Try.func45 G G (dL _ _ _ _)<|sr 2 rfl<|sg 5 8 58 63 false G G (fun hg9=>by
      have hq9:=hg9;try simp only [o1,o2,o3,o4,o5,o6,o7,o8,o9,oa] at hq9
      exact sy hg9<|sl S 1 jF G G G<|sy hg9<|sf jS rfl<|sy hg9<|sl S 0 aF G G G<|sy hg9<|scv G G Try.func45 G G (dL _ _ _ _)<|sy hg9<|sr 1 rfl<|sz 5 G G G)<|so G G G<|sE ?_;clear H a;intro a H
  refine k14 _ ?_;clear k14 K14
  refine aQ H rfl (fun hc3=>?_) (fun hc3=>?_)
  ·skip
   try simp only [o1,o2,o3,o4,o5,o6,o7,o8,o9,oa] at hc3
   replace H:=H.keep [] rfl
   refine sS H fun K15 k15=>sr 1 rfl<|sE ?_;clear H a;intro a H
   refine k15 _ ?_;clear k15 K15
   refine wp_ret ?_
   refine ret1 (fn:=Try.f25) rfl H rfl ?_
   rw [xJ (i:=i) (by omega) (by omega)];exact ⟨rfl,(S.sel [] G G)⟩
  try simp only [o1,o2,o3,o4,o5,o6,o7,o8,o9,oa] at hc3
  have hjo:=hc3
  refine wp_skip ?_
  refine k13 _ _ ?_
  refine sS H fun K16 k16=>sr 1 rfl<|sE ?_;clear H a;intro a H
  refine k16 _ ?_;clear k16 K16
  refine sS H fun K17 k17=>sf jT rfl<|sl S 0 aZ G G G<|sL aN rfl<|sr 1 rfl<|sE ?_;clear H a;intro a H
  refine k17 _ ?_;clear k17 K17
  refine wp_block ?_
  have hai:=han i (by omega)
  refine loop_st (X:=Nat) (R0:=_) [1,3,4,43,44,45,66,67] H rfl (fun q=>[(6,.int .i64 (lowW (js.getD i Jq.zero).after q)),(68,.int .i64 (q:Int))]) (fun q=>[]) (fun g q=>q≤(js.getD i Jq.zero).after.length∧g+q=(js.getD i Jq.zero).after.length∧∀ z,z<q→afP (js.getD i Jq.zero).after i z=true) ((js.getD i Jq.zero).after.length) 0 ?_ (S.sel [0,1,2] G G) (H.keep [6,68,1,3,4,43,44,45,66,67] rfl) ?_
  · exact ⟨by omega,by omega,fun k hk=>absurd hk (Nat.not_lt_zero k)⟩
  clear H S a
  intro g2 x2 a w2 hp S H K18 k18
  obtain ⟨q,rfl⟩:∃ y,y=x2:=⟨_,rfl⟩
  refine sS H fun K19 k19=>sr 1 rfl<|sE ?_;clear H a;intro a H
  refine k19 _ ?_;clear k19 K19
  refine wp_seq_k fun K20 k20=>?_
  refine condL H rfl (fun hc4=>?_) (fun hc4=>?_)
  ·skip
   refine wp_skip ?_
   refine k20 _ _ ?_
   refine wp_seq_k fun K21 k21=>?_
   refine wp_block ?_
   refine sS H fun K22 k22=>si aN aX G G ((haf i (by omega)).adr (by omega)) (by omega)<|slm aF rfl ((haf i (by omega)).rd S (by omega) (by omega))<|sr 1 rfl<|sE ?_;clear H a;intro a H
   refine k22 _ ?_;clear k22 K22
   refine wp_seq_k fun K23 k23=>?_
   have hlb:=Fz (l:=(js.getD i Jq.zero).after) (i:=i) (q:=q) (by omega) hp.2.2
   replace H:=H.keep [1,3,4,6,8,43,44,45,66,67,68] rfl
   refine sS H fun K24 k24=>sl S 1 jF G G G<|sr 3 rfl<|sd (bK G G (by unfold i64ok;omega))<|scv G G Try.func45 G G (dL _ _ _ _)<|sr 1 rfl<|sE ?_;clear H a;intro a H
   refine k24 _ ?_;clear k24 K24
   refine aQ H rfl (fun hc5=>?_) (fun hc5=>?_)
   ·skip
    try simp only [o1,o2,o3,o4,o5,o6,o7,o8,o9,oa] at hc5
    refine sS H fun K25 k25=>sr 1 rfl<|sE ?_;clear H a;intro a H
    refine k25 _ ?_;clear k25 K25
    refine wp_ret ?_
    refine ret1 (fn:=Try.f25) rfl H rfl ?_
    rw [xK (i:=i) (q:=q) (by omega) (by omega) (Cv (by rw [mL];omega))];exact ⟨rfl,(S.sel [] G G)⟩
   try simp only [o1,o2,o3,o4,o5,o6,o7,o8,o9,oa] at hc5
   refine wp_skip ?_
   refine k23 _ _ ?_
   replace H:=H.keep [1,3,4,8,43,44,45,66,67,68] rfl
   refine sO H<|sr 1 rfl<|sd (aH G G (by unfold i64ok;omega))<|sr 1 rfl<|sE ?_;clear H a;intro a H
   refine k21 _ _ ?_
   refine sO H<|sd (aH G G (by unfold i64ok;omega))<|sr 1 rfl<|sE ?_;clear H a;intro a H
   exact k18 (g2-1) (q+1) a _ (by omega) (⟨by omega,by omega,gG hp.2.2 (Cu rfl (by rw [mL];omega))⟩) (S.sel [0,1,2] G G) (H.keep [6,68,1,3,4,43,44,45,66,67] rfl)
  refine wp_exit ?_
  refine k11 _ _ ?_
  refine sO H<|sd (aH G G (by unfold i64ok;omega))<|sr 1 rfl<|sE ?_;clear H a;intro a H
  exact k8 (g1-1) (i+1) a _ (by omega) (⟨by omega,by omega,gG hja ⟨by omega,fun q9 hq9=>hp.2.2 q9 (by omega)⟩⟩) (S.sel [1,2] G G) (H.keep [45,1,3,43,44] rfl)
 refine wp_exit ?_
 refine k6 _ _ ?_
 refine wp_seq_k fun K29 k29=>?_
 obtain rfl:i=js.length:=by omega
 replace H:=H.keep [1,3] rfl
 refine aB fun K30 k30=>?_
 refine ls 3 H<|sf fK rfl<|sl S 1 aZ G G G<|sr 1 rfl<|sE ?_;clear H a;intro a H
 have S1:=(S.sel [1,0] G G)
 have SB:=St.pack (Ms:=[_,_]) (R:=[]) S1
 refine aA H G G Try.func30 G G (zJ mm js JA jc AA ac nv NA nc cr un b1 b3 _ _ SB.startR (hnv.nowR SB) hnn hmb) ?_;clear H a
 rintro _ _ a ⟨rfl,S2⟩ H
 replace S:=St.unpack ((St.pack (Ms:=[_,_]) (R:=[]) S1).callR (M:=[_]) S2);clear S1 S2 SB
 refine k30 _ _ ?_;clear k30 K30
 refine aQ H rfl (fun hc6=>?_) (fun hc6=>?_)
 ·skip
  try simp only [o1,o2,o3,o4,o5,o6,o7,o8,o9,oa] at hc6
  refine sS H fun K31 k31=>sr 1 rfl<|sE ?_;clear H a;intro a H
  refine k31 _ ?_;clear k31 K31
  refine wp_ret ?_
  refine ret1 (fn:=Try.f25) rfl H rfl ?_
  rw [Iz hc6];exact ⟨rfl,(S.sel [] G G)⟩
 try simp only [o1,o2,o3,o4,o5,o6,o7,o8,o9,oa] at hc6
 refine wp_skip ?_
 refine k29 _ _ ?_
 refine sS H fun K32 k32=>sr 1 rfl<|sE ?_;clear H a;intro a H
 refine k32 _ ?_;clear k32 K32
 refine wp_ret ?_
 refine ret1 (fn:=Try.f25) rfl H rfl ?_
 rw [Hp ⟨hmb,hjb,hnb,hcb,hub⟩ hja (Gb hc6)];exact ⟨rfl,(S.sel [] G G)⟩
theorem gU (mm:Int) (js:List Jq) (JA:Option Addr) (jc:Nat) (AA:Nat→Option Addr) (ac:Nat→Nat) (nv:List Int) (NA:Option Addr) (nc:Nat) (cr un:Int) (st:List Int) (SA:Option Addr) (sc:Nat) (n:Int) (w:World) (hjs:InS w noF 3 JA js.length (eR js AA ac)) (hnv:InS w noF 1 NA nv.length (icl nv)) (haf:∀ k,k<js.length→InS w noF 1 (AA k) (js.getD k Jq.zero).after.length (icl (js.getD k Jq.zero).after)) (hst:InS w noF 1 SA st.length (icl st)) (hsl:st.length=js.length) (V:WkV mm js nv cr un) (hsb:∀ k,k<js.length→0≤st.getD k 0∧st.getD k 0≤24) :
    Calls Try.prog 32 [.agg [.int .i64 mm,.slice JA js.length jc,.slice NA nv.length nc,.int .i64 cr,.int .i64 un].toArray,.slice SA st.length sc,.int .i64 n].toArray w (Ret (fun u w'=>u = .tuple #[.int .i64 (nSet js st n js.length),.int .i64 (nJobs js st n js.length),.bool (eS js st n js.length)]∧St w noF [] w')):=by
 have hjl:=V.nj
 have hmb:=V.mmb
 refine enter Try.func32 rfl Try.ntmps32 rfl (fun a H=>?_)
 have S:=St.start w
 refine aB fun K1 k1=>?_
 refine aS H rfl S G G ?_;clear H a S;intro b3 _ a hb3 hbw3 S H
 refine ls 3 H<|sr 3 rfl<|sE ?_;clear H a;intro a H
 refine k1 _ _ ?_;clear k1 K1
 refine wp_seq_k fun K2 k2=>?_
 refine sS H fun K3 k3=>sf cV rfl<|sl S 0 dS G G G<|sL dV rfl<|sr 1 rfl<|sE ?_;clear H a;intro a H
 refine k3 _ ?_;clear k3 K3
 refine wp_block ?_
 refine loop_st (X:=Nat) (R0:=_) [1,2,12,13] H rfl (fun i=>[(6,.int .i64 (nSet js st n i)),(7,.int .i64 (nJobs js st n i)),(8,.bool (eS js st n i)),(14,.int .i64 (i:Int))]) (fun i=>[]) (fun g i=>i≤js.length∧g+i=js.length) (js.length) 0 ?_ (S.sel [0] G G) (H.keep [6,7,8,14,1,2,12,13] rfl) ?_
 · exact ⟨by omega,by omega⟩
 clear H S a
 intro g1 x1 a w1 hp S H K4 k4
 obtain ⟨i,rfl⟩:∃ y,y=x1:=⟨_,rfl⟩
 refine sS H fun K5 k5=>sr 1 rfl<|sE ?_;clear H a;intro a H
 refine k5 _ ?_;clear k5 K5
 refine wp_seq_k fun K6 k6=>?_
 refine condL H rfl (fun hc1=>?_) (fun hc1=>?_)
 ·skip
  refine wp_skip ?_
  refine k6 _ _ ?_
  refine wp_seq_k fun K7 k7=>?_
  refine wp_block ?_
  refine aB fun K8 k8=>?_
  refine ls 3 H<|sr 1 rfl<|si dV eJ G G (hjs.adr (by omega)) (by omega)<|sd ((bG mD eJ rfl S hjs (by omega) (by omega)))<|sE ?_;clear H a;intro a H
  refine aJ H rfl S pY ?_;clear H a S;intro b10 _ a hb10 hbw10 S H
  refine ls 1 H<|sr 1 rfl<|sE ?_;clear H a;intro a H
  refine aD H S (i:=0) G G G G eJ G G ?_
  clear H a S;intro _ a S H
  refine k8 _ _ ?_;clear k8 K8
  have hsi:=hsb i (by omega)
  have hji:=V.job i (by omega)
  have hpj:=pw12 (m:=(js.getD i Jq.zero).mach) (by omega)
  have hpm:=pw12 (m:=mm) (by omega)
  have hnb:=nP (st:=st) (d:=n) V i (by omega)
  have hjb:=Cq (js:=js) (st:=st) (d:=n) i
  replace H:=H.keep [1,2,6,7,8,9,10,12,13,14] rfl
  replace S:=S.drew
  refine sD H fun K9 k9=>sr 2 rfl<|si aN aX G G (hst.adr (by omega)) (by omega)<|slm aF rfl (hst.rd S (by omega) (by omega))<|sr 3 rfl<|sg 9 6 25 34 true G G (fun hg7=>by
      have hq7:=hg7;try simp only [o1,o2,o3,o4,o5,o6,o7,o8,o9,oa] at hq7
      exact sy hg7<|sr 1 rfl<|sy hg7<|sr 1 rfl<|sy hg7<|sr 1 rfl<|sy hg7<|si aN aX G G (hst.adr (by omega)) (by omega)<|sy hg7<|slm aF rfl (hst.rd S (by omega) (by omega))<|sy hg7<|sf jS rfl<|sy hg7<|sl S 0 aF G G G<|sy hg7<|sd (aH G G (by unfold i64ok;omega))<|sy hg7<|sr 1 rfl<|sz 9 G G G)<|sa G G G<|sE ?_;clear H a;intro a H
  refine k9 _ ?_;clear k9 K9
  refine aQ H rfl (fun hc2=>?_) (fun hc2=>?_)
  ·skip
   try simp only [o1,o2,o3,o4,o5,o6,o7,o8,o9,oa] at hc2
   replace H:=H.keep [1,2,6,7,8,10,12,13,14] rfl
   refine sS H fun K10 k10=>sr 1 rfl<|sd (aH G G (by unfold i64ok;omega))<|sr 1 rfl<|sE ?_;clear H a;intro a H
   refine k10 _ ?_;clear k10 K10
   replace H:=H.keep [1,2,6,7,8,10,12,13,14] rfl
   refine sS H fun K11 k11=>sr 2 rfl<|sg 6 1 39 45 false G G (fun hg2=>by
       have hq2:=hg2;try simp only [o1,o2,o3,o4,o5,o6,o7,o8,o9,oa] at hq2
       exact sy hg2<|sr 1 rfl<|sy hg2<|sf nI rfl<|sy hg2<|sl S 0 aF G G G<|sy hg2<|sd (gX G G (by omega) (by omega))<|sy hg2<|sd (fZ G G)<|sy hg2<|sr 1 rfl<|sz 6 G G G)<|so G G G<|sr 1 rfl<|sE ?_;clear H a;intro a H
   refine k11 _ ?_;clear k11 K11
   replace H:=H.keep [1,2,6,7,8,10,12,13,14] rfl
   refine sO H<|sr 1 rfl<|sf nI rfl<|sl S 0 aF G G G<|sd (dE G G (by omega) (by omega) (by unfold i64ok;omega))<|sd (zH G G (by omega) (by omega))<|sr 1 rfl<|sE ?_;clear H a;intro a H
   refine k7 _ _ ?_
   refine sO H<|sd (aH G G (by unfold i64ok;omega))<|sr 1 rfl<|sE ?_;clear H a;intro a H
   have hat:=Kz (js:=js) (st:=st) (n:=n) (i:=i) (by omega)
   rw [Lb hat,Ja hat,Gc hat] at H
   exact k4 (g1-1) (i+1) a _ (by omega) (⟨by omega,by omega⟩) (S.sel [1] G G) (H.keep [6,7,8,14,1,2,12,13] rfl)
  try simp only [o1,o2,o3,o4,o5,o6,o7,o8,o9,oa] at hc2
  refine wp_skip ?_
  refine k7 _ _ ?_
  replace H:=H.keep [1,2,6,7,8,12,13,14] rfl
  refine sO H<|sd (aH G G (by unfold i64ok;omega))<|sr 1 rfl<|sE ?_;clear H a;intro a H
  have hat:=La (js:=js) (st:=st) (n:=n) (i:=i) (by omega)
  rw [Lc hat,Jc hat,Gd hat] at H
  exact k4 (g1-1) (i+1) a _ (by omega) (⟨by omega,by omega⟩) (S.sel [1] G G) (H.keep [6,7,8,14,1,2,12,13] rfl)
 refine wp_exit ?_
 refine k2 _ _ ?_
 obtain rfl:i=js.length:=by omega
 refine sS H fun K15 k15=>sr 6 rfl<|sE ?_;clear H a;intro a H
 refine k15 _ ?_;clear k15 K15
 refine wp_ret ?_
 refine ret3 (fn:=Try.f32) rfl H G G G ?_
 exact ⟨rfl,(S.sel [] G G)⟩
theorem vY (mm:Int) (js:List Jq) (JA:Option Addr) (jc:Nat) (AA:Nat→Option Addr) (ac:Nat→Nat) (nv:List Int) (NA:Option Addr) (nc:Nat) (cr un:Int) (st:List Int) (SA:Option Addr) (sc:Nat) (w:World) (hjs:InS w noF 3 JA js.length (eR js AA ac)) (hnv:InS w noF 1 NA nv.length (icl nv)) (haf:∀ k,k<js.length→InS w noF 1 (AA k) (js.getD k Jq.zero).after.length (icl (js.getD k Jq.zero).after)) (hst:InS w noF 1 SA st.length (icl st)) (hsl:st.length=js.length) (V:WkV mm js nv cr un) (hsb:∀ k,k<js.length→0≤st.getD k 0∧st.getD k 0≤24) :
    Calls Try.prog 26 [.agg [.int .i64 mm,.slice JA js.length jc,.slice NA nv.length nc,.int .i64 cr,.int .i64 un].toArray,.slice SA st.length sc].toArray w (Ret (fun u w'=>u = .int .i64 (endV js st js.length)∧St w noF [] w')):=by
 have hjl:=V.nj
 refine enter Try.func26 rfl Try.ntmps26 rfl (fun a H=>?_)
 have S:=St.start w
 refine aB fun K1 k1=>?_
 refine aS H rfl S G G ?_;clear H a S;intro b2 _ a hb2 hbw2 S H
 refine ls 1 H<|sr 1 rfl<|sE ?_;clear H a;intro a H
 refine k1 _ _ ?_;clear k1 K1
 refine wp_seq_k fun K2 k2=>?_
 refine sS H fun K3 k3=>sf cV rfl<|sl S 0 dS G G G<|sL dV rfl<|sr 1 rfl<|sE ?_;clear H a;intro a H
 refine k3 _ ?_;clear k3 K3
 refine wp_block ?_
 refine loop_st (X:=Nat) (R0:=_) [1,8,9] H rfl (fun i=>[(4,.int .i64 (endV js st i)),(10,.int .i64 (i:Int))]) (fun i=>[]) (fun g i=>i≤js.length∧g+i=js.length) (js.length) 0 ?_ (S.sel [0] G G) (H.keep [4,10,1,8,9] rfl) ?_
 · exact ⟨by omega,by omega⟩
 clear H S a
 intro g1 x1 a w1 hp S H K4 k4
 obtain ⟨i,rfl⟩:∃ y,y=x1:=⟨_,rfl⟩
 refine sS H fun K5 k5=>sr 1 rfl<|sE ?_;clear H a;intro a H
 refine k5 _ ?_;clear k5 K5
 refine wp_seq_k fun K6 k6=>?_
 refine condL H rfl (fun hc1=>?_) (fun hc1=>?_)
 ·skip
  refine wp_skip ?_
  refine k6 _ _ ?_
  refine wp_seq_k fun K7 k7=>?_
  refine wp_block ?_
  refine aB fun K8 k8=>?_
  refine ls 3 H<|sr 1 rfl<|si dV eJ G G (hjs.adr (by omega)) (by omega)<|sd ((bG mD eJ rfl S hjs (by omega) (by omega)))<|sE ?_;clear H a;intro a H
  refine aJ H rfl S pY ?_;clear H a S;intro b6 _ a hb6 hbw6 S H
  refine ls 1 H<|sr 1 rfl<|sE ?_;clear H a;intro a H
  refine aD H S (i:=0) G G G G eJ G G ?_
  clear H a S;intro _ a S H
  refine k8 _ _ ?_;clear k8 K8
  have hsi:=hsb i (by omega)
  have hji:=V.job i (by omega)
  replace H:=H.keep [1,4,5,6,8,9,10] rfl
  replace S:=S.drew
  refine sP H<|sr 3 rfl<|si aN aX G G (hst.adr (by omega)) (by omega)<|slm aF rfl (hst.rd S (by omega) (by omega))<|sf jS rfl<|sl S 0 aF G G G<|sd (aH G G (by unfold i64ok;omega))<|sd (sW G G)<|sr 1 rfl<|sE ?_;clear H a;intro a H
  refine k7 _ _ ?_
  replace H:=H.keep [1,4,8,9,10] rfl
  refine sO H<|sd (aH G G (by unfold i64ok;omega))<|sr 1 rfl<|sE ?_;clear H a;intro a H
  exact k4 (g1-1) (i+1) a _ (by omega) (⟨by omega,by omega⟩) (S.sel [1] G G) (H.keep [4,10,1,8,9] rfl)
 refine wp_exit ?_
 refine k2 _ _ ?_
 obtain rfl:i=js.length:=by omega
 refine sS H fun K11 k11=>sr 2 rfl<|sE ?_;clear H a;intro a H
 refine k11 _ ?_;clear k11 K11
 refine wp_ret ?_
 refine ret1 (fn:=Try.f26) rfl H rfl ?_
 exact ⟨rfl,(S.sel [] G G)⟩
theorem nC (mm:Int) (js:List Jq) (JA:Option Addr) (jc:Nat) (AA:Nat→Option Addr) (ac:Nat→Nat) (nv:List Int) (NA:Option Addr) (nc:Nat) (cr un:Int) (st:List Int) (SA:Option Addr) (sc:Nat) (w:World) (hjs:InS w noF 3 JA js.length (eR js AA ac)) (hnv:InS w noF 1 NA nv.length (icl nv)) (haf:∀ k,k<js.length→InS w noF 1 (AA k) (js.getD k Jq.zero).after.length (icl (js.getD k Jq.zero).after)) (hjn:js.length≤9223372036854775807) (hnn:nv.length≤9223372036854775807) (han:∀ k,k<js.length→(js.getD k Jq.zero).after.length≤9223372036854775807) :
    Calls Try.prog 29 [.agg [.int .i64 mm,.slice JA js.length jc,.slice NA nv.length nc,.int .i64 cr,.int .i64 un].toArray,.slice SA st.length sc].toArray w (Ret (fun u w'=>u = .int .i64 (if wksE mm js nv cr un≠0 then wksE mm js nv cr un else if st.length=js.length then 0 else 1)∧St w noF [] w')):=by
 refine enter Try.func29 rfl Try.ntmps29 rfl (fun a H=>?_)
 have S:=St.start w
 refine aB fun K1 k1=>?_
 refine aS H rfl S G G ?_;clear H a S;intro b2 _ a hb2 hbw2 S H
 refine ls 1 H<|sr 1 rfl<|sE ?_;clear H a;intro a H
 refine k1 _ _ ?_;clear k1 K1
 refine wp_seq_k fun K2 k2=>?_
 refine aB fun K3 k3=>?_
 refine ls 1 H<|sd ((aC fC iA rfl S (i:=0) G G))<|sE ?_;clear H a;intro a H
 refine aA H G G Try.func25 G G (iF mm js JA jc AA ac nv NA nc cr un _ (hjs.now S) (hnv.now S) (fun k hk=>(haf k hk).now S) hjn hnn han) ?_;clear H a
 rintro _ _ a ⟨rfl,S2⟩ H
 replace S:=S.call S2;clear S2
 refine ls 1 H<|sr 1 rfl<|sE ?_;clear H a;intro a H
 refine k3 _ _ ?_;clear k3 K3
 refine sS H fun K4 k4=>sr 2 rfl<|sE ?_;clear H a;intro a H
 refine k4 _ ?_;clear k4 K4
 refine condN H rfl (fun hc1=>?_) (fun hc1=>?_)
 ·skip
  refine sS H fun K5 k5=>sr 2 rfl<|sE ?_;clear H a;intro a H
  refine k5 _ ?_;clear k5 K5
  refine wp_ret ?_
  refine ret1 (fn:=Try.f29) rfl H rfl ?_
  rw [if_pos hc1];exact ⟨rfl,(S.sel [] G G)⟩
 refine wp_skip ?_
 refine k2 _ _ ?_
 refine wp_seq_k fun K6 k6=>?_
 replace H:=H.keep [1,2] rfl
 refine sS H fun K7 k7=>sr 1 rfl<|sL aN rfl<|sf cV rfl<|sl S 0 dS G G G<|sL dV rfl<|sr 1 rfl<|sE ?_;clear H a;intro a H
 refine k7 _ ?_;clear k7 K7
 refine condN H rfl (fun hc2=>?_) (fun hc2=>?_)
 ·skip
  refine sS H fun K8 k8=>sr 1 rfl<|sE ?_;clear H a;intro a H
  refine k8 _ ?_;clear k8 K8
  refine wp_ret ?_
  refine ret1 (fn:=Try.f29) rfl H rfl ?_
  rw [if_neg (fun h=>h hc1),if_neg (by omega)];exact ⟨rfl,(S.sel [] G G)⟩
 refine wp_skip ?_
 refine k6 _ _ ?_
 refine sS H fun K9 k9=>sr 1 rfl<|sE ?_;clear H a;intro a H
 refine k9 _ ?_;clear k9 K9
 refine wp_ret ?_
 refine ret1 (fn:=Try.f29) rfl H rfl ?_
 rw [if_neg (fun h=>h hc1),if_pos (by omega)];exact ⟨rfl,(S.sel [] G G)⟩
theorem vZ (x:Int) (w:World) :
    Calls Try.prog 31 [.int .i64 x].toArray w (Ret (fun u w'=>u = .bool (decide (x<0)||decide (24<x))∧St w noF [] w')):=by
 refine enter Try.func31 rfl Try.ntmps31 rfl (fun a H=>?_)
 have S:=St.start w
 refine sS H fun K1 k1=>sr 1 rfl<|sE ?_;clear H a;intro a H
 refine k1 _ ?_;clear k1 K1
 refine sS H fun K2 k2=>sr 3 rfl<|sg 2 2 5 7 false G G (fun hg3=>sy hg3<|sr 1 rfl<|sy hg3<|sr 1 rfl<|sz 2 G G G)<|so G G G<|sr 1 rfl<|sE ?_;clear H a;intro a H
 refine k2 _ ?_;clear k2 K2
 refine wp_ret ?_
 refine ret1 (fn:=Try.f31) rfl H rfl ?_
 exact ⟨rfl,(S.sel [] G G)⟩
theorem zK (l:List Int) (A:Option Addr) (cp:Nat) (w:World) (hl:InS w noF 1 A l.length (icl l)) (hn:l.length≤9223372036854775807):Calls Try.prog 30 #[.slice A l.length cp,.func (.func 31) #[] #[]] w (Ret fun u w'=>u = .bool (l.any fun x=>decide (x<0)||decide (24<x))∧St w noF [] w'):=by
  have S0:=(St.start w).newNil 3 1 (icl [])
  have hh:=cE l A cp 31 _ [] [] (fun x=>decide (x<0)||decide (24<x)) _ w noF S0 hl hn Try.func31 G G (fun k w' hk S'=>iD (vZ (l.getD k 0) w') fun v w'' h=>⟨h.1,S'.startR.call h.2⟩)
  exact iD hh fun v w'' h=>⟨h.1,h.2.sel [] rfl rfl⟩
theorem Jd {l:List Int} (h:∀ k,k<l.length→0≤l.getD k 0∧l.getD k 0≤24):(l.any fun x=>decide (x<0)||decide (24<x))=false:=by
  rw [List.any_eq_false]
  intro x hx
  obtain ⟨q,hq,rfl⟩:=List.getElem_of_mem hx
  have:=h q hq
  rw [List.getD_eq_getElem?_getD,List.getElem?_eq_getElem hq,Option.getD_some] at this
  rw [decide_eq_false (by omega),decide_eq_false (by omega)];simp
theorem zL (mm:Int) (js:List Jq) (JA:Option Addr) (jc:Nat) (AA:Nat→Option Addr) (ac:Nat→Nat) (nv:List Int) (NA:Option Addr) (nc:Nat) (cr un:Int) (st:List Int) (SA:Option Addr) (sc:Nat) (n:Int) (w:World) (hjs:InS w noF 3 JA js.length (eR js AA ac)) (hnv:InS w noF 1 NA nv.length (icl nv)) (haf:∀ k,k<js.length→InS w noF 1 (AA k) (js.getD k Jq.zero).after.length (icl (js.getD k Jq.zero).after)) (hjn:js.length≤9223372036854775807) (hnn:nv.length≤9223372036854775807) (han:∀ k,k<js.length→(js.getD k Jq.zero).after.length≤9223372036854775807) (hst:InS w noF 1 SA st.length (icl st)) (hsl:st.length=js.length) (hE:wksE mm js nv cr un=0) (hsb:∀ k,k<js.length→0≤st.getD k 0∧st.getD k 0≤24) (hn:0≤n∧n<un) :
    Calls Try.prog 12 [.agg [.int .i64 mm,.slice JA js.length jc,.slice NA nv.length nc,.int .i64 cr,.int .i64 un].toArray,.slice SA st.length sc,.int .i64 n].toArray w (Ret (fun u w'=>u = .tuple #[.int .i64 (nSet js st n js.length),.int .i64 0]∧St w noF [] w')):=by
 have V:=jZ hE
 have hjl:=V.nj
 refine enter Try.func12 rfl Try.ntmps12 rfl (fun a H=>?_)
 have S:=St.start w
 refine aB fun K1 k1=>?_
 refine aS H rfl S G G ?_;clear H a S;intro b3 _ a hb3 hbw3 S H
 refine ls 2 H<|sr 2 rfl<|sE ?_;clear H a;intro a H
 refine k1 _ _ ?_;clear k1 K1
 refine wp_seq_k fun K2 k2=>?_
 refine aB fun K3 k3=>?_
 refine ls 2 H<|sd ((aC fC iA rfl S (i:=0) G G))<|sr 1 rfl<|sE ?_;clear H a;intro a H
 refine aA H G G Try.func29 G G (nC mm js JA jc AA ac nv NA nc cr un st SA sc _ (hjs.now S) (hnv.now S) (fun k hk=>(haf k hk).now S) hjn hnn han) ?_;clear H a
 rintro _ _ a ⟨rfl,S2⟩ H
 replace S:=S.call S2;clear S2
 rw [if_neg (fun h=>h hE),if_pos hsl] at H
 refine ls 1 H<|sr 1 rfl<|sE ?_;clear H a;intro a H
 refine k3 _ _ ?_;clear k3 K3
 refine sS H fun K4 k4=>sr 2 rfl<|sE ?_;clear H a;intro a H
 refine k4 _ ?_;clear k4 K4
 refine aQ H rfl (fun hc1=>?_) (fun hc1=>?_)
 ·skip
  skip
  cases hc1
 skip
 refine wp_skip ?_
 refine k2 _ _ ?_
 refine wp_seq_k fun K5 k5=>?_
 replace H:=H.keep [1,2,3] rfl
 refine aB fun K6 k6=>?_
 refine ls 9 H<|sr 3 rfl<|sg 4 2 20 24 false G G (fun hg3=>sy hg3<|sr 1 rfl<|sy hg3<|sf dP rfl<|sy hg3<|sl S 0 aF G G G<|sy hg3<|sr 1 rfl<|sz 4 G G G)<|so G G G<|sr 1 rfl<|sE ?_;clear H a;intro a H
 apply bP (i:=8) (g:=26) (t:=28) (b:=false) 2 H S G G (by kernel_rfl) (by kernel_rfl) G G
 case h1=>
  intro hg9
  refine ls 1 H<|sy hg9<|sr 1 rfl<|sE ?_;intro a H
  refine cC H G G (by assumption) ?_
  refine aA H G G Try.func30 G G (zK st SA sc _ (hst.now S) (by omega)) ?_
  rintro _ _ a ⟨rfl,S2⟩ H
  replace S:=S.call S2;clear S2
  rw [Jd (fun k hk=>hsb k (by omega))] at H
  exact wpList_nil ⟨H.strip 2 G G,(S.sel [0] G G)⟩
 clear H a S;intro a _ H S
 refine ls 1 H<|so G G G<|sE ?_;clear H a;intro a H
 refine k6 _ _ ?_;clear k6 K6
 refine aQ H rfl (fun hc2=>?_) (fun hc2=>?_)
 ·skip
  try simp only [o1,o2,o3,o4,o5,o6,o7,o8,o9,oa] at hc2
  exfalso;simp only [Bool.false_eq_true,or_false] at hc2;omega
 try simp only [o1,o2,o3,o4,o5,o6,o7,o8,o9,oa] at hc2
 refine wp_skip ?_
 refine k5 _ _ ?_
 replace H:=H.keep [1,2,3] rfl
 refine aB fun K7 k7=>?_
 refine ls 3 H<|sd ((aC fC iA rfl S (i:=0) G G))<|sr 2 rfl<|sE ?_;clear H a;intro a H
 refine aA H G G Try.func32 G G (gU mm js JA jc AA ac nv NA nc cr un st SA sc n _ (hjs.now S) (hnv.now S) (fun k hk=>(haf k hk).now S) (hst.now S) hsl V hsb) ?_;clear H a
 rintro _ _ a ⟨rfl,S2⟩ H
 replace S:=S.call S2;clear S2
 refine ls 7 H<|sr 7 rfl<|sE ?_;clear H a;intro a H
 refine k7 _ _ ?_;clear k7 K7
 replace H:=H.keep [9] rfl
 refine sS H fun K8 k8=>sr 3 rfl<|sE ?_;clear H a;intro a H
 refine k8 _ ?_;clear k8 K8
 refine wp_ret ?_
 refine ret2 (fn:=Try.f12) rfl H G G ?_
 exact ⟨rfl,(S.sel [] G G)⟩
theorem rQ (s9 b9:Int) (t:Bool) (w:World) :
    Calls Try.prog 47 [.int .i64 s9,.int .i64 b9,.bool t].toArray w (Ret (fun u w'=>u = .bool t∧St w noF [] w')):=by
 refine enter Try.func47 rfl Try.ntmps47 rfl (fun a H=>?_)
 have S:=St.start w
 refine sS H fun K1 k1=>sr 1 rfl<|sE ?_;clear H a;intro a H
 refine k1 _ ?_;clear k1 K1
 refine sS H fun K2 k2=>sr 2 rfl<|sE ?_;clear H a;intro a H
 refine k2 _ ?_;clear k2 K2
 refine wp_ret ?_
 refine ret1 (fn:=Try.f47) rfl H rfl ?_
 exact ⟨rfl,(S.sel [] G G)⟩
theorem rR (mm:Int) (js:List Jq) (JA:Option Addr) (jc:Nat) (AA:Nat→Option Addr) (ac:Nat→Nat) (nv:List Int) (NA:Option Addr) (nc:Nat) (cr un:Int) (cb:Nat) (s9 b9:Int) (t:Bool) (w:World) (F:Nat→Prop) (S:St w F [boxM cb 28 [.int .i64 mm,.slice JA js.length jc,.slice NA nv.length nc,.int .i64 cr,.int .i64 un]] w) :
    Calls Try.prog 48 [.int .i64 s9,.int .i64 b9,.bool t,.pointer (some ⟨cb,0,none⟩)].toArray w (Ret (fun u w'=>u = .bool (decide (cr<b9))∧St w F [boxM cb 28 [.int .i64 mm,.slice JA js.length jc,.slice NA nv.length nc,.int .i64 cr,.int .i64 un]] w')):=by
 refine enter Try.func48 rfl Try.ntmps48 rfl (fun a H=>?_)
 skip
 refine sS H fun K1 k1=>sr 1 rfl<|sE ?_;clear H a;intro a H
 refine k1 _ ?_;clear k1 K1
 refine sS H fun K2 k2=>sr 1 rfl<|sf rB rfl<|sl S 0 aF G G G<|sr 2 rfl<|sE ?_;clear H a;intro a H
 refine k2 _ ?_;clear k2 K2
 refine wp_ret ?_
 refine ret1 (fn:=Try.f48) rfl H rfl ?_
 exact ⟨rfl,(S.sel [0] G G)⟩
theorem pO (n:Int) (sb:Nat) (set:Int) (w:World) (F:Nat→Prop) (S:St w F [boxM sb 3 [.int .i64 set]] w) (hn:0≤n∧n≤4095) (hset:0≤set∧set≤4095) :
    Calls Try.prog 50 [.int .i64 n,.pointer (some ⟨sb,0,none⟩)].toArray w (Ret (fun u w'=>u = .bool (decide (landI set n=n))∧St w F [boxM sb 3 [.int .i64 set]] w')):=by
 refine enter Try.func50 rfl Try.ntmps50 rfl (fun a H=>?_)
 skip
 refine sS H fun K1 k1=>sr 1 rfl<|sE ?_;clear H a;intro a H
 refine k1 _ ?_;clear k1 K1
 refine sS H fun K2 k2=>sl S 0 aF G G G<|sr 1 rfl<|sd (pZ G G (by omega) (by omega))<|sr 3 rfl<|sE ?_;clear H a;intro a H
 refine k2 _ ?_;clear k2 K2
 refine wp_ret ?_
 refine ret1 (fn:=Try.f50) rfl H rfl ?_
 exact ⟨rfl,(S.sel [0] G G)⟩
theorem zM {mm cr un:Int} {js:List Jq} {nv:List Int} (V:WkV mm js nv cr un) (NA:Option Addr) (nc:Nat) (sb:Nat) (set:Int) (w:World) (F:Nat→Prop) (S:St w F [boxM sb 3 [.int .i64 set]] w) (hnv:InS w F 1 NA nv.length (icl nv)) (hset:0≤set∧set≤4095):Calls Try.prog 30 #[.slice NA nv.length nc,.func (.func 50) #[] #[.pointer (some ⟨sb,0,none⟩)]] w (Ret fun u w'=>u = .bool (nv.any fun n=>decide (landI set n=n))∧St w F [boxM sb 3 [.int .i64 set]] w'):=by
  have hh:=cE nv NA nc 50 _ [] [.pointer (some ⟨sb,0,none⟩)] (fun n=>decide (landI set n=n)) _ w F S hnv (by have:=V.nn;omega) Try.func50 G G (fun k w' hk S'=>by
    have h9:=V.nev k hk
    have h8:=pwm V.mmb
    exact pO (nv.getD k 0) sb set w' _ S'.startR (by omega) hset)
  exact hh
theorem rS (mm:Int) (js:List Jq) (JA:Option Addr) (jc:Nat) (AA:Nat→Option Addr) (ac:Nat→Nat) (nv:List Int) (NA:Option Addr) (nc:Nat) (cr un:Int) (cb:Nat) (s9 b9:Int) (t:Bool) (w:World) (F:Nat→Prop) (S:St w F [boxM cb 28 [.int .i64 mm,.slice JA js.length jc,.slice NA nv.length nc,.int .i64 cr,.int .i64 un]] w) (hnv:InS w F 1 NA nv.length (icl nv)) (V:WkV mm js nv cr un) (ha:0≤s9∧s9≤4095) :
    Calls Try.prog 49 [.int .i64 s9,.int .i64 b9,.bool t,.pointer (some ⟨cb,0,none⟩)].toArray w (Ret (fun u w'=>u = .bool (nv.any fun n=>decide (landI s9 n=n))∧St w F [boxM cb 28 [.int .i64 mm,.slice JA js.length jc,.slice NA nv.length nc,.int .i64 cr,.int .i64 un]] w')):=by
 refine enter Try.func49 rfl Try.ntmps49 rfl (fun a H=>?_)
 skip
 refine aB fun K1 k1=>?_
 refine aS H rfl S G G ?_;clear H a S;intro b4 _ a hb4 hbw4 S H
 refine ls 1 H<|sr 1 rfl<|sE ?_;clear H a;intro a H
 refine k1 _ _ ?_;clear k1 K1
 refine aB fun K2 k2=>?_
 refine ls 3 H<|sf fK rfl<|sl S 1 aZ G G G<|sr 1 rfl<|sE ?_;clear H a;intro a H
 have S1:=(S.sel [0] G G)
 refine aA H G G Try.func30 G G (zM V NA nc b4 s9 _ _ S1.startR (hnv.nowR S1) ha) ?_;clear H a
 rintro _ _ a ⟨rfl,S2⟩ H
 replace S:=(S.sel [0,1] G G).callR (M:=[_]) S2;clear S1 S2
 refine ls 1 H<|sr 1 rfl<|sE ?_;clear H a;intro a H
 refine k2 _ _ ?_;clear k2 K2
 refine wp_ret ?_
 refine ret1 (fn:=Try.f49) rfl H rfl ?_
 exact ⟨rfl,(S.sel [1] G G)⟩
end
section
section
variable {mm cr un:Int} {js:List Jq} {nv st:List Int}
theorem iG (hjs:1≤js.length) (h1:∀ i,i<js.length→0≤st.getD i 0∧st.getD i 0≤un-(js.getD i Jq.zero).nights) (h2:∀ q:Nat,(q:Int)<un→eS js st q js.length=false) (h3:∀ q:Nat,(q:Int)<un→¬ cr<nJobs js st q js.length)
    (h4:∀ q:Nat,(q:Int)<un→(nv.any fun n=>decide (landI (nSet js st q js.length) n=n))=false):WkR js nv cr un st:=⟨h1,h2,fun q hq=>by have:=h3 q hq;omega,fun q hq k hk h=>by
  have h5:=h4 q hq
  rw [List.any_eq_false] at h5
  have h6:=h5 nv[k] (List.getElem_mem hk)
  rw [List.getD_eq_getElem?_getD,List.getElem?_eq_getElem hk,Option.getD_some] at h
  rw [decide_eq_true h] at h6
  exact h6 rfl⟩
theorem pw24 {al un:Int} {i:Nat} (h:0≤al∧al≤24^i) (hu:1≤un∧un≤24) (hi:i<6):(0≤al*un∧al*un≤24^(i+1))∧al*un≤191102976:=by
  have h1:al*un≤24^i*24:=Int.mul_le_mul h.2 hu.2 (by omega) (by omega)
  have h2:(24:Int)^(i+1)=24^i*24:=Int.pow_succ 24 i
  have h3:(24:Int)^(i+1)≤24^6:=by
    have h4:24^(i+1)≤24^6:=Nat.pow_le_pow_right (by decide) (by omega)
    exact_mod_cast h4
  have h5:(24:Int)^6=191102976:=by decide
  exact ⟨⟨Int.mul_nonneg h.1 (by omega),by omega⟩,by omega⟩
theorem Cy {U m:Nat}:∀ n,odV U (List.replicate m 0) n=0:=by
  intro n
  induction n with
  | zero=>rfl
  | succ n ih=>
    rw [odV,ih,Nat.zero_mul]
    have:(List.replicate m (0:Int)).getD n 0=0:=by
      rw [List.getD_eq_getElem?_getD,List.getElem?_replicate]
      split <;> rfl
    rw [this];rfl
theorem xM {m n:Nat}:(List.replicate m (0:Int)).getD n 0=0:=by
  rw [List.getD_eq_getElem?_getD,List.getElem?_replicate]
  split <;> rfl
end
theorem Je {l:List Int} {q:Nat} (h:∀ z,z<q→lowA l 0 z≤l.getD z 0):0≤lowA l 0 q:=by
  induction q with
  | zero=>exact Int.le_refl 0
  | succ q ih=>
    have h1:=ih fun z hz=>h z (by omega)
    have h2:=h q (by omega)
    rw [xH]
    omega
theorem tT (mm:Int) (js:List Jq) (JA:Option Addr) (jc:Nat) (AA:Nat→Option Addr) (ac:Nat→Nat) (nv:List Int) (NA:Option Addr) (nc:Nat) (cr un:Int) (st:List Int) (SA:Option Addr) (sc:Nat) (w:World) (hjs:InS w noF 3 JA js.length (eR js AA ac)) (hnv:InS w noF 1 NA nv.length (icl nv)) (haf:∀ k,k<js.length→InS w noF 1 (AA k) (js.getD k Jq.zero).after.length (icl (js.getD k Jq.zero).after)) (hjn:js.length≤9223372036854775807) (hnn:nv.length≤9223372036854775807) (han:∀ k,k<js.length→(js.getD k Jq.zero).after.length≤9223372036854775807) (hst:InS w noF 1 SA st.length (icl st)) (hsl:st.length=js.length) (V:WkV mm js nv cr un) (hsb:∀ k,k<js.length→0≤st.getD k 0∧st.getD k 0≤24) :
    Calls Try.prog 27 [.agg [.int .i64 mm,.slice JA js.length jc,.slice NA nv.length nc,.int .i64 cr,.int .i64 un].toArray,.slice SA st.length sc].toArray w (Ret (fun u w'=>∃ r n:Int,u = .tuple #[.int .i64 r,.int .i64 n]∧(r=0→WkR js nv cr un st)∧St w noF [] w')):=by
 have hjl:=V.nj
 have hub:=V.unb
 refine enter Try.func27 rfl Try.ntmps27 rfl (fun a H=>?_)
 have S:=St.start w
 refine aB fun K1 k1=>?_
 refine aS H rfl S G G ?_;clear H a S;intro b2 _ a hb2 hbw2 S H
 refine ls 2 H<|sr 2 rfl<|sE ?_;clear H a;intro a H
 refine k1 _ _ ?_;clear k1 K1
 refine wp_seq_k fun K2 k2=>?_
 refine sS H fun K3 k3=>sf cV rfl<|sl S 0 dS G G G<|sL dV rfl<|sr 1 rfl<|sE ?_;clear H a;intro a H
 refine k3 _ ?_;clear k3 K3
 refine wp_block ?_
 refine loop_st (X:=Nat) (R0:=_) [1,2,17,18] H rfl (fun i=>[(19,.int .i64 (i:Int))]) (fun i=>[]) (fun g i=>i≤js.length∧g+i=js.length∧∀ k,k<i→(fun i=>0≤st.getD i 0∧st.getD i 0≤un-(js.getD i Jq.zero).nights) k) (js.length) 0 ?_ (S.sel [0] G G) (H.keep [19,1,2,17,18] rfl) ?_
 · exact ⟨by omega,by omega,fun k hk=>absurd hk (Nat.not_lt_zero k)⟩
 clear H S a
 intro g1 x1 a w1 hp S H K4 k4
 obtain ⟨i,rfl⟩:∃ y,y=x1:=⟨_,rfl⟩
 refine sS H fun K5 k5=>sr 1 rfl<|sE ?_;clear H a;intro a H
 refine k5 _ ?_;clear k5 K5
 refine wp_seq_k fun K6 k6=>?_
 refine condL H rfl (fun hc1=>?_) (fun hc1=>?_)
 ·skip
  refine wp_skip ?_
  refine k6 _ _ ?_
  refine wp_seq_k fun K7 k7=>?_
  refine wp_block ?_
  refine aB fun K8 k8=>?_
  refine ls 3 H<|sr 1 rfl<|si dV eJ G G (hjs.adr (by omega)) (by omega)<|sd ((bG mD eJ rfl S hjs (by omega) (by omega)))<|sE ?_;clear H a;intro a H
  refine aJ H rfl S pY ?_;clear H a S;intro b7 _ a hb7 hbw7 S H
  refine ls 1 H<|sr 1 rfl<|sE ?_;clear H a;intro a H
  refine aD H S (i:=0) G G G G eJ G G ?_
  clear H a S;intro _ a S H
  refine k8 _ _ ?_;clear k8 K8
  have hsi:=hsb i (by omega)
  have hji:=V.job i (by omega)
  replace H:=H.keep [1,2,6,7,17,18,19] rfl
  replace S:=S.drew
  refine sD H fun K9 k9=>sr 2 rfl<|si aN aX G G (hst.adr (by omega)) (by omega)<|slm aF rfl (hst.rd S (by omega) (by omega))<|sr 2 rfl<|sg 10 5 29 39 false G G (fun hg6=>by
      have hq6:=hg6;try simp only [o1,o2,o3,o4,o5,o6,o7,o8,o9,oa] at hq6
      exact sy hg6<|sr 1 rfl<|sy hg6<|sr 1 rfl<|sy hg6<|si aN aX G G (hst.adr (by omega)) (by omega)<|sy hg6<|slm aF rfl (hst.rd S (by omega) (by omega))<|sy hg6<|sf dP rfl<|sy hg6<|sl S 1 aF G G G<|sy hg6<|sf jS rfl<|sy hg6<|sl S 0 aF G G G<|sy hg6<|sd (bK G G (by unfold i64ok;omega))<|sy hg6<|sr 1 rfl<|sz 10 G G G)<|so G G G<|sE ?_;clear H a;intro a H
  refine k9 _ ?_;clear k9 K9
  refine aQ H rfl (fun hc2=>?_) (fun hc2=>?_)
  ·skip
   try simp only [o1,o2,o3,o4,o5,o6,o7,o8,o9,oa] at hc2
   replace H:=H.keep [6] rfl
   refine sS H fun K10 k10=>sr 3 rfl<|sE ?_;clear H a;intro a H
   refine k10 _ ?_;clear k10 K10
   refine wp_ret ?_
   refine ret2 (fn:=Try.f27) rfl H G G ?_
   first|exact ⟨_,_,rfl,fun h=>by omega,(S.sel [] G G)⟩|exact ⟨_,_,rfl,fun _=>iG (by omega) hR1 (hT1 (by omega)) (hT2 (by omega)) (hT3 (by omega)),(S.sel [] G G)⟩
  try simp only [o1,o2,o3,o4,o5,o6,o7,o8,o9,oa] at hc2
  refine wp_skip ?_
  refine k7 _ _ ?_
  refine sO H<|sd (aH G G (by unfold i64ok;omega))<|sr 1 rfl<|sE ?_;clear H a;intro a H
  exact k4 (g1-1) (i+1) a _ (by omega) (⟨by omega,by omega,gG hp.2.2 (by omega)⟩) (S.sel [1] G G) (H.keep [19,1,2,17,18] rfl)
 refine wp_exit ?_
 refine k2 _ _ ?_
 refine wp_seq_k fun K12 k12=>?_
 refine sS H fun K13 k13=>sf cV rfl<|sl S 0 dS G G G<|sL dV rfl<|sr 1 rfl<|sE ?_;clear H a;intro a H
 refine k13 _ ?_;clear k13 K13
 refine wp_block ?_
 obtain ⟨hil,_,hR1⟩:=hp
 obtain rfl:i=js.length:=by omega
 refine loop_st (X:=Nat) (R0:=_) [1,2,44,45] H rfl (fun i=>[(46,.int .i64 (i:Int))]) (fun i=>[]) (fun g i=>i≤js.length∧g+i=js.length) (js.length) 0 ?_ (S.sel [0] G G) (H.keep [46,1,2,44,45] rfl) ?_
 · exact ⟨by omega,by omega⟩
 clear H S a
 intro g2 x2 a w2 hp S H K14 k14
 obtain ⟨i,rfl⟩:∃ y,y=x2:=⟨_,rfl⟩
 refine sS H fun K15 k15=>sr 1 rfl<|sE ?_;clear H a;intro a H
 refine k15 _ ?_;clear k15 K15
 refine wp_seq_k fun K16 k16=>?_
 refine condL H rfl (fun hc3=>?_) (fun hc3=>?_)
 ·skip
  refine wp_skip ?_
  refine k16 _ _ ?_
  refine wp_seq_k fun K17 k17=>?_
  refine wp_block ?_
  refine aB fun K18 k18=>?_
  refine ls 3 H<|sr 1 rfl<|si dV eJ G G (hjs.adr (by omega)) (by omega)<|sd ((bG mD eJ rfl S hjs (by omega) (by omega)))<|sE ?_;clear H a;intro a H
  refine aJ H rfl S pY ?_;clear H a S;intro b9 _ a hb9 hbw9 S H
  refine ls 1 H<|sr 1 rfl<|sE ?_;clear H a;intro a H
  refine aD H S (i:=0) G G G G eJ G G ?_
  clear H a S;intro _ a S H
  refine k18 _ _ ?_;clear k18 K18
  replace H:=H.keep [1,2,8,9,44,45,46] rfl
  refine sS H fun K19 k19=>sf jT rfl<|sl S 0 aZ G G G<|sL aN rfl<|sr 1 rfl<|sE ?_;clear H a;intro a H
  refine k19 _ ?_;clear k19 K19
  refine wp_block ?_
  have hai:=han i (by omega)
  refine loop_st (X:=Nat) (R0:=_) [1,2,8,44,45,46,52,53] H rfl (fun q=>[(54,.int .i64 (q:Int))]) (fun q=>[]) (fun g q=>q≤(js.getD i Jq.zero).after.length∧g+q=(js.getD i Jq.zero).after.length) ((js.getD i Jq.zero).after.length) 0 ?_ (S.sel [0,1] G G) (H.keep [54,1,2,8,44,45,46,52,53] rfl) ?_
  · exact ⟨by omega,by omega⟩
  clear H S a
  intro g3 x3 a w3 hp S H K20 k20
  obtain ⟨q,rfl⟩:∃ y,y=x3:=⟨_,rfl⟩
  refine sS H fun K21 k21=>sr 1 rfl<|sE ?_;clear H a;intro a H
  refine k21 _ ?_;clear k21 K21
  refine wp_seq_k fun K22 k22=>?_
  refine condL H rfl (fun hc4=>?_) (fun hc4=>?_)
  ·skip
   refine wp_skip ?_
   refine k22 _ _ ?_
   refine wp_seq_k fun K23 k23=>?_
   refine wp_block ?_
   refine sS H fun K24 k24=>si aN aX G G ((haf i (by omega)).adr (by omega)) (by omega)<|slm aF rfl ((haf i (by omega)).rd S (by omega) (by omega))<|sr 1 rfl<|sE ?_;clear H a;intro a H
   refine k24 _ ?_;clear k24 K24
   have hai:=V.aft i (by omega) q (by omega)
   have hlb:=Je (l:=(js.getD i Jq.zero).after) (q:=q) (fun z hz=>(V.aft i (by omega) z (by omega)).1)
   have hta:((((js.getD i Jq.zero).after.getD q 0).toNat:Nat):Int)=(js.getD i Jq.zero).after.getD q 0:=by omega
   have hsa:=hsb ((js.getD i Jq.zero).after.getD q 0).toNat (by omega)
   have hja:=V.job ((js.getD i Jq.zero).after.getD q 0).toNat (by omega)
   have hsi:=hsb i (by omega)
   replace H:=H.keep [1,2,8,11,44,45,46,52,53,54] rfl
   replace S:=S.drew
   refine sD H fun K25 k25=>sr 2 rfl<|sI aN aX G G (hst.adr (by omega)) (by omega) (by omega)<|slm aF rfl (hst.rd S (by omega) (by omega))<|sf cV rfl<|sl S 1 dS G G G<|sr 1 rfl<|sI dV eJ G G (hjs.adr (by omega)) (by omega) (by omega)<|sp jS rfl<|slm aF rfl (hjs.rd S (by omega) (by omega))<|sd (aH G G (by unfold i64ok;omega))<|sr 2 rfl<|si aN aX G G (hst.adr (by omega)) (by omega)<|slm aF rfl (hst.rd S (by omega) (by omega))<|sr 1 rfl<|sE ?_;clear H a;intro a H
   refine k25 _ ?_;clear k25 K25
   refine condL H rfl (fun hc5=>?_) (fun hc5=>?_)
   ·skip
    replace H:=H.keep [8] rfl
    refine sS H fun K26 k26=>sr 3 rfl<|sE ?_;clear H a;intro a H
    refine k26 _ ?_;clear k26 K26
    refine wp_ret ?_
    refine ret2 (fn:=Try.f27) rfl H G G ?_
    first|exact ⟨_,_,rfl,fun h=>by omega,(S.sel [] G G)⟩|exact ⟨_,_,rfl,fun _=>iG (by omega) hR1 (hT1 (by omega)) (hT2 (by omega)) (hT3 (by omega)),(S.sel [] G G)⟩
   refine wp_skip ?_
   refine k23 _ _ ?_
   refine sO H<|sd (aH G G (by unfold i64ok;omega))<|sr 1 rfl<|sE ?_;clear H a;intro a H
   exact k20 (g3-1) (q+1) a _ (by omega) (⟨by omega,by omega⟩) (S.sel [0,1] G G) (H.keep [54,1,2,8,44,45,46,52,53] rfl)
  refine wp_exit ?_
  refine k17 _ _ ?_
  refine sO H<|sd (aH G G (by unfold i64ok;omega))<|sr 1 rfl<|sE ?_;clear H a;intro a H
  exact k14 (g2-1) (i+1) a _ (by omega) (⟨by omega,by omega⟩) (S.sel [1] G G) (H.keep [46,1,2,44,45] rfl)
 refine wp_exit ?_
 refine k12 _ _ ?_
 replace H:=H.keep [1,2] rfl
 refine aB fun K29 k29=>?_
 refine ls 3 H<|sr 2 rfl<|sd (aO Ii G G)<|sE ?_;clear H a;intro a H
 refine aJ H rfl S Cb ?_;clear H a S;intro b12 _ a hb12 hbw12 S H
 refine aD H S (i:=0) G G G G Bn G G ?_
 clear H a S;intro _ a S H
 refine k29 _ _ ?_;clear k29 K29
 refine wp_seq_k fun K30 k30=>?_
 refine sS H fun K31 k31=>sd (Does.to (aC Fe Bn rfl S (i:=0) G G) (show _=Value.agg #[.func (.func 47) #[] #[],.func (.func 48) #[] #[.pointer (some ⟨b2,0,none⟩)],.func (.func 49) #[] #[.pointer (some ⟨b2,0,none⟩)]] from rfl))<|sr 1 rfl<|sE ?_;clear H a;intro a H
 refine k31 _ ?_;clear k31 K31
 refine wp_block ?_
 refine loop_st (X:=Nat) (R0:=_) [1,2,80] H rfl (fun k=>[(81,.int .i64 (k:Int))]) (fun k=>[]) (fun g k=>k≤3∧g+k=3∧(1≤k→∀ q:Nat,(q:Int)<un→eS js st q js.length=false)∧(2≤k→∀ q:Nat,(q:Int)<un→¬ cr<nJobs js st q js.length)∧(3≤k→∀ q:Nat,(q:Int)<un→(nv.any fun n=>decide (landI (nSet js st q js.length) n=n))=false)) (3) 0 ?_ (S.sel [0,1] G G) (H.keep [81,1,2,80] rfl) ?_
 · exact ⟨by omega,by omega,fun h=>by omega,fun h=>by omega,fun h=>by omega⟩
 clear H S a
 intro g4 x4 a w4 hp S H K32 k32
 obtain ⟨k,rfl⟩:∃ y,y=x4:=⟨_,rfl⟩
 obtain ⟨hk3,hgk,hT1,hT2,hT3⟩:=hp
 refine sS H fun K33 k33=>sr 1 rfl<|sE ?_;clear H a;intro a H
 refine k33 _ ?_;clear k33 K33
 refine wp_seq_k fun K34 k34=>?_
 refine condL H rfl (fun hc6=>?_) (fun hc6=>?_)
 ·skip
  refine wp_skip ?_
  refine k34 _ _ ?_
  refine wp_seq_k fun K35 k35=>?_
  refine wp_block ?_
  have hk3:k=0∨k=1∨k=2:=by omega
  rcases hk3 with rfl|rfl|rfl
  ·skip
   skip
   refine sS H fun K36 k36=>sr 1 rfl<|sd (iY Try.underlying114 vH G G (by omega) (by omega) (qZ) (rfl))<|sr 2 rfl<|sE ?_;clear H a;intro a H
   refine k36 _ ?_;clear k36 K36
   refine sS H fun K37 k37=>sf dP rfl<|sl S 1 aF G G G<|sr 1 rfl<|sE ?_;clear H a;intro a H
   refine k37 _ ?_;clear k37 K37
   refine wp_block ?_
   have hun:((un.toNat:Nat):Int)=un:=by omega
   refine loop_st (X:=Nat) (R0:=_) [1,2,13,14,80,81,86] H rfl (fun n=>[(87,.int .i64 (n:Int))]) (fun n=>[]) (fun g n=>n≤un.toNat∧g+n=un.toNat∧∀ q,q<n→(fun q:Nat=>eS js st q js.length=false) q) (un.toNat) 0 ?_ (S.sel [0,1] G G) (H.keep [87,1,2,13,14,80,81,86] rfl) ?_
   · exact ⟨by omega,by omega,fun k hk=>absurd hk (Nat.not_lt_zero k)⟩
   clear H S a
   intro g5 x5 a w5 hp S H K38 k38
   obtain ⟨n,rfl⟩:∃ y,y=x5:=⟨_,rfl⟩
   refine sS H fun K39 k39=>sr 1 rfl<|sE ?_;clear H a;intro a H
   refine k39 _ ?_;clear k39 K39
   refine wp_seq_k fun K40 k40=>?_
   refine condL H rfl (fun hc7=>?_) (fun hc7=>?_)
   ·skip
    refine wp_skip ?_
    refine k40 _ _ ?_
    refine wp_seq_k fun K41 k41=>?_
    refine wp_block ?_
    refine sS H fun K42 k42=>sr 2 rfl<|sE ?_;clear H a;intro a H
    refine k42 _ ?_;clear k42 K42
    replace H:=H.keep [1,2,13,14,15,80,81,86,87] rfl
    refine aB fun K43 k43=>?_
    refine ls 4 H<|sr 1 rfl<|sd ((aC fC iA rfl S (i:=1) G G))<|sr 2 rfl<|sE ?_;clear H a;intro a H
    refine aA H G G Try.func32 G G (gU mm js JA jc AA ac nv NA nc cr un st SA sc (n:Int) _ (hjs.now S) (hnv.now S) (fun k hk=>(haf k hk).now S) (hst.now S) hsl V hsb) ?_;clear H a
    rintro _ _ a ⟨rfl,S2⟩ H
    replace S:=S.call S2;clear S2
    refine ls 3 H<|sr 3 rfl<|sE ?_;clear H a;intro a H
    refine gC H G G G Try.func47 G G (rQ _ _ _ _) ?_;clear H a
    rintro _ _ a ⟨rfl,S2⟩ H
    replace S:=S.call S2;clear S2
    refine k43 _ _ ?_;clear k43 K43
    refine aQ H rfl (fun hc8=>?_) (fun hc8=>?_)
    ·skip
     try simp only [o1,o2,o3,o4,o5,o6,o7,o8,o9,oa] at hc8
     replace H:=H.keep [13,15] rfl
     refine sS H fun K44 k44=>sr 1 rfl<|sd (aH G G (by unfold i64ok;omega))<|sr 3 rfl<|sE ?_;clear H a;intro a H
     refine k44 _ ?_;clear k44 K44
     refine wp_ret ?_
     refine ret2 (fn:=Try.f27) rfl H G G ?_
     first|exact ⟨_,_,rfl,fun h=>by omega,(S.sel [] G G)⟩|exact ⟨_,_,rfl,fun _=>iG (by omega) hR1 (hT1 (by omega)) (hT2 (by omega)) (hT3 (by omega)),(S.sel [] G G)⟩
    try simp only [o1,o2,o3,o4,o5,o6,o7,o8,o9,oa] at hc8
    refine wp_skip ?_
    refine k41 _ _ ?_
    refine sO H<|sd (aH G G (by unfold i64ok;omega))<|sr 1 rfl<|sE ?_;clear H a;intro a H
    exact k38 (g5-1) (n+1) a _ (by omega) (⟨by omega,by omega,gG hp.2.2 (by simpa using hc8)⟩) (S.sel [0,1] G G) (H.keep [87,1,2,13,14,80,81,86] rfl)
   refine wp_exit ?_
   refine k35 _ _ ?_
   refine sO H<|sd (aH G G (by unfold i64ok;omega))<|sr 1 rfl<|sE ?_;clear H a;intro a H
   exact k32 (g4-1) 1 a _ (by omega) (⟨by omega,by omega,fun _ q hq=>hp.2.2 q (by omega),fun h=>by omega,fun h=>by omega⟩) (S.sel [0,1] G G) (H.keep [81,1,2,80] rfl)
  ·skip
   skip
   replace H:=H.keep [1,2,80,81] rfl
   refine sS H fun K47 k47=>sr 1 rfl<|sd (iY Try.underlying114 vH G G (by omega) (by omega) (qZ) (rfl))<|sr 2 rfl<|sE ?_;clear H a;intro a H
   refine k47 _ ?_;clear k47 K47
   refine sS H fun K48 k48=>sf dP rfl<|sl S 1 aF G G G<|sr 1 rfl<|sE ?_;clear H a;intro a H
   refine k48 _ ?_;clear k48 K48
   refine wp_block ?_
   have hun:((un.toNat:Nat):Int)=un:=by omega
   refine loop_st (X:=Nat) (R0:=_) [1,2,13,14,80,81,86] H rfl (fun n=>[(87,.int .i64 (n:Int))]) (fun n=>[]) (fun g n=>n≤un.toNat∧g+n=un.toNat∧∀ q,q<n→(fun q:Nat=>¬ cr<nJobs js st q js.length) q) (un.toNat) 0 ?_ (S.sel [0,1] G G) (H.keep [87,1,2,13,14,80,81,86] rfl) ?_
   · exact ⟨by omega,by omega,fun k hk=>absurd hk (Nat.not_lt_zero k)⟩
   clear H S a
   intro g6 x6 a w6 hp S H K49 k49
   obtain ⟨n,rfl⟩:∃ y,y=x6:=⟨_,rfl⟩
   refine sS H fun K50 k50=>sr 1 rfl<|sE ?_;clear H a;intro a H
   refine k50 _ ?_;clear k50 K50
   refine wp_seq_k fun K51 k51=>?_
   refine condL H rfl (fun hc9=>?_) (fun hc9=>?_)
   ·skip
    refine wp_skip ?_
    refine k51 _ _ ?_
    refine wp_seq_k fun K52 k52=>?_
    refine wp_block ?_
    refine sS H fun K53 k53=>sr 2 rfl<|sE ?_;clear H a;intro a H
    refine k53 _ ?_;clear k53 K53
    replace H:=H.keep [1,2,13,14,15,80,81,86,87] rfl
    refine aB fun K54 k54=>?_
    refine ls 4 H<|sr 1 rfl<|sd ((aC fC iA rfl S (i:=1) G G))<|sr 2 rfl<|sE ?_;clear H a;intro a H
    refine aA H G G Try.func32 G G (gU mm js JA jc AA ac nv NA nc cr un st SA sc (n:Int) _ (hjs.now S) (hnv.now S) (fun k hk=>(haf k hk).now S) (hst.now S) hsl V hsb) ?_;clear H a
    rintro _ _ a ⟨rfl,S2⟩ H
    replace S:=S.call S2;clear S2
    refine ls 3 H<|sr 3 rfl<|sE ?_;clear H a;intro a H
    have S1:=(S.sel [1] G G)
    refine gC H G G G Try.func48 G G (rR mm js JA jc AA ac nv NA nc cr un b2 _ _ _ _ _ S1.startR) ?_;clear H a
    rintro _ _ a ⟨rfl,S2⟩ H
    replace S:=(S.sel [1,0] G G).callR (M:=[_]) S2;clear S1 S2
    refine k54 _ _ ?_;clear k54 K54
    refine aQ H rfl (fun hc10=>?_) (fun hc10=>?_)
    ·skip
     try simp only [o1,o2,o3,o4,o5,o6,o7,o8,o9,oa] at hc10
     replace H:=H.keep [13,15] rfl
     refine sS H fun K55 k55=>sr 1 rfl<|sd (aH G G (by unfold i64ok;omega))<|sr 3 rfl<|sE ?_;clear H a;intro a H
     refine k55 _ ?_;clear k55 K55
     refine wp_ret ?_
     refine ret2 (fn:=Try.f27) rfl H G G ?_
     first|exact ⟨_,_,rfl,fun h=>by omega,(S.sel [] G G)⟩|exact ⟨_,_,rfl,fun _=>iG (by omega) hR1 (hT1 (by omega)) (hT2 (by omega)) (hT3 (by omega)),(S.sel [] G G)⟩
    try simp only [o1,o2,o3,o4,o5,o6,o7,o8,o9,oa] at hc10
    refine wp_skip ?_
    refine k52 _ _ ?_
    refine sO H<|sd (aH G G (by unfold i64ok;omega))<|sr 1 rfl<|sE ?_;clear H a;intro a H
    exact k49 (g6-1) (n+1) a _ (by omega) (⟨by omega,by omega,gG hp.2.2 (by omega)⟩) (S.sel [1,0] G G) (H.keep [87,1,2,13,14,80,81,86] rfl)
   refine wp_exit ?_
   refine k35 _ _ ?_
   refine sO H<|sd (aH G G (by unfold i64ok;omega))<|sr 1 rfl<|sE ?_;clear H a;intro a H
   exact k32 (g4-1) 2 a _ (by omega) (⟨by omega,by omega,fun _=>hT1 (by omega),fun _ q hq=>hp.2.2 q (by omega),fun h=>by omega⟩) (S.sel [0,1] G G) (H.keep [81,1,2,80] rfl)
  skip
  replace H:=H.keep [1,2,80,81] rfl
  refine sS H fun K58 k58=>sr 1 rfl<|sd (iY Try.underlying114 vH G G (by omega) (by omega) (qZ) (rfl))<|sr 2 rfl<|sE ?_;clear H a;intro a H
  refine k58 _ ?_;clear k58 K58
  refine sS H fun K59 k59=>sf dP rfl<|sl S 1 aF G G G<|sr 1 rfl<|sE ?_;clear H a;intro a H
  refine k59 _ ?_;clear k59 K59
  refine wp_block ?_
  have hun:((un.toNat:Nat):Int)=un:=by omega
  refine loop_st (X:=Nat) (R0:=_) [1,2,13,14,80,81,86] H rfl (fun n=>[(87,.int .i64 (n:Int))]) (fun n=>[]) (fun g n=>n≤un.toNat∧g+n=un.toNat∧∀ q,q<n→(fun q:Nat=>(nv.any fun n=>decide (landI (nSet js st q js.length) n=n))=false) q) (un.toNat) 0 ?_ (S.sel [0,1] G G) (H.keep [87,1,2,13,14,80,81,86] rfl) ?_
  · exact ⟨by omega,by omega,fun k hk=>absurd hk (Nat.not_lt_zero k)⟩
  clear H S a
  intro g7 x7 a w7 hp S H K60 k60
  obtain ⟨n,rfl⟩:∃ y,y=x7:=⟨_,rfl⟩
  refine sS H fun K61 k61=>sr 1 rfl<|sE ?_;clear H a;intro a H
  refine k61 _ ?_;clear k61 K61
  refine wp_seq_k fun K62 k62=>?_
  refine condL H rfl (fun hc11=>?_) (fun hc11=>?_)
  ·skip
   refine wp_skip ?_
   refine k62 _ _ ?_
   refine wp_seq_k fun K63 k63=>?_
   refine wp_block ?_
   refine sS H fun K64 k64=>sr 2 rfl<|sE ?_;clear H a;intro a H
   refine k64 _ ?_;clear k64 K64
   replace H:=H.keep [1,2,13,14,15,80,81,86,87] rfl
   refine aB fun K65 k65=>?_
   refine ls 4 H<|sr 1 rfl<|sd ((aC fC iA rfl S (i:=1) G G))<|sr 2 rfl<|sE ?_;clear H a;intro a H
   refine aA H G G Try.func32 G G (gU mm js JA jc AA ac nv NA nc cr un st SA sc (n:Int) _ (hjs.now S) (hnv.now S) (fun k hk=>(haf k hk).now S) (hst.now S) hsl V hsb) ?_;clear H a
   rintro _ _ a ⟨rfl,S2⟩ H
   replace S:=S.call S2;clear S2
   refine ls 3 H<|sr 3 rfl<|sE ?_;clear H a;intro a H
   have S1:=(S.sel [1] G G)
   refine gC H G G G Try.func49 G G (rS mm js JA jc AA ac nv NA nc cr un b2 _ _ _ _ _ S1.startR (hnv.nowR S1) V (qG V)) ?_;clear H a
   rintro _ _ a ⟨rfl,S2⟩ H
   replace S:=(S.sel [1,0] G G).callR (M:=[_]) S2;clear S1 S2
   refine k65 _ _ ?_;clear k65 K65
   refine aQ H rfl (fun hc12=>?_) (fun hc12=>?_)
   ·skip
    try simp only [o1,o2,o3,o4,o5,o6,o7,o8,o9,oa] at hc12
    replace H:=H.keep [13,15] rfl
    refine sS H fun K66 k66=>sr 1 rfl<|sd (aH G G (by unfold i64ok;omega))<|sr 3 rfl<|sE ?_;clear H a;intro a H
    refine k66 _ ?_;clear k66 K66
    refine wp_ret ?_
    refine ret2 (fn:=Try.f27) rfl H G G ?_
    first|exact ⟨_,_,rfl,fun h=>by omega,(S.sel [] G G)⟩|exact ⟨_,_,rfl,fun _=>iG (by omega) hR1 (hT1 (by omega)) (hT2 (by omega)) (hT3 (by omega)),(S.sel [] G G)⟩
   try simp only [o1,o2,o3,o4,o5,o6,o7,o8,o9,oa] at hc12
   refine wp_skip ?_
   refine k63 _ _ ?_
   refine sO H<|sd (aH G G (by unfold i64ok;omega))<|sr 1 rfl<|sE ?_;clear H a;intro a H
   exact k60 (g7-1) (n+1) a _ (by omega) (⟨by omega,by omega,gG hp.2.2 (by simpa using hc12)⟩) (S.sel [1,0] G G) (H.keep [87,1,2,13,14,80,81,86] rfl)
  refine wp_exit ?_
  refine k35 _ _ ?_
  refine sO H<|sd (aH G G (by unfold i64ok;omega))<|sr 1 rfl<|sE ?_;clear H a;intro a H
  exact k32 (g4-1) 3 a _ (by omega) (⟨by omega,by omega,fun _=>hT1 (by omega),fun _=>hT2 (by omega),fun _ q hq=>hp.2.2 q (by omega)⟩) (S.sel [0,1] G G) (H.keep [81,1,2,80] rfl)
 refine wp_exit ?_
 refine k30 _ _ ?_
 replace H:=H.keep [] rfl
 refine sS H fun K69 k69=>sr 2 rfl<|sE ?_;clear H a;intro a H
 refine k69 _ ?_;clear k69 K69
 refine wp_ret ?_
 refine ret2 (fn:=Try.f27) rfl H G G ?_
 first|exact ⟨_,_,rfl,fun h=>by omega,(S.sel [] G G)⟩|exact ⟨_,_,rfl,fun _=>iG (by omega) hR1 (hT1 (by omega)) (hT2 (by omega)) (hT3 (by omega)),(S.sel [] G G)⟩
end
section
section
variable {P:Program} {L:List (Nat×Value)} {w:World} {d:Option Nat} {ty:TypeId} {pos:String} {af:Array Edge} {g:Option (Nat×Bool)}
theorem jM {x:Operand} {t e n c:Nat} {yt:TypeId} {A:Option Addr} (hu:SlT P t e) (hx:ev L x=some (.slice A n c)):Does P L ⟨d,.binOp .eql t x (.const (.slice none 0 0)) yt,ty,pos,af,g⟩ w (.bool A.isNone):=fun ρ hρ=>by
  have h2:=hρ (.const (.slice none 0 0)) _ rfl
  have e2:∀ D:Nat,(Op.equalIn (D+1) t (.slice A n c) (.slice none 0 0)).run P w = .ok A.isNone w:=fun D=>by
    cases A <;> simp [Op.equalIn,cJ hu]
  have e3:(binOp .eql t (.slice A n c) (.slice none 0 0)).run P w = .ok (.bool A.isNone) w:=by
    simp only [binOp,Op.equal,Sem.run_bind]
    rw [show Op.maxDepth=9999+1 from rfl,e2]
    rfl
  simp only [execOp,hρ _ _ hx,h2]
  simp [eqGuard,Op.eqGuardIn,e3]
end
section
variable {mm cr un:Int} {js:List Jq} {nv st pl:List Int} {i:Int} {A8:Option Addr} {en:Int}
def BestP (js:List Jq) (nv:List Int) (cr un:Int) (A8:Option Addr) (st:List Int) (en:Int):Prop:=(A8=none∧st=[])∨(A8.isNone=false∧st.length=js.length∧WkR js nv cr un st∧en=endV js st js.length)
theorem Cz {e sz n c:Nat} {A:Option Addr} {cell:Nat→Nat→Value} {w w0:World} {F0:Nat→Prop} {R:List Mem} {i:Nat} (S:St w0 F0 R w) (hi:R[i]?=some (ownM e sz A n c cell)) (hn:0<n):A.isNone=false:=by
  have h:=ownM.adr S hi hn
  rw [h];rfl
end
theorem tU (mm:Int) (js:List Jq) (JA:Option Addr) (jc:Nat) (AA:Nat→Option Addr) (ac:Nat→Nat) (nv:List Int) (NA:Option Addr) (nc:Nat) (cr un:Int) (st:List Int) (SA:Option Addr) (sc:Nat) {n:Nat} (hn9:st.length=n) (w:World) (hjs:InS w noF 3 JA js.length (eR js AA ac)) (hnv:InS w noF 1 NA nv.length (icl nv)) (haf:∀ k,k<js.length→InS w noF 1 (AA k) (js.getD k Jq.zero).after.length (icl (js.getD k Jq.zero).after)) (hst:InS w noF 1 SA n (icl st)) (hsl:st.length=js.length) (V:WkV mm js nv cr un) (hsb:∀ k,k<js.length→0≤st.getD k 0∧st.getD k 0≤24):Calls Try.prog 26 [.agg [.int .i64 mm,.slice JA js.length jc,.slice NA nv.length nc,.int .i64 cr,.int .i64 un].toArray,.slice SA n sc].toArray w (Ret fun u w'=>u = .int .i64 (endV js st js.length)∧St w noF [] w'):=by
  subst hn9
  exact vY mm js JA jc AA ac nv NA nc cr un st SA sc w hjs hnv haf hst hsl V hsb
theorem rT (mm:Int) (js:List Jq) (JA:Option Addr) (jc:Nat) (AA:Nat→Option Addr) (ac:Nat→Nat) (nv:List Int) (NA:Option Addr) (nc:Nat) (cr un:Int) (st:List Int) (SA:Option Addr) (sc:Nat) {n:Nat} (hn9:st.length=n) (w:World) (hjs:InS w noF 3 JA js.length (eR js AA ac)) (hnv:InS w noF 1 NA nv.length (icl nv)) (haf:∀ k,k<js.length→InS w noF 1 (AA k) (js.getD k Jq.zero).after.length (icl (js.getD k Jq.zero).after)) (hjn:js.length≤9223372036854775807) (hnn:nv.length≤9223372036854775807) (han:∀ k,k<js.length→(js.getD k Jq.zero).after.length≤9223372036854775807) (hst:InS w noF 1 SA n (icl st)) (hsl:st.length=js.length) (V:WkV mm js nv cr un) (hsb:∀ k,k<js.length→0≤st.getD k 0∧st.getD k 0≤24):Calls Try.prog 27 [.agg [.int .i64 mm,.slice JA js.length jc,.slice NA nv.length nc,.int .i64 cr,.int .i64 un].toArray,.slice SA n sc].toArray w (Ret (fun u w'=>∃ r n:Int,u = .tuple #[.int .i64 r,.int .i64 n]∧(r=0→WkR js nv cr un st)∧St w noF [] w')):=by
  subst hn9
  exact tT mm js JA jc AA ac nv NA nc cr un st SA sc w hjs hnv haf hjn hnn han hst hsl V hsb
theorem Da (pe:List Int) (BA:Option Addr) (bc:Nat) (w:World) (hpe:InS w noF 1 BA pe.length (icl pe)) (hpl8:pe.length≤1000) (hp1:0<pe.length) :
    Calls Try.prog 28 [.slice BA pe.length bc].toArray w (Ret (fun u w'=>∃ A c,u = .slice A pe.length c∧A.isNone=false∧St w noF [ownM 3 1 A pe.length c (icl pe)] w')):=by
 refine enter Try.func28 rfl Try.ntmps28 rfl (fun a H=>?_)
 have S:=St.start w
 refine sS H fun K1 k1=>sr 1 rfl<|sE ?_;clear H a;intro a H
 refine k1 _ ?_;clear k1 K1
 refine wp_seq_k fun K2 k2=>?_
 refine sS H fun K3 k3=>sr 1 rfl<|sd (jM aN rfl)<|sE ?_;clear H a;intro a H
 refine k3 _ ?_;clear k3 K3
 refine aQ H rfl (fun hc1=>?_) (fun hc1=>?_)
 ·skip
  try simp only [o1,o2,o3,o4,o5,o6,o7,o8,o9,oa] at hc1
  refine sS H fun K4 k4=>sr 1 rfl<|sE ?_;clear H a;intro a H
  refine k4 _ ?_;clear k4 K4
  refine wp_ret ?_
  refine ret1 (fn:=Try.f28) rfl H rfl ?_
  exfalso
  obtain ⟨b,o,rfl,_⟩:=hpe hp1
  cases hc1
 try simp only [o1,o2,o3,o4,o5,o6,o7,o8,o9,oa] at hc1
 refine wp_skip ?_
 refine k2 _ _ ?_
 refine aB fun K5 k5=>?_
 refine tE H rfl S aN aX (icl pe) ?_;clear H a S;intro A1 _ a S H
 refine ls 1 H<|sr 1 rfl<|sE ?_;clear H a;intro a H
 refine cI H rfl S aN aX eF lL G G (i:=0) G G G ((hpe.now S)) (fun _ _ _ _=>rfl) (by omega) (by omega) ?_;clear H a S;intro A2 c2 _ a S H
 rw [Nat.zero_add] at H
 replace S:=S.recell (i:=0) (n:=pe.length) (cell':=icl pe) (by simp only [Nat.zero_add];rfl) (fun k j hk hj=>by unfold capp;rw [if_neg (by omega)];rfl)
 obtain ⟨pA,rfl⟩:∃ y,y=A2:=⟨_,rfl⟩
 obtain ⟨pC,rfl⟩:∃ y,y=c2:=⟨_,rfl⟩
 refine ls 1 H<|sr 1 rfl<|sE ?_;clear H a;intro a H
 refine k5 _ _ ?_;clear k5 K5
 refine wp_ret ?_
 refine ret1 (fn:=Try.f28) rfl H rfl ?_
 exact ⟨_,_,rfl,Cz S (i:=0) rfl hp1,(S.sel [0] G G)⟩
theorem zN (pe:List Int) (BA:Option Addr) (bc:Nat) {n:Nat} (hn9:pe.length=n) (w:World) (hpe:InS w noF 1 BA n (icl pe)) (hpl8:pe.length≤1000) (hp1:0<pe.length):Calls Try.prog 28 [.slice BA n bc].toArray w (Ret (fun u w'=>∃ A c,u = .slice A pe.length c∧A.isNone=false∧St w noF [ownM 3 1 A pe.length c (icl pe)] w')):=by
  subst hn9
  exact Da pe BA bc w hpe hpl8 hp1
theorem wA (mm:Int) (js:List Jq) (JA:Option Addr) (jc:Nat) (AA:Nat→Option Addr) (ac:Nat→Nat) (nv:List Int) (NA:Option Addr) (nc:Nat) (cr un:Int) (w:World) (hjs:InS w noF 3 JA js.length (eR js AA ac)) (hnv:InS w noF 1 NA nv.length (icl nv)) (haf:∀ k,k<js.length→InS w noF 1 (AA k) (js.getD k Jq.zero).after.length (icl (js.getD k Jq.zero).after)) (hjn:js.length≤9223372036854775807) (hnn:nv.length≤9223372036854775807) (han:∀ k,k<js.length→(js.getD k Jq.zero).after.length≤9223372036854775807) (hE:wksE mm js nv cr un=0) :
    Calls Try.prog 11 [.agg [.int .i64 mm,.slice JA js.length jc,.slice NA nv.length nc,.int .i64 cr,.int .i64 un].toArray].toArray w (Ret (fun u w'=>∃ (st:List Int) (A:Option Addr) (c:Nat) (en e:Int),u = .tuple #[.slice A st.length c,.int .i64 en,.int .i64 e]∧((e=0∧st.length=js.length∧WkR js nv cr un st∧en=endV js st js.length)∨e=2∨e=3)∧St w noF [ownM 3 1 A st.length c (icl st)] w')):=by
 have V:=jZ hE
 have hjl:=V.nj
 have hub:=V.unb
 have hU:((un.toNat:Nat):Int)=un:=by omega
 refine enter Try.func11 rfl Try.ntmps11 rfl (fun a H=>?_)
 have S:=St.start w
 refine aB fun K1 k1=>?_
 refine aS H rfl S G G ?_;clear H a S;intro b1 _ a hb1 hbw1 S H
 refine ls 3 H<|sr 3 rfl<|sE ?_;clear H a;intro a H
 refine k1 _ _ ?_;clear k1 K1
 refine wp_seq_k fun K2 k2=>?_
 refine aB fun K3 k3=>?_
 refine ls 1 H<|sd ((aC fC iA rfl S (i:=0) G G))<|sE ?_;clear H a;intro a H
 refine aA H G G Try.func25 G G (iF mm js JA jc AA ac nv NA nc cr un _ (hjs.now S) (hnv.now S) (fun k hk=>(haf k hk).now S) hjn hnn han) ?_;clear H a
 rintro _ _ a ⟨rfl,S2⟩ H
 replace S:=S.call S2;clear S2
 refine ls 1 H<|sr 1 rfl<|sE ?_;clear H a;intro a H
 refine k3 _ _ ?_;clear k3 K3
 refine sS H fun K4 k4=>sr 2 rfl<|sE ?_;clear H a;intro a H
 refine k4 _ ?_;clear k4 K4
 refine condN H rfl (fun hc1=>?_) (fun hc1=>?_)
 ·skip
  exact absurd hE hc1
 refine wp_skip ?_
 refine k2 _ _ ?_
 replace H:=H.keep [1,2,3] rfl
 refine sS H fun K5 k5=>sr 1 rfl<|sE ?_;clear H a;intro a H
 refine k5 _ ?_;clear k5 K5
 refine wp_seq_k fun K6 k6=>?_
 refine sS H fun K7 k7=>sf cV rfl<|sl S 0 dS G G G<|sL dV rfl<|sr 1 rfl<|sE ?_;clear H a;intro a H
 refine k7 _ ?_;clear k7 K7
 refine wp_block ?_
 refine loop_st (X:=Nat×Int) (R0:=_) [1,2,3,18] H rfl (fun ⟨i,al⟩=>[(5,.int .i64 al),(19,.int .i64 (i:Int))]) (fun ⟨i,al⟩=>[]) (fun g ⟨i,al⟩=>i≤js.length∧g+i=js.length∧0≤al∧al≤24^i) (js.length) (0,1) ?_ (S.sel [0] G G) (H.keep [5,19,1,2,3,18] rfl) ?_
 · exact ⟨by omega,by omega,by decide,by decide⟩
 clear H S a
 intro g1 x1 a w1 hp S H K8 k8
 obtain ⟨i,al⟩:=x1
 dsimp only at hp S H
 obtain ⟨hil,hgi,hal⟩:=hp
 refine sS H fun K9 k9=>sr 1 rfl<|sE ?_;clear H a;intro a H
 refine k9 _ ?_;clear k9 K9
 refine wp_seq_k fun K10 k10=>?_
 refine condL H rfl (fun hc2=>?_) (fun hc2=>?_)
 ·skip
  refine wp_skip ?_
  refine k10 _ _ ?_
  refine wp_seq_k fun K11 k11=>?_
  refine wp_block ?_
  have hm24:=pw24 (un:=un) (i:=i) (al:=al) ⟨hal.1,hal.2⟩ hub (by omega)
  refine sO H<|sr 1 rfl<|sf dP rfl<|sl S 0 aF G G G<|sd (iV G G (by unfold i64ok;omega))<|sr 1 rfl<|sE ?_;clear H a;intro a H
  refine k11 _ _ ?_
  refine sO H<|sd (aH G G (by unfold i64ok;omega))<|sr 1 rfl<|sE ?_;clear H a;intro a H
  exact k8 (g1-1) (i+1,_) a _ (by omega) (⟨by omega,by omega,hm24.1⟩) (S.sel [0] G G) (H.keep [5,19,1,2,3,18] rfl)
 refine wp_exit ?_
 refine k6 _ _ ?_
 refine wp_seq_k fun K14 k14=>?_
 replace H:=H.keep [1,2,3,5] rfl
 refine sS H fun K15 k15=>sr 2 rfl<|sE ?_;clear H a;intro a H
 refine k15 _ ?_;clear k15 K15
 refine condL H rfl (fun hc3=>?_) (fun hc3=>?_)
 ·skip
  refine sS H fun K16 k16=>sr 3 rfl<|sE ?_;clear H a;intro a H
  refine k16 _ ?_;clear k16 K16
  refine wp_ret ?_
  refine ret3 (fn:=Try.f11) rfl H G G G ?_
  exact ⟨[],none,0,0,2,rfl,.inr (.inl rfl),(S.sel [] G G).newNil _ _ _⟩
 refine wp_skip ?_
 refine k14 _ _ ?_
 replace H:=H.keep [1,2,3] rfl
 refine aB fun K17 k17=>?_
 refine ls 3 H<|sf cV rfl<|sl S 0 dS G G G<|sL dV rfl<|sE ?_;clear H a;intro a H
 refine fA (n:=js.length) H rfl S aN aX eF lL rfl (by decide) G G (by omega) (by omega) ?_;clear H a S;intro A1 _ a hA1 S H
 generalize A1=AP at S H
 replace S:=S.recell (i:=0) rfl (cell':=icl (List.replicate js.length 0)) (fun k j _ hj=>by
   obtain rfl:j=0:=by omega
   unfold icl;rw [xM];rfl)
 refine ls 1 H<|sr 1 rfl<|sE ?_;clear H a;intro a H
 refine k17 _ _ ?_;clear k17 K17
 refine wp_seq_k fun K18 k18=>?_
 refine wp_block ?_
 replace S:=S.newNil 3 1 (icl [])
 refine loop_st (X:=List Int×List Int×Option Addr×Nat×Int) (R0:=_) [1,6] H rfl (fun ⟨pl,st,A8,c8,en⟩=>[(2,.slice A8 st.length c8),(3,.int .i64 en)]) (fun ⟨pl,st,A8,c8,en⟩=>[ownM 3 1 AP js.length js.length (icl pl),ownM 3 1 A8 st.length c8 (icl st)]) (fun g ⟨pl,st,A8,c8,en⟩=>pl.length=js.length∧(∀ k,k<js.length→0≤pl.getD k 0∧pl.getD k 0≤un-1)∧BestP js nv cr un A8 st en∧g+odV un.toNat pl js.length=un.toNat^js.length) ((un.toNat^js.length)) (List.replicate js.length 0,[],none,0,0) ?_ (S.sel [1,0,2] G G) (H.keep [2,3,1,6] rfl) ?_
 · exact ⟨List.length_replicate,fun k hk=>by rw [xM];omega,.inl ⟨rfl,rfl⟩,by rw [Cy];rfl⟩
 clear H S a
 intro g2 x2 a w2 hp S H K19 k19
 obtain ⟨pl,st,A8,c8,en⟩:=x2
 dsimp only at hp S H
 obtain ⟨hpl,hpb,hbe,hgo⟩:=hp
 have hov:=Is (U:=un.toNat) (l:=pl) (n:=js.length) (fun k hk=>by have:=hpb k hk;omega)
 refine wp_block ?_
 have SR:=(S.sel [0,2] G G)
 refine gK (X:=List Int×Option Addr×Nat×Int) [1,6] H rfl (fun ⟨st,A8,c8,en⟩=>[(2,.slice A8 st.length c8),(3,.int .i64 en)]) (fun ⟨st,A8,c8,en⟩=>[ownM 3 1 A8 st.length c8 (icl st)]) (fun ⟨st,A8,c8,en⟩=>BestP js nv cr un A8 st en) SR (fun K21 k21=>?_) ?_
 ·skip
  refine aB fun K22 k22=>?_
  refine ls 2 H<|sd ((aC fC iA rfl S (i:=2) G G))<|sr 1 rfl<|sE ?_;clear H a;intro a H
  refine aA H G G Try.func26 G G (tU mm js JA jc AA ac nv NA nc cr un pl AP js.length hpl _ (hjs.now S) (hnv.now S) (fun k hk=>(haf k hk).now S) (ownM.inS S (i:=0) rfl) hpl V (fun k hk=>by have:=hpb k hk;omega)) ?_;clear H a
  rintro _ _ a ⟨rfl,S2⟩ H
  replace S:=S.call S2;clear S2
  refine ls 1 H<|sr 1 rfl<|sE ?_;clear H a;intro a H
  refine k22 _ _ ?_;clear k22 K22
  replace H:=H.keep [1,2,3,6,7] rfl
  refine sS H fun K23 k23=>sr 1 rfl<|sd (jM aN rfl)<|sr 1 rfl<|sg 3 2 37 40 false G G (fun hg3=>by
      have hq3:=hg3;try simp only [o1,o2,o3,o4,o5,o6,o7,o8,o9,oa] at hq3
      exact sy hg3<|sr 1 rfl<|sy hg3<|sr 1 rfl<|sy hg3<|sr 1 rfl<|sz 3 G G G)<|so G G G<|sE ?_;clear H a;intro a H
  refine k23 _ ?_;clear k23 K23
  refine aQ H rfl (fun hc4=>?_) (fun hc4=>?_)
  ·skip
   try simp only [o1,o2,o3,o4,o5,o6,o7,o8,o9,oa] at hc4
   replace H:=H.keep [1,2,3,6,7] rfl
   refine aB fun K24 k24=>?_
   refine ls 2 H<|sd ((aC fC iA rfl S (i:=2) G G))<|sr 1 rfl<|sE ?_;clear H a;intro a H
   refine aA H G G Try.func27 G G (rT mm js JA jc AA ac nv NA nc cr un pl AP js.length hpl _ (hjs.now S) (hnv.now S) (fun k hk=>(haf k hk).now S) hjn hnn han (ownM.inS S (i:=0) rfl) hpl V (fun k hk=>by have:=hpb k hk;omega)) ?_;clear H a
   rintro _ _ a ⟨rs,rn,rfl,hjr,S2⟩ H
   replace S:=S.call S2;clear S2
   refine ls 5 H<|sr 5 rfl<|sE ?_;clear H a;intro a H
   refine k24 _ _ ?_;clear k24 K24
   replace H:=H.keep [1,2,3,6,7,8] rfl
   refine sS H fun K25 k25=>sr 2 rfl<|sE ?_;clear H a;intro a H
   refine k25 _ ?_;clear k25 K25
   refine condE H rfl (fun hc5=>?_) (fun hc5=>?_)
   ·skip
    refine bY ?_
    refine ls 1 H<|sr 1 rfl<|sE ?_;clear H a;intro a H
    refine aA H G G Try.func28 G G (zN pl AP js.length hpl _ (ownM.inS S (i:=0) rfl) (by omega) (by omega)) ?_;clear H a
    rintro _ _ a ⟨A9,c9,rfl,hA9,S2⟩ H
    replace S:=S.call S2;clear S2
    refine ls 3 H<|sr 3 rfl<|sE ?_;clear H a;intro a H
    exact k21 (pl,_,_,_) a _ (.inr ⟨hA9,hpl,hjr hc5,rfl⟩) (S.sel [0,1,3] G G) (H.keep [2,3,1,6] rfl)
   refine wp_skip ?_
   exact k21 (_,_,_,_) a _ (hbe) (S.sel [1,0,2] G G) (H.keep [2,3,1,6] rfl)
  try simp only [o1,o2,o3,o4,o5,o6,o7,o8,o9,oa] at hc4
  refine wp_skip ?_
  exact k21 (_,_,_,_) a _ (hbe) (S.sel [1,0,2] G G) (H.keep [2,3,1,6] rfl)
 clear SR H S a
 intro xm a wm hp S H
 obtain ⟨st,A8,c8,en⟩:=xm
 have hbe:=hp
 replace H:=H.keep [1,2,3,6] rfl
 refine sS H fun K27 k27=>sr 1 rfl<|sL aN rfl<|sd (bK G G (by unfold i64ok;omega))<|sr 1 rfl<|sE ?_;clear H a;intro a H
 refine k27 _ ?_;clear k27 K27
 refine wp_seq_k fun K28 k28=>?_
 refine wp_block ?_
 replace S:=S.recell (i:=1) rfl (cell':=icl (odZ pl ((js.length:Int)-1))) (fun k j hk hj=>by rw [←hpl];exact Cs k j (by omega) hj)
 refine loop_st (X:=Int) (R0:=_) [1,2,3,6] H rfl (fun i=>[(10,.int .i64 i)]) (fun i=>[ownM 3 1 AP js.length js.length (icl (odZ pl i))]) (fun g i => -1≤i∧i≤(js.length:Int)-1∧(∀ k:Nat,i<(k:Int)→k<pl.length→pl.getD k 0=un-1)∧(g:Int)=i+1) (js.length) ((js.length:Int)-1) ?_ (S.sel [1,0,2] G G) (H.keep [10,1,2,3,6] rfl) ?_
 · exact ⟨by omega,by omega,fun k hk hk2=>by omega,by omega⟩
 clear H S a
 intro g3 x3 a w3 hp S H K29 k29
 obtain ⟨i,rfl⟩:∃ y,y=x3:=⟨_,rfl⟩
 refine wp_seq_k fun K30 k30=>?_
 have hzi:∀ k:Nat,(k:Int)=i→k<pl.length→(odZ pl i).getD k 0=pl.getD k 0:=fun k hk hk2=>by rw [kQ hk2,if_neg (by omega)]
 replace H:=H.keep [1,2,3,6,10] rfl
 replace S:=S.drew
 refine sD H fun K31 k31=>sr 3 rfl<|sg 8 2 58 66 true G G (fun hg3=>by
     have hq3:=hg3;try simp only [o1,o2,o3,o4,o5,o6,o7,o8,o9,oa] at hq3
     exact sy hg3<|sr 1 rfl<|sy hg3<|sr 1 rfl<|sy hg3<|sI aN aX G G (ownM.adr S (i:=0) rfl (by omega)) (by omega) (by omega)<|sy hg3<|slm aF rfl (ownM.rd S (i:=0) rfl (by omega) (by omega))<|sy hg3<|sf dP rfl<|sy hg3<|sl S 2 aF G G G<|sy hg3<|sd (bK G G (by unfold i64ok;omega))<|sy hg3<|sr 1 rfl<|sz 8 G G G)<|sa G G G<|sE ?_;clear H a;intro a H
 refine k31 _ ?_;clear k31 K31
 refine aQ H rfl (fun hc6=>?_) (fun hc6=>?_)
 ·skip
  try simp only [o1,o2,o3,o4,o5,o6,o7,o8,o9,oa] at hc6
  refine wp_skip ?_
  refine k30 _ _ ?_
  refine wp_seq_k fun K32 k32=>?_
  refine wp_block ?_
  have hpi:pl.getD i.toNat 0=un-1:=by rw [←hzi i.toNat (by omega) (by omega)];exact hc6.2
  replace H:=H.keep [1,2,3,6,10] rfl
  refine bY ?_
  refine ls 3 H<|sr 2 rfl<|sI aN aX G G (ownM.adr S (i:=0) rfl (by omega)) (by omega) (by omega)<|sE ?_;clear H a;intro a H
  refine bJ H S (i:=0) (kk:=i.toNat) G G G (by omega) (by omega) aX rfl ?_
  clear H a S;intro _ a S H
  replace S:=S.recell (i:=0) rfl (cell':=icl (odZ pl (i-1))) (fun k j hk hj=>by rw [←Fx (pl:=pl) hc6.1 k j (by omega) hj])
  refine k32 _ _ ?_
  refine sO H<|sr 1 rfl<|sd (bK G G (by unfold i64ok;omega))<|sr 1 rfl<|sE ?_;clear H a;intro a H
  exact k29 (g3-1) (i-1) a _ (by omega) (⟨by omega,by omega,fun k hk hk2=>by
    by_cases e:i<(k:Int)
    · exact hp.2.2.1 k e hk2
    · have e9:k=i.toNat:=by omega
      subst e9
      exact hpi,by omega⟩) (S.sel [0,1,2] G G) (H.keep [10,1,2,3,6] rfl)
 try simp only [o1,o2,o3,o4,o5,o6,o7,o8,o9,oa] at hc6
 refine wp_exit ?_
 refine k28 _ _ ?_
 refine wp_seq_k fun K35 k35=>?_
 refine sS H fun K36 k36=>sr 2 rfl<|sE ?_;clear H a;intro a H
 refine k36 _ ?_;clear k36 K36
 refine condL H rfl (fun hc7=>?_) (fun hc7=>?_)
 ·skip
  refine wp_exit ?_
  refine k18 _ _ ?_
  refine wp_seq_k fun K37 k37=>?_
  replace H:=H.keep [2,3] rfl
  refine sS H fun K38 k38=>sr 1 rfl<|sd (jM aN rfl)<|sE ?_;clear H a;intro a H
  refine k38 _ ?_;clear k38 K38
  refine aQ H rfl (fun hc8=>?_) (fun hc8=>?_)
  ·skip
   try simp only [o1,o2,o3,o4,o5,o6,o7,o8,o9,oa] at hc8
   refine sS H fun K39 k39=>sr 3 rfl<|sE ?_;clear H a;intro a H
   refine k39 _ ?_;clear k39 K39
   refine wp_ret ?_
   refine ret3 (fn:=Try.f11) rfl H G G G ?_
   exact ⟨[],none,0,0,3,rfl,.inr (.inr rfl),(S.sel [] G G).newNil _ _ _⟩
  try simp only [o1,o2,o3,o4,o5,o6,o7,o8,o9,oa] at hc8
  refine wp_skip ?_
  refine k37 _ _ ?_
  replace H:=H.keep [2,3] rfl
  refine sS H fun K40 k40=>sr 5 rfl<|sE ?_;clear H a;intro a H
  refine k40 _ ?_;clear k40 K40
  refine wp_ret ?_
  refine ret3 (fn:=Try.f11) rfl H G G G ?_
  rcases hbe with ⟨h9,_⟩|⟨h9,hb2,hb3,hb4⟩
  · rw [h9] at hc8;cases hc8
  · exact ⟨st,A8,c8,en,0,rfl,.inl ⟨rfl,hb2,hb3,hb4⟩,(S.sel [1] G G)⟩
 refine wp_skip ?_
 refine k35 _ _ ?_
 have hz9:=hzi i.toNat (by omega) (by omega)
 have hb9:=hpb i.toNat (by omega)
 replace H:=H.keep [1,2,3,6,10] rfl
 refine bY ?_
 refine ls 6 H<|sr 2 rfl<|sI aN aX G G (ownM.adr S (i:=0) rfl (by omega)) (by omega) (by omega)<|slm aF rfl (ownM.rd S (i:=0) rfl (by omega) (by omega))<|sd (aH G G (by unfold i64ok;omega))<|sI aN aX G G (ownM.adr S (i:=0) rfl (by omega)) (by omega) (by omega)<|sE ?_;clear H a;intro a H
 refine bJ H S (i:=0) (kk:=i.toNat) G G G (by omega) (by omega) aX rfl ?_
 clear H a S;intro _ a S H
 replace S:=S.recell (i:=0) rfl (cell':=icl (odN pl i)) (fun k j hk hj=>by rw [←Fy (pl:=pl) (by omega) (by omega) k j (by omega) hj])
 obtain ⟨hn1,hn2⟩:=Ct (pl:=pl) (un:=un) (i:=i) hub.1 (fun k hk=>hpb k (by omega)) (by omega) (by omega) (fun h9=>by omega) hp.2.2.1
 rw [hpl] at hn2
 exact k19 (g2-1) (odN pl i,_,_,_,_) a _ (by omega) (⟨odN_len.trans hpl,fun k hk=>hn1 k (by rw [odN_len];omega),hbe,by omega⟩) (S.sel [0,1,2] G G) (H.keep [2,3,1,6] rfl)
end
section
theorem tV (n:Nat) (hn:n≤1000000) (w:World):Calls Try.prog 86 #[.int .u64 (((1:Nat):Int)),.int .u64 ((n:Nat):Int)] w (Ret fun u w'=>u = .tuple #[.int .u64 0,.int .u64 (n:Int)]∧w'=w):=by
  refine Calls.mono (Try.bits_Mul 1 n (by omega) (by omega) w) fun e w' h=>?_
  obtain ⟨rfl,rfl⟩:=h
  refine ⟨?_,rfl⟩
  have h1:1*n/18446744073709551616=0:=by omega
  have h2:1*n%18446744073709551616=n:=by omega
  rw [h1,h2]
  rfl
theorem ownM.w8some' {w0 w:World} {F0:Nat→Prop} {R:List Mem} {e sz n c i:Nat} {A:Option Addr} {cell:Nat→Nat→Value} (S:St w0 F0 R w) (hi:R[i]?=some (ownM e sz A n c cell)) (hn:0<n):∃ b,A=some ⟨b,0,none⟩:=by
  rcases S.holds hi with ⟨_,h,_⟩|⟨b,cs,h,_⟩
  · omega
  · exact ⟨b,h⟩
theorem Ge {v:Value} {j:Nat} (h:j<1):[v].getD j undef=v:=by
  have:j=0:=by omega
  subst this;rfl
theorem Gf (b c lo:Nat) (h:¬ c=lo):cutA (some ⟨b,0,none⟩) c lo 1=some ⟨b,lo,none⟩:=by simp [cutA,h,eL]
theorem mM {P:Program} {f:Nat} {vs:Array Value} {w:World} {R R':Value→World→Prop} (h:Calls P f vs w (Ret R)) (k:∀ v w',R v w'→R' v w'):Calls P f vs w (Ret R'):=Calls.mono h fun e w' he=>by
  cases e with
  | returned v=>exact k v w' he
  | _=>exact he
theorem xN {v:Value} {j k:Nat} (hk:k<1) (h:j<1):([[v]].getD k []).getD j undef=v:=by
  have h1:j=0:=by omega
  have h2:k=0:=by omega
  subst h1;subst h2;rfl
theorem w8one {p:Nat→Prop} (h0:p 0):∀ j,j<1→p j:=by
  intro j hj
  have:j=0:=by omega
  subst this
  exact h0
theorem oP {sz:Nat} {vs:List Value} (h:∀ j,j<sz→(vs.getD j undef).oneCell'=true):∀ k j,k<1→j<sz→(([vs].getD k []).getD j undef).oneCell'=true:=by
  intro k j hk hj
  have e:k=0:=by omega
  subst e
  exact h j hj
theorem nD (A:Option Addr) (cp:Nat) (v:Int) (n:Nat) (w:World) (hl:InS w noF 1 A 1 (fun _ _ => .int .i64 v)) (h0:0<n) (hn:n≤1000000) :
    Calls Try.prog 84 [.slice A 1 cp,.int .i64 (n:Int)].toArray w (Ret (fun u w'=>∃ b,u = .slice (some ⟨b,0,none⟩) n n∧St w noF [ownM 3 1 (some ⟨b,0,none⟩) n n (fun _ _ => .int .i64 v)] w')):=by
 refine enter Try.func84 rfl Try.ntmps84 rfl (fun a H=>?_)
 have S:=St.start w
 refine sS H fun K1 k1=>sr 1 rfl<|sE ?_;clear H a;intro a H
 refine k1 _ ?_;clear k1 K1
 refine wp_seq_k fun K2 k2=>?_
 refine sS H fun K3 k3=>sr 2 rfl<|sE ?_;clear H a;intro a H
 refine k3 _ ?_;clear k3 K3
 refine condL H rfl (fun hc1=>?_) (fun hc1=>?_)
 ·skip
  exfalso;omega
 refine wp_skip ?_
 refine k2 _ _ ?_
 replace H:=H.keep [0,1] rfl
 refine sS H fun K4 k4=>sr 1 rfl<|sL aN rfl<|sd (dN Try.underlying3 Try.underlying42 rfl (by exact u64_in (by omega)))<|sr 1 rfl<|sd (dN Try.underlying3 Try.underlying42 rfl (by exact u64_in (by omega)))<|sc rfl Try.func86 G G (tV n hn _)<|sr 5 rfl<|sE ?_;clear H a;intro a H
 refine k4 _ ?_;clear k4 K4
 refine wp_seq_k fun K5 k5=>?_
 replace H:=H.keep [0,5,6] rfl
 refine sS H fun K6 k6=>sr 1 rfl<|sd (bU G G)<|sr 1 rfl<|sg 2 2 23 25 false G G (fun hg3=>sy hg3<|sr 1 rfl<|sy hg3<|sd (bU G G)<|sz 2 G G G)<|so G G G<|sE ?_;clear H a;intro a H
 refine k6 _ ?_;clear k6 K6
 refine aQ H rfl (fun hc2=>?_) (fun hc2=>?_)
 ·skip
  try simp only [o1,o2,o3,o4,o5,o6,o7,o8,o9,oa] at hc2
  exfalso;omega
 try simp only [o1,o2,o3,o4,o5,o6,o7,o8,o9,oa] at hc2
 refine wp_skip ?_
 refine k5 _ _ ?_
 replace H:=H.keep [0,6] rfl
 refine aB fun K7 k7=>?_
 refine ls 2 H<|sr 1 rfl<|sd (dN Try.underlying42 Try.underlying3 rfl (by exact IntWalk.i64_in _ (by omega)))<|sE ?_;clear H a;intro a H
 refine fA (n:=_) H rfl S aN aX eF lL rfl (by decide) G G (by omega) (by omega) ?_;clear H a S;intro A1 _ a hA1 S H
 obtain ⟨b,rfl⟩:=ownM.w8some' S (i:=0) rfl h0
 replace S:=S.recell (i:=0) rfl (cell':=fun i _=>if i<0 then .int .i64 v else .int .i64 0) (fun k j _ hj=>by rw [if_neg (by omega)];exact Ge hj)
 refine ls 1 H<|sr 1 rfl<|sE ?_;clear H a;intro a H
 refine k7 _ _ ?_;clear k7 K7
 refine aB fun K8 k8=>?_
 refine ls 2 H<|sr 2 rfl<|sE ?_;clear H a;intro a H
 refine pU H rfl S aN aX (i:=0) (lo:=0) G G G (fun h=>by cases h) rfl (hl.now S) (by omega) (fun _ _ _ _=>rfl) (by omega) ?_;clear H a S;intro _ a S H
 replace S:=S.recell (i:=0) rfl (cell':=fun i _=>if i<1 then .int .i64 v else .int .i64 0) (fun k j hk _=>by (try dsimp only);rw [Nat.min_eq_left (by omega)];(repeat' split) <;> first|rfl|(exfalso;omega))
 rw [Nat.min_eq_left (by omega)] at H
 refine ls 1 H<|sr 1 rfl<|sE ?_;clear H a;intro a H
 refine k8 _ _ ?_;clear k8 K8
 refine wp_seq_k fun K9 k9=>?_
 refine wp_block ?_
 refine loop_st (X:=Nat) (R0:=_) [7] H rfl (fun k=>[(8,.int .i64 (k:Int))]) (fun k=>[ownM 3 1 (some ⟨b,0,none⟩) n n (fun i _=>if i<k then .int .i64 v else .int .i64 0)]) (fun g k=>0<k∧k≤n∧g+k=n) (n-1) 1 ?_ (S.sel [0] G G) (H.keep [8,7] rfl) ?_
 · exact ⟨by omega,by omega,by omega⟩
 clear H S a
 intro g1 x1 a w1 hp S H K10 k10
 obtain ⟨k,rfl⟩:∃ y,y=x1:=⟨_,rfl⟩
 refine wp_seq_k fun K11 k11=>?_
 refine sS H fun K12 k12=>sr 2 rfl<|sL aN rfl<|sr 1 rfl<|sE ?_;clear H a;intro a H
 refine k12 _ ?_;clear k12 K12
 refine condL H rfl (fun hc3=>?_) (fun hc3=>?_)
 ·skip
  refine wp_skip ?_
  refine k11 _ _ ?_
  refine wp_block ?_
  replace H:=H.keep [7,8] rfl
  replace S:=S.drew
  refine one_wq [(0,true),(1,true),(2,true),(3,true),(4,true),(5,true),(6,true),(7,false),(8,true),(9,true)] (by kernel_rfl) (by kernel_rfl) (S.sel [] G G) ?_
  refine qF H<|qr 3 rfl<|qd rfl (fun _ S=>iN aN aX rfl (lo:=k) (hi:=n) (.inr ⟨_,rfl,_,rfl⟩) (.inl ⟨rfl,rfl⟩) (by omega) (by omega))<|qr 2 rfl<|qd rfl (fun _ S=>iN aN aX rfl (lo:=0) (hi:=k) (.inl ⟨rfl,rfl⟩) (.inr ⟨_,rfl,_,rfl⟩) (by omega) (by omega))<|qK ?_;clear H a;intro a H
  refine aU rfl ?_
  refine pU H rfl S aN aX (i:=0) (lo:=k) G G (Gf _ _ _ (by omega)) (fun h=>by cases h) rfl (((ownM.inS S (i:=0) rfl).cut (lo:=0) (hi:=k) (by omega) (by omega) (by omega))) (by omega) (fun k' j _ _=>by (try dsimp only);split <;> rfl) (by omega) ?_;clear H a S;intro _ a S H
  replace S:=S.recell (i:=0) rfl (cell':=fun i _=>if i<k+min k (n-k) then .int .i64 v else .int .i64 0) (fun k' j hk _=>by (try dsimp only);(repeat' split) <;> first|rfl|(exfalso;omega))
  refine wpList_nil (And.intro (S.sel [] G G) ?_)
  refine qF H<|qd rfl (fun _ S=>aH G G (by unfold i64ok;omega))<|qr 1 rfl<|qK ?_;clear H a;intro a H
  refine bV ?_
  exact k10 (g1-min k (n-k)) (k+min k (n-k)) a _ (by omega) (⟨by omega,by omega,by omega⟩) (S.sel [0] G G) (H.keep [8,7] rfl)
 refine wp_exit ?_
 refine k9 _ _ ?_
 replace H:=H.keep [7] rfl
 refine sS H fun K14 k14=>sr 2 rfl<|sE ?_;clear H a;intro a H
 refine k14 _ ?_;clear k14 K14
 refine wp_ret ?_
 refine ret1 (fn:=Try.f84) rfl H rfl ?_
 replace S:=S.recell (i:=0) rfl (cell':=fun _ _ => .int .i64 v) (fun k' j hk _=>by rw [if_pos (by omega)])
 exact ⟨_,rfl,(S.sel [0] G G)⟩
end
section
theorem Db {b:Nat}:∀ k j,j<1→cput (fun _ _ => .int .i64 (-1)) b 0 (.int .i64 0) k j=lcl (fun v=>if v=b then 0 else -1) k j:=by
  intro k j hj
  have:j=0:=by omega
  subst this
  unfold cput lcl
  by_cases e:k=b <;> simp [e]
theorem Gg {L:Nat→Int} {p:Nat} {v:Int}:∀ k j,j<1→cput (lcl L) p 0 (.int .i64 v) k j=lcl (upd L p v) k j:=by
  intro k j hj
  have:j=0:=by omega
  subst this
  unfold cput lcl upd
  by_cases e:k=p <;> simp [e]
theorem Ld {q:Nat→Nat} {n ql h v:Nat} (hn:h+n=ql):∀ k,k<n+1→(if k=n then ((v:Nat):Int) else ((q (h+k):Nat):Int))=((upd q ql v (h+k):Nat):Int):=by
  intro k hk
  unfold upd
  by_cases e:k=n
  · rw [if_pos e,if_pos (by omega)]
  · rw [if_neg e,if_neg (by omega)]
theorem Dc (N:Net) (r:RM) (mv:Nat→Nat→Mv) (nb:Nat) (pl tk:Int) (st1 st2:Value) (EA:Option Addr) (A:Nat→Option Addr) (c:Nat→Nat) (b x:Nat) (p t:Int) (w:World) (F:Nat→Prop) (S:St w F [boxM nb 141 [.int .i64 pl,st1,st2,.int .i64 tk,.slice EA N.k N.k,.int .i64 (b:Int),.int .i64 (x:Int)]] w) (hp : -100000≤p∧p≤100000) (ht:i64ok (pl*t)) (ht2:i64ok (pl*t+p)) :
    Calls Try.prog 75 [.pointer (some ⟨nb,0,none⟩),.int .i64 p,.int .i64 t].toArray w (Ret (fun u w'=>u = .int .i64 (pl*t+p)∧St w F [boxM nb 141 [.int .i64 pl,st1,st2,.int .i64 tk,.slice EA N.k N.k,.int .i64 (b:Int),.int .i64 (x:Int)]] w')):=by
 refine enter Try.func75 rfl Try.ntmps75 rfl (fun a H=>?_)
 skip
 refine sS H fun K1 k1=>sr 1 rfl<|sE ?_;clear H a;intro a H
 refine k1 _ ?_;clear k1 K1
 replace H:=H.keep [0,1,2] rfl
 refine sS H fun K2 k2=>sr 2 rfl<|sf Bt rfl<|sf cS rfl<|sl S 0 aF G G G<|sr 1 rfl<|sd (iV G G (ht))<|sr 1 rfl<|sd (aH G G (ht2))<|sr 1 rfl<|sE ?_;clear H a;intro a H
 refine k2 _ ?_;clear k2 K2
 refine wp_ret ?_
 refine ret1 (fn:=Try.f75) rfl H rfl ?_
 exact ⟨rfl,(S.sel [0] G G)⟩
theorem wB (N:Net) (r:RM) (mv:Nat→Nat→Mv) (nb:Nat) (pl tk:Int) (st1 st2:Value) (EA:Option Addr) (A:Nat→Option Addr) (c:Nat→Nat) (b x:Nat) (w:World) (F:Nat→Prop) (S:St w F [boxM nb 141 [.int .i64 pl,st1,st2,.int .i64 tk,.slice EA N.k N.k,.int .i64 (b:Int),.int .i64 (x:Int)],ownM 155 1 EA N.k N.k (hdc A N.n c),ragM 157 7 (fun q=>q<N.k) A N.n c (edgeC N r mv)] w) (W:N.Wf) (hO:Ok N r 2199023255552) (hb:b<N.k) (hx:x<N.k) (hbx:b≠x) (hk:N.k≤1000000) :
    Calls Try.prog 77 [.pointer (some ⟨nb,0,none⟩)].toArray w (Ret (fun u w'=>∃ LA L,u = .slice LA N.k N.k∧LevOk N r b L∧St w F [ownM 3 1 LA N.k N.k (lcl L),boxM nb 141 [.int .i64 pl,st1,st2,.int .i64 tk,.slice EA N.k N.k,.int .i64 (b:Int),.int .i64 (x:Int)],ownM 155 1 EA N.k N.k (hdc A N.n c),ragM 157 7 (fun q=>q<N.k) A N.n c (edgeC N r mv)] w')):=by
 refine enter Try.func77 rfl Try.ntmps77 rfl (fun a H=>?_)
 skip
 refine sS H fun K1 k1=>sr 1 rfl<|sE ?_;clear H a;intro a H
 refine k1 _ ?_;clear k1 K1
 refine aB fun K2 k2=>?_
 refine aY H rfl S aN aX eF G G G G G G G G G ?_;clear H a S;intro A1 _ a hA1 S H
 refine ls 5 H<|sr 2 rfl<|sf dF rfl<|sl S 1 dX G G G<|sL eO rfl<|sE ?_;clear H a;intro a H
 refine aA H G G Try.func84 G G (nD _ _ (-1) N.k _ ((ownM.inS S (i:=0) rfl).congr (fun k j hk hj=>xN hk hj)) (by omega) (by omega)) ?_;clear H a
 rintro _ _ a ⟨lb,rfl,S2⟩ H
 replace S:=S.call S2;clear S2
 refine ls 1 H<|sr 1 rfl<|sE ?_;clear H a;intro a H
 refine k2 _ _ ?_;clear k2 K2
 replace H:=H.keep [0,3] rfl
 refine aB fun K3 k3=>?_
 refine ls 6 H<|sr 3 rfl<|sf lK rfl<|sl S 2 aF G G G<|si aN aX G G (ownM.adr S (i:=0) rfl (by omega)) (by omega)<|sE ?_;clear H a;intro a H
 refine bJ H S (i:=0) G G G (by omega) (by omega) aX rfl ?_
 clear H a S;intro _ a S H
 replace S:=S.recell (i:=0) rfl (cell':=lcl (fun v=>if v=b then 0 else -1)) (fun k j hk hj=>Db k j hj)
 refine k3 _ _ ?_;clear k3 K3
 replace H:=H.keep [0,3] rfl
 refine aB fun K4 k4=>?_
 refine ls 4 H<|sr 2 rfl<|sf lK rfl<|sl S 2 aF G G G<|sE ?_;clear H a;intro a H
 refine aY H rfl S aN aX eF G G G G G G G G G ?_;clear H a S;intro A2 _ a hA2 S H
 replace S:=queM.of_own S (i:=0) rfl (f:=fun i=>(((fun _=>b:Nat→Nat) (0+i):Nat):Int)) (by omega) (fun k hk=>xN hk (by omega))
 refine ls 1 H<|sr 1 rfl<|sE ?_;clear H a;intro a H
 refine k4 _ _ ?_;clear k4 K4
 refine wp_seq_k fun K5 k5=>?_
 refine wp_block ?_
 refine loop_st (X:=(Nat→Int)×(Nat→Nat)×Nat×Nat×Option Addr×Nat) (R0:=_) [0,3] H rfl (fun ⟨L,qf,ql,h,QA,qc⟩=>[(4,.slice QA (ql-h) qc)]) (fun ⟨L,qf,ql,h,QA,qc⟩=>[ownM 3 1 (some ⟨lb,0,none⟩) N.k N.k (lcl L),queM 3 QA (ql-h) qc (fun i=>((qf (h+i):Nat):Int))]) (fun g ⟨L,qf,ql,h,QA,qc⟩=>Bfs N r b L qf ql h 0∧h≤ql∧g+h=N.k) (N.k) (fun v=>if v=b then 0 else -1,fun _=>b,1,0,_,_) ?_ (S.sel [1,0,2,3,4,5] G G) (H.keep [4,0,3] rfl) ?_
 · exact ⟨Bfs.start hb (fun _ _=>rfl) rfl,by omega,by omega⟩
 clear H S a
 intro g1 x1 a w1 hp S H K6 k6
 obtain ⟨L,qf,ql,h,QA,qc⟩:=x1
 dsimp only at hp S H
 obtain ⟨hB,hhq,hgh⟩:=hp
 have hql:=hB.le
 refine wp_seq_k fun K7 k7=>?_
 refine sS H fun K8 k8=>sr 1 rfl<|sL aN rfl<|sr 1 rfl<|sE ?_;clear H a;intro a H
 refine k8 _ ?_;clear k8 K8
 refine condL H rfl (fun hc1=>?_) (fun hc1=>?_)
 ·skip
  refine wp_skip ?_
  refine k7 _ _ ?_
  refine wp_block ?_
  have hqk:qf h<N.k:=(hB.mem h (by omega)).1
  refine sS H fun K9 k9=>sr 1 rfl<|sI aN aX G G (queM.adr S (i:=1) rfl) (by omega) (by omega)<|sd ((aG aF rfl (queM.rd S (i:=1) (k:=0) rfl (by omega)):Does _ _ _ _ (.int .i64 (qf h:Int))))<|sr 1 rfl<|sE ?_;clear H a;intro a H
  refine k9 _ ?_;clear k9 K9
  have hqle:=queM.le S (i:=1) rfl
  replace H:=H.keep [0,3,4,5] rfl
  refine sS H fun K10 k10=>sr 1 rfl<|sd (iN aN aX rfl (lo:=1) (hi:=ql-h) (.inr ⟨_,rfl,_,rfl⟩) (.inl ⟨rfl,rfl⟩) (by omega) (by omega))<|sr 1 rfl<|sE ?_;clear H a;intro a H
  refine k10 _ ?_;clear k10 K10
  replace S:=queM.cut1 S (i:=1) rfl (by omega)
  replace H:=H.keep [0,3,4,5] rfl
  refine sS H fun K11 k11=>sr 2 rfl<|sf dF rfl<|sl S 3 dX G G G<|sr 1 rfl<|si eO eN G G (ownM.adr S (i:=4) rfl (by omega)) (by omega)<|slm gN rfl (ownM.rd S (i:=4) rfl (by omega) (by omega))<|sL fP rfl<|sr 1 rfl<|sE ?_;clear H a;intro a H
  refine k11 _ ?_;clear k11 K11
  refine wp_block ?_
  replace S:=queM.congr S (i:=1) rfl (f':=fun i=>((qf (h+1+i):Nat):Int)) (fun k hk=>by (try dsimp only);rw [show h+1+k=h+(k+1) by omega])
  rw [show ql-h-1=ql-(h+1) by omega] at H S
  refine loop_st (X:=(Nat→Int)×(Nat→Nat)×Nat×Nat×Option Addr×Nat) (R0:=_) [0,3,5,40,41] H rfl (fun ⟨L2,qf2,ql2,J,QA2,qc2⟩=>[(4,.slice QA2 (ql2-(h+1)) qc2),(42,.int .i64 (J:Int))]) (fun ⟨L2,qf2,ql2,J,QA2,qc2⟩=>[ownM 3 1 (some ⟨lb,0,none⟩) N.k N.k (lcl L2),queM 3 QA2 (ql2-(h+1)) qc2 (fun i=>((qf2 (h+1+i):Nat):Int))]) (fun g ⟨L2,qf2,ql2,J,QA2,qc2⟩=>Bfs N r b L2 qf2 ql2 h J∧h<ql2∧J≤N.n (qf h)∧g+J=N.n (qf h)∧qf2 h=qf h) (N.n (qf h)) (L,qf,ql,0,_,_) ?_ (S.sel [0,1,2,3,4,5] G G) (H.keep [4,42,0,3,5,40,41] rfl) ?_
  · exact ⟨hB,by omega,by omega,by omega,rfl⟩
  clear H S a
  intro g2 x2 a w2 hp S H K12 k12
  obtain ⟨L2,qf2,ql2,J,QA2,qc2⟩:=x2
  dsimp only at hp S H
  obtain ⟨hB2,hhq2,hJn,hgJ,hqe⟩:=hp
  have hql2:=hB2.le
  have hr2:=hB2.low
  refine sS H fun K13 k13=>sr 1 rfl<|sE ?_;clear H a;intro a H
  refine k13 _ ?_;clear k13 K13
  refine wp_seq_k fun K14 k14=>?_
  refine condL H rfl (fun hc2=>?_) (fun hc2=>?_)
  ·skip
   refine wp_skip ?_
   refine k14 _ _ ?_
   refine wp_seq_k fun K15 k15=>?_
   refine wp_block ?_
   have htk:=W.to_lt (qf h) hqk J (by omega)
   have hnl:=ragM.le S (i:=5) rfl hqk
   have hmx:maxLen=9223372036854775807:=rfl
   refine aB fun K16 k16=>?_
   refine ls 2 H<|si fP gV G G (ragM.adr S (i:=5) rfl hqk (by omega)) (by omega)<|sd ((qR Ff gV rfl (ragM.pull S (i:=5) rfl hqk) (i:=0) rfl (by omega) (by omega)))<|sE ?_;clear H a;intro a H
   refine aJ H rfl S mH ?_;clear H a S;intro b7 _ a hb7 hbw7 S H
   refine aD H S (i:=0) G G G G gV G G ?_
   clear H a S;intro _ a S H
   refine k16 _ _ ?_;clear k16 K16
   replace H:=H.keep [0,3,4,5,7,40,41,42] rfl
   refine sS H fun K17 k17=>sf gD rfl<|sl S 0 aF G G G<|sr 2 rfl<|sg 6 3 49 55 true G G (fun hg4=>sy hg4<|sr 1 rfl<|sy hg4<|sf iC rfl<|sy hg4<|sl S 0 aF G G G<|sy hg4<|si aN aX G G (ownM.adr S (i:=1) rfl (by omega)) (by omega)<|sy hg4<|slm aF rfl (ownM.rd S (i:=1) rfl (by omega) (by omega))<|sy hg4<|sr 1 rfl<|sz 6 G G G)<|sa G G G<|sE ?_;clear H a;intro a H
   refine k17 _ ?_;clear k17 K17
   refine aQ H rfl (fun hc3=>?_) (fun hc3=>?_)
   ·skip
    try simp only [o1,o2,o3,o4,o5,o6,o7,o8,o9,oa] at hc3
    have hLu:=(hB2.mem h (by omega)).2
    rw [hqe] at hLu
    replace H:=H.keep [0,3,4,5,7,40,41,42] rfl
    refine nW 9 (by kernel_rfl) (by kernel_rfl) fun K18 k18=>?_
    replace S:=S.drew
    refine sF H<|sr 1 rfl<|sf iC rfl<|sl S 0 aF G G G<|sr 2 rfl<|si aN aX G G (ownM.adr S (i:=1) rfl (by omega)) (by omega)<|slm aF rfl (ownM.rd S (i:=1) rfl (by omega) (by omega))<|sd (aH G G (by unfold i64ok;omega))<|si aN aX G G (ownM.adr S (i:=1) rfl (by omega)) (by omega)<|sE ?_;clear H a;intro a H
    refine bJ H S (i:=1) G G G htk (by omega) aX rfl ?_
    clear H a S;intro _ a S H
    replace S:=S.recell (i:=1) rfl (cell':=lcl (upd L2 (N.to (qf h) J) (L2 (qf h)+1))) (fun k j hk hj=>Gg k j hj)
    refine k18 _ _ ?_;clear k18 K18
    replace H:=H.keep [0,3,4,5,7,40,41,42] rfl
    refine bY ?_
    refine ls 3 H<|sr 1 rfl<|sf iC rfl<|sl S 0 aF G G G<|sE ?_;clear H a;intro a H
    refine aY H rfl S aN aX eF G G G G G G G G G ?_;clear H a S;intro A3 _ a hA3 S H
    refine yO H rfl S aN aX eF lL rfl (i:=3) G G G (ownM.inS S (i:=0) rfl) (v:=((N.to (qf h) J:Nat):Int)) rfl (by omega) (by omega) ?_;clear H a S;intro QA3 qc3 _ a S H
    replace S:=queM.congr S (i:=3) rfl (f':=fun i=>((upd qf2 ql2 (N.to (qf h) J) (h+1+i):Nat):Int)) (fun k hk=>Ld (by omega) k hk)
    rw [show ql2-(h+1)+1=ql2+1-(h+1) by omega] at H S
    refine ls 1 H<|sr 1 rfl<|sE ?_;clear H a;intro a H
    refine k15 _ _ ?_
    refine sO H<|sd (aH G G (by unfold i64ok;omega))<|sr 1 rfl<|sE ?_;clear H a;intro a H
    exact k12 (g2-1) (_,_,_,J+1,_,_) a _ (by omega) (by first|exact ⟨(by have:=hB2.visit W hhq2 (by rw [hqe];omega) (by rw [hqe];exact hc3.1) (by rw [hqe];exact hc3.2);rw [hqe] at this;exact this),by omega,by omega,by omega,by rw [bI _ _ (by omega)];exact hqe⟩|exact ⟨hB2.skip (by rw [hqe];intro h9;omega),hhq2,by omega,by omega,hqe⟩) (S.sel [2,3,4,5,6,7] G G) (H.keep [4,42,0,3,5,40,41] rfl)
   try simp only [o1,o2,o3,o4,o5,o6,o7,o8,o9,oa] at hc3
   refine wp_skip ?_
   refine k15 _ _ ?_
   replace H:=H.keep [0,3,4,5,40,41,42] rfl
   refine sO H<|sd (aH G G (by unfold i64ok;omega))<|sr 1 rfl<|sE ?_;clear H a;intro a H
   exact k12 (g2-1) (_,_,_,J+1,_,_) a _ (by omega) (by first|exact ⟨(by have:=hB2.visit W hhq2 (by rw [hqe];omega) (by rw [hqe];exact hc3.1) (by rw [hqe];exact hc3.2);rw [hqe] at this;exact this),by omega,by omega,by omega,by rw [bI _ _ (by omega)];exact hqe⟩|exact ⟨hB2.skip (by rw [hqe];intro h9;omega),hhq2,by omega,by omega,hqe⟩) (S.sel [1,2,3,4,5,6] G G) (H.keep [4,42,0,3,5,40,41] rfl)
  refine wp_exit ?_
  exact k6 (g1-1) (L2,qf2,ql2,h+1,QA2,qc2) a _ (by omega) (⟨hB2.next (by rw [hqe];omega),by omega,by omega⟩) (S.sel [0,1,2,3,4,5] G G) (H.keep [4,0,3] rfl)
 refine wp_exit ?_
 refine k5 _ _ ?_
 refine sS H fun K22 k22=>sr 2 rfl<|sE ?_;clear H a;intro a H
 refine k22 _ ?_;clear k22 K22
 refine wp_ret ?_
 refine ret1 (fn:=Try.f77) rfl H rfl ?_
 exact ⟨_,L,rfl,hB.done (by omega),(S.sel [0,3,4,5] G G)⟩
end
section
theorem oQ {N:Net} {r:RM} {mv:Nat→Nat→Mv} {p q:Nat} {v:Int}:∀ i k j,k<N.n i→j<7→upd (edgeC N r mv) p (cput (edgeC N r mv p) q (0+1) (.int .i64 v)) i k j=edgeC N (put2 r p q v) mv i k j:=by
  intro i k j _ _
  rw [show (0+1:Nat)=1 from rfl,yW]
theorem zO {n:Nat→Nat} {p v:Nat} {x:Int} (h:x=(v:Int)):∀ k j,j<1→cput (ncl n) p 0 (.int .i64 x) k j=ncl (upd n p v) k j:=by
  intro k j hj
  have:j=0:=by omega
  subst this
  rw [Fq h]
  exact if_pos rfl
theorem PushI.same {N:Net} {L:Nat→Int} {x u:Nat} {r r1:RM} {nx nx1:Nat→Nat} {j:Nat} (I:PushI N L x u r nx 0 r1 nx1) (hu:u<N.k) (hj:j<N.n u) (h:¬ (0<r1 u j∧L (N.to u j)=L u+1)) (hr:0<r u j) (hl:L (N.to u j)=L u+1):False:=by
  have:=(I.zero rfl).1 u hu j hj
  exact h ⟨by omega,hl⟩
def PushC (N:Net) (mv:Nat→Nat→Mv) (nb:Nat) (pl tk:Int) (st1 st2:Value) (EA:Option Addr) (A:Nat→Option Addr) (c:Nat→Nat) (b x:Nat) (L:Nat→Int) (LA:Option Addr) (lc:Nat) (NA:Option Addr) (d:Int):Prop:=
  ∀ (u:Nat) (most:Int) (r:RM) (nx:Nat→Nat) (w:World) (F:Nat→Prop) (S:St w F [boxM nb 141 [.int .i64 pl,st1,st2,.int .i64 tk,.slice EA N.k N.k,.int .i64 (b:Int),.int .i64 (x:Int)],ownM 155 1 EA N.k N.k (hdc A N.n c),ragM 157 7 (fun q=>q<N.k) A N.n c (edgeC N r mv),ownM 3 1 NA N.k N.k (ncl nx)] w) (hl:InS w F 1 LA N.k (lcl L)) (hO:Ok N r 2199023255552) (hn:∀ i,i<N.k→nx i≤N.n i) (hu:u<N.k) (hm:0≤most∧most≤2199023255552) (_:d≤L u),Calls Try.prog 78 [.pointer (some ⟨nb,0,none⟩),.int .i64 (u:Int),.int .i64 most,.slice LA N.k lc,.slice NA N.k N.k].toArray w (Ret (fun v w'=>∃ m r' nx',v = .int .i64 m∧PushR N L x u r nx most m r' nx'∧St w F [boxM nb 141 [.int .i64 pl,st1,st2,.int .i64 tk,.slice EA N.k N.k,.int .i64 (b:Int),.int .i64 (x:Int)],ownM 155 1 EA N.k N.k (hdc A N.n c),ragM 157 7 (fun q=>q<N.k) A N.n c (edgeC N r' mv),ownM 3 1 NA N.k N.k (ncl nx')] w'))
theorem zP (N:Net) (r:RM) (mv:Nat→Nat→Mv) (nb:Nat) (pl tk:Int) (st1 st2:Value) (EA:Option Addr) (A:Nat→Option Addr) (c:Nat→Nat) (b x:Nat) (L:Nat→Int) (LA:Option Addr) (lc:Nat) (NA:Option Addr) (d:Int) (u:Nat) (most:Int) (nx:Nat→Nat) (W:N.Wf) (hb:b<N.k) (hx:x<N.k) (hk:N.k≤1000000) (hL:∀ v,v<N.k → -1≤L v∧L v<N.k) (w:World) (F:Nat→Prop) (S:St w F [boxM nb 141 [.int .i64 pl,st1,st2,.int .i64 tk,.slice EA N.k N.k,.int .i64 (b:Int),.int .i64 (x:Int)],ownM 155 1 EA N.k N.k (hdc A N.n c),ragM 157 7 (fun q=>q<N.k) A N.n c (edgeC N r mv),ownM 3 1 NA N.k N.k (ncl nx)] w) (hl:InS w F 1 LA N.k (lcl L)) (hO:Ok N r 2199023255552) (hn:∀ i,i<N.k→nx i≤N.n i) (hu:u<N.k) (hm:0≤most∧most≤2199023255552) (hd:d≤L u+1) (ih:PushC N mv nb pl tk st1 st2 EA A c b x L LA lc NA d) :
    Calls Try.prog 78 [.pointer (some ⟨nb,0,none⟩),.int .i64 (u:Int),.int .i64 most,.slice LA N.k lc,.slice NA N.k N.k].toArray w (Ret (fun v w'=>∃ m r' nx',v = .int .i64 m∧PushR N L x u r nx most m r' nx'∧St w F [boxM nb 141 [.int .i64 pl,st1,st2,.int .i64 tk,.slice EA N.k N.k,.int .i64 (b:Int),.int .i64 (x:Int)],ownM 155 1 EA N.k N.k (hdc A N.n c),ragM 157 7 (fun q=>q<N.k) A N.n c (edgeC N r' mv),ownM 3 1 NA N.k N.k (ncl nx')] w')):=by
 refine enter Try.func78 rfl Try.ntmps78 rfl (fun a H=>?_)
 skip
 refine sS H fun K1 k1=>sr 1 rfl<|sE ?_;clear H a;intro a H
 refine k1 _ ?_;clear k1 K1
 refine wp_seq_k fun K2 k2=>?_
 refine sS H fun K3 k3=>sr 3 rfl<|sf oE rfl<|sl S 0 aF G G G<|sr 1 rfl<|sE ?_;clear H a;intro a H
 refine k3 _ ?_;clear k3 K3
 refine condE H rfl (fun hc1=>?_) (fun hc1=>?_)
 ·skip
  refine sS H fun K4 k4=>sr 2 rfl<|sE ?_;clear H a;intro a H
  refine k4 _ ?_;clear k4 K4
  refine wp_ret ?_
  refine ret1 (fn:=Try.f78) rfl H rfl ?_
  have hux:u=x:=by omega
  subst hux
  exact ⟨_,r,nx,rfl,PushR.here hO hn hm.1,(S.sel [0,1,2,3] G G)⟩
 refine wp_skip ?_
 refine k2 _ _ ?_
 replace H:=H.keep [0,1,2,3,4] rfl
 refine sS H fun K5 k5=>sr 1 rfl<|sE ?_;clear H a;intro a H
 refine k5 _ ?_;clear k5 K5
 refine wp_seq_k fun K6 k6=>?_
 refine wp_block ?_
 refine loop_st (X:=Int×RM×(Nat→Nat)) (R0:=_) [0,1,2,3,4] H rfl (fun ⟨sent,r1,nx1⟩=>[(11,.int .i64 sent)]) (fun ⟨sent,r1,nx1⟩=>[ragM 157 7 (fun q=>q<N.k) A N.n c (edgeC N r1 mv),ownM 3 1 NA N.k N.k (ncl nx1)]) (fun g ⟨sent,r1,nx1⟩=>PushI N L x u r nx sent r1 nx1∧0≤sent∧sent≤most∧g+nx1 u=N.n u) (N.n u-nx u) (0,r,nx) ?_ (S.sel [2,3,0,1] G G) (H.keep [11,0,1,2,3,4] rfl) ?_
 · exact ⟨PushI.start hO hn,by omega,by omega,by have:=hn u hu;omega⟩
 clear H S a
 intro g1 x1 a w1 hp S H K7 k7
 obtain ⟨sent,r1,nx1⟩:=x1
 dsimp only at hp S H
 obtain ⟨hI,h0s,hsm,hgj⟩:=hp
 have hO1:=hI.fl.ok hO
 have hxn:=(hI.nxl u hu).2
 refine wp_seq_k fun K8 k8=>?_
 replace H:=H.keep [0,1,2,3,4,11] rfl
 replace S:=S.drew
 refine sD H fun K9 k9=>sr 2 rfl<|si aN aX G G (ownM.adr S (i:=1) rfl (by omega)) (by omega)<|slm aF rfl (ownM.rd S (i:=1) rfl (by omega) (by omega))<|sr 2 rfl<|sf dF rfl<|sl S 2 dX G G G<|sr 1 rfl<|si eO eN G G (ownM.adr S (i:=3) rfl (by omega)) (by omega)<|slm gN rfl (ownM.rd S (i:=3) rfl (by omega) (by omega))<|sL fP rfl<|sr 1 rfl<|sE ?_;clear H a;intro a H
 refine k9 _ ?_;clear k9 K9
 refine condL H rfl (fun hc2=>?_) (fun hc2=>?_)
 ·skip
  refine wp_skip ?_
  refine k8 _ _ ?_
  refine wp_seq_k fun K10 k10=>?_
  refine wp_block ?_
  obtain ⟨j,hjd⟩:∃ j,j=nx1 u:=⟨_,rfl⟩
  have hjn:j<N.n u:=by omega
  have htk:=W.to_lt u hu j hjn
  have hbk:=W.bk_lt u hu j hjn
  have hru0:=hO1.nn u hu j hjn;have hrl0:=hO1.le W hu hjn
  have hLu:=hL u hu;have hLt:=hL _ htk
  have hnl:=ragM.le S (i:=0) rfl hu
  have hmx:maxLen=9223372036854775807:=rfl
  replace H:=H.keep [0,1,2,3,4,11] rfl
  replace S:=S.drew
  refine sD H fun K11 k11=>sr 2 rfl<|sf dF rfl<|sl S 2 dX G G G<|sr 1 rfl<|si eO eN G G (ownM.adr S (i:=3) rfl (by omega)) (by omega)<|slm gN rfl (ownM.rd S (i:=3) rfl (by omega) (by omega))<|sr 2 rfl<|si aN aX G G (ownM.adr S (i:=1) rfl (by omega)) (by omega)<|sd ((aG aF rfl (ownM.rd S (i:=1) rfl (by omega) (by omega))).to (v' := .int .i64 (j:Int)) (by rw [hjd];rfl))<|si fP gV G G (ragM.adr S (i:=0) (p:=u) rfl hu (by omega)) (by omega)<|sr 1 rfl<|sE ?_;clear H a;intro a H
  refine k11 _ ?_;clear k11 K11
  have SR:=(S.sel [2,3] G G)
  refine gK (X:=Int×RM×(Nat→Nat)) [0,1,2,3,4] H rfl (fun ⟨sent2,r2,nx2⟩=>[(11,.int .i64 sent2)]) (fun ⟨sent2,r2,nx2⟩=>[ragM 157 7 (fun q=>q<N.k) A N.n c (edgeC N r2 mv),ownM 3 1 NA N.k N.k (ncl nx2)]) (fun ⟨sent2,r2,nx2⟩=>PushI N L x u r nx sent2 r2 nx2∧0≤sent2∧sent2≤most∧nx2 u=j∧(sent2≠most→sent2=0→Dead N r L x nx→0<r u j→L (N.to u j)=L u+1→¬ Path N r L x (N.to u j))) SR (fun K13 k13=>?_) ?_
  ·skip
   replace H:=H.keep [0,1,2,3,4,11,12] rfl
   replace S:=S.drew
   refine sD H fun K14 k14=>sr 2 rfl<|sp gD rfl<|slm aF rfl (ragM.rd S (i:=0) (p:=u) rfl hu (by omega) (by omega))<|sr 2 rfl<|sg 13 5 57 70 true G G (fun hg6=>sy hg6<|sr 1 rfl<|sy hg6<|sr 1 rfl<|sy hg6<|sr 1 rfl<|sy hg6<|sp iC rfl<|sy hg6<|slm aF rfl (ragM.rd S (i:=0) (p:=u) rfl hu (by omega) (by omega))<|sy hg6<|si aN aX G G (hl.adr (by omega)) (by omega)<|sy hg6<|slm aF rfl (hl.rd S (by omega) (by omega))<|sy hg6<|sr 1 rfl<|sy hg6<|sr 1 rfl<|sy hg6<|si aN aX G G (hl.adr (by omega)) (by omega)<|sy hg6<|slm aF rfl (hl.rd S (by omega) (by omega))<|sy hg6<|sd (aH G G (by unfold i64ok;omega))<|sy hg6<|sr 1 rfl<|sz 13 G G G)<|sa G G G<|sE ?_;clear H a;intro a H
   refine k14 _ ?_;clear k14 K14
   refine aQ H rfl (fun hc3=>?_) (fun hc3=>?_)
   ·skip
    try simp only [o1,o2,o3,o4,o5,o6,o7,o8,o9,oa] at hc3
    replace H:=H.keep [0,1,2,3,4,11,12] rfl
    refine nW 15 (by kernel_rfl) (by kernel_rfl) fun K15 k15=>?_
    replace S:=S.drew
    refine sF H<|sr 3 rfl<|sp iC rfl<|slm aF rfl (ragM.rd S (i:=0) (p:=u) rfl hu (by omega) (by omega))<|sr 2 rfl<|sd (bK G G (by unfold i64ok;omega))<|sr 2 rfl<|sp gD rfl<|slm aF rfl (ragM.rd S (i:=0) (p:=u) rfl hu (by omega) (by omega))<|sd (Aq G G)<|sr 2 rfl<|sE ?_;clear H a;intro a H
    have S1:=(S.sel [2,3,0,1] G G)
    refine aA H G G Try.func78 G G (ih (N.to u j) (min (most-sent) (r1 u j)) r1 nx1 _ _ S1.startR (hl.nowR S1) hO1 (fun i hi=>(hI.nxl i hi).2) htk (by omega) (by omega)) ?_;clear H a
    rintro _ _ a ⟨m2,r2,nx2,rfl,hK,S2⟩ H
    replace S:=(S.sel [2,3,0,1] G G).callR (M:=[_,_,_,_]) S2;clear S1 S2
    have hru:r2 u j=r1 u j:=hK.low u hu j hjn (by omega)
    have hO2:=hK.fl.ok hO1
    have hkm:=hK.ml;have hk0:=hK.m0
    have hr2n:=hO2.nn _ htk _ hbk;have hr2l:=hO2.le W htk hbk
    have hpn:put2 r2 u j (r2 u j-m2) (N.to u j) (N.back u j)=r2 (N.to u j) (N.back u j):=fT (fun h=>W.to_ne u hu j hjn h.1)
    have hce:put2 (put2 r2 u j (r2 u j-m2)) (N.to u j) (N.back u j) (put2 r2 u j (r2 u j-m2) (N.to u j) (N.back u j)+m2)=along N r2 u j m2:=by rw [hpn];rfl
    have hE:=hI.edge W hu hjn hc3.2 h0s hK
    refine ls 1 H<|sr 1 rfl<|sE ?_;clear H a;intro a H
    refine k15 _ _ ?_;clear k15 K15
    replace H:=H.keep [0,1,2,3,4,11,12,13] rfl
    refine aB fun K16 k16=>?_
    refine ls 8 H<|sr 2 rfl<|sp gD rfl<|slm aF rfl (ragM.rd S (i:=2) (p:=u) rfl hu (by omega) (by omega))<|sr 1 rfl<|sd (bK G G (by unfold i64ok;omega))<|sr 1 rfl<|sp gD rfl<|sE ?_;clear H a;intro a H
    refine jB H S (i:=2) (p:=u) G G G hu hjn (by omega) aX rfl ?_;clear H a S;intro _ a S H
    replace S:=ragM.congr S (i:=2) rfl (cell':=edgeC N (put2 r2 u j (r2 u j-m2)) mv) (fun _ _=>rfl) (fun _ _=>rfl) (fun _ _=>rfl) (fun i _=>oQ i)
    refine k16 _ _ ?_;clear k16 K16
    replace H:=H.keep [0,1,2,3,4,11,12,13] rfl
    refine nW 21 (by kernel_rfl) (by kernel_rfl) fun K17 k17=>?_
    replace S:=S.drew
    refine sF H<|sr 2 rfl<|sf dF rfl<|sl S 0 dX G G G<|sr 2 rfl<|sp iC rfl<|slm aF rfl (ragM.rd S (i:=2) (p:=u) rfl hu (by omega) (by omega))<|si eO eN G G (ownM.adr S (i:=1) rfl (by omega)) (by omega)<|slm gN rfl (ownM.rd S (i:=1) rfl (by omega) (by omega))<|sr 2 rfl<|sp Bx rfl<|slm aF rfl (ragM.rd S (i:=2) (p:=u) rfl hu (by omega) (by omega))<|si fP gV G G (ragM.adr S (i:=2) (p:=N.to u j) rfl htk (by omega)) (by omega)<|sp gD rfl<|slm aF rfl (ragM.rd S (i:=2) (p:=N.to u j) rfl htk hbk (by omega))<|sr 1 rfl<|sd (aH G G (by rw [hpn];unfold i64ok;omega))<|si fP gV G G (ragM.adr S (i:=2) (p:=N.to u j) rfl htk (by omega)) (by omega)<|sp gD rfl<|sE ?_;clear H a;intro a H
    refine jB H S (i:=2) (p:=N.to u j) G G G htk hbk (by omega) aX rfl ?_;clear H a S;intro _ a S H
    replace S:=ragM.congr S (i:=2) rfl (cell':=edgeC N (along N r2 u j m2) mv) (fun _ _=>rfl) (fun _ _=>rfl) (fun _ _=>rfl) (fun i _ k j hk hj=>by rw [oQ i k j hk hj];exact congrArg (fun r=>edgeC N r mv i k j) hce)
    refine k17 _ _ ?_;clear k17 K17
    replace H:=H.keep [0,1,2,3,4,11,13] rfl
    refine sO H<|sr 2 rfl<|sd (aH G G (by unfold i64ok;omega))<|sr 1 rfl<|sE ?_;clear H a;intro a H
    exact k13 (sent+m2,along N r2 u j m2,nx2) a _ (⟨hE,by omega,by omega,by rw [hK.nlow u hu (by omega)];omega,fun h1 h2 hd h3 h4=>(by
      have h5:sent=0:=by omega
      obtain ⟨e1,e2⟩:=hI.zero h5
      have h6:=hK.none (by omega) (kJ W e1 (e2 hd)) (by omega)
      exact fun hp=>h6 (oA W (fun i hi q hq=>(e1 i hi q hq).symm) hp htk))⟩) (S.sel [2,3,0,1] G G) (H.keep [11,0,1,2,3,4] rfl)
   try simp only [o1,o2,o3,o4,o5,o6,o7,o8,o9,oa] at hc3
   refine wp_skip ?_
   exact k13 (sent,r1,nx1) a _ (⟨hI,h0s,hsm,hjd.symm,fun h1 h2 hd h3 h4=>by subst h2;exact (hI.same hu hjn (by intro h9;omega) h3 h4).elim⟩) (S.sel [0,1,2,3] G G) (H.keep [11,0,1,2,3,4] rfl)
  clear SR H S a
  intro xm a wm hp S H
  obtain ⟨sent2,r2,nx2⟩:=xm
  obtain ⟨hI2,h0s2,hsm2,hnj,hp2⟩:=hp
  refine sS H fun K19 k19=>sr 3 rfl<|sE ?_;clear H a;intro a H
  refine k19 _ ?_;clear k19 K19
  refine condE H rfl (fun hc4=>?_) (fun hc4=>?_)
  ·skip
   refine sS H fun K20 k20=>sr 2 rfl<|sE ?_;clear H a;intro a H
   refine k20 _ ?_;clear k20 K20
   refine wp_ret ?_
   refine ret1 (fn:=Try.f78) rfl H rfl ?_
   exact ⟨_,_,_,rfl,hI2.full h0s2 (by omega),(S.sel [2,3,0,1] G G)⟩
  refine wp_skip ?_
  refine k10 _ _ ?_
  replace H:=H.keep [0,1,2,3,4,11] rfl
  refine bY ?_
  refine ls 6 H<|sr 2 rfl<|si aN aX G G (ownM.adr S (i:=1) rfl (by omega)) (by omega)<|slm aF rfl (ownM.rd S (i:=1) rfl (by omega) (by omega))<|sd (aH G G (by unfold i64ok;omega))<|si aN aX G G (ownM.adr S (i:=1) rfl (by omega)) (by omega)<|sE ?_;clear H a;intro a H
  refine bJ H S (i:=1) G G G (by omega) (by omega) aX rfl ?_
  clear H a S;intro _ a S H
  replace S:=S.recell (i:=1) rfl (cell':=ncl (upd nx2 u (j+1))) (fun k q hk hq=>zO (by rw [hnj];omega) k q hq)
  exact k7 (g1-1) (sent2,r2,upd nx2 u (j+1)) a _ (by omega) (⟨hI2.skip W hu hnj hjn (fun h0 hd h1 h2=>hp2 (by omega) h0 hd h1 h2),by omega,by omega,by rw [bH];omega⟩) (S.sel [0,1,2,3] G G) (H.keep [11,0,1,2,3,4] rfl)
 refine wp_exit ?_
 refine k6 _ _ ?_
 refine sS H fun K22 k22=>sr 2 rfl<|sE ?_;clear H a;intro a H
 refine k22 _ ?_;clear k22 K22
 refine wp_ret ?_
 refine ret1 (fn:=Try.f78) rfl H rfl ?_
 exact ⟨_,_,_,rfl,hI.done hu (by omega) (by omega) h0s hsm,(S.sel [2,3,0,1] G G)⟩
end
section
theorem Dd (N:Net) (mv:Nat→Nat→Mv) (nb:Nat) (pl tk:Int) (st1 st2:Value) (EA:Option Addr) (A:Nat→Option Addr) (c:Nat→Nat) (b x:Nat) (L:Nat→Int) (LA:Option Addr) (lc:Nat) (NA:Option Addr) (W:N.Wf) (hb:b<N.k) (hx:x<N.k) (hk:N.k≤1000000) (hL:∀ v,v<N.k → -1≤L v∧L v<N.k):∀ n:Nat,PushC N mv nb pl tk st1 st2 EA A c b x L LA lc NA ((N.k:Int)-n):=by
  intro n
  induction n with
  | zero=>intro u most r nx w F S hl hO hn hu hm hd;have:=(hL u hu).2;omega
  | succ n ih=>
    intro u most r nx w F S hl hO hn hu hm hd
    exact zP N r mv nb pl tk st1 st2 EA A c b x L LA lc NA _ u most nx W hb hx hk hL w F S hl hO hn hu hm (by omega) ih
theorem Fl.bound {N:Net} {r r':RM} {b x:Nat} {v B:Int} (h:Fl N r r' b x v) (o:Ok N r B) (hbx:b≠x):v≤resid N r (fun v=>decide (v=b)):=by
  have h1:=kZ (S:=(fun v=>decide (v=b))) (h.ok o)
  rw [h.cut] at h1
  unfold ind at h1
  have hxb:¬ x=b:=fun e=>hbx e.symm
  simp [hxb] at h1
  omega
theorem Jf:∀ k j,j<1→[Value.int .i64 0].getD j undef=ncl (fun _=>0) k j:=by
  intro k j hj
  have:j=0:=by omega
  subst this;rfl
theorem dead0 {N:Net} {r:RM} {L:Nat→Int} {x:Nat}:Dead N r L x (fun _=>0):=fun u hu j hj=>absurd hj (Nat.not_lt_zero j)
theorem De (N:Net) (r:RM) (mv:Nat→Nat→Mv) (nb:Nat) (pl tk:Int) (st1 st2:Value) (EA:Option Addr) (A:Nat→Option Addr) (c:Nat→Nat) (b x:Nat) (w:World) (F:Nat→Prop) (S:St w F [boxM nb 141 [.int .i64 pl,st1,st2,.int .i64 tk,.slice EA N.k N.k,.int .i64 (b:Int),.int .i64 (x:Int)],ownM 155 1 EA N.k N.k (hdc A N.n c),ragM 157 7 (fun q=>q<N.k) A N.n c (edgeC N r mv)] w) (W:N.Wf) (hO:Ok N r 2199023255552) (hb:b<N.k) (hx:x<N.k) (hbx:b≠x) (hk:N.k≤1000000) (hV:resid N r (fun v=>decide (v=b))≤1000000000) :
    Calls Try.prog 62 [.pointer (some ⟨nb,0,none⟩)].toArray w (Ret (fun u w'=>∃ v r',u = .int .i64 v∧Fl N r r' b x v∧0≤v∧(∃ L,LevOk N r' b L∧L x<0)∧St w F [boxM nb 141 [.int .i64 pl,st1,st2,.int .i64 tk,.slice EA N.k N.k,.int .i64 (b:Int),.int .i64 (x:Int)],ownM 155 1 EA N.k N.k (hdc A N.n c),ragM 157 7 (fun q=>q<N.k) A N.n c (edgeC N r' mv)] w')):=by
 refine enter Try.func62 rfl Try.ntmps62 rfl (fun a H=>?_)
 skip
 refine sS H fun K1 k1=>sr 1 rfl<|sE ?_;clear H a;intro a H
 refine k1 _ ?_;clear k1 K1
 refine sS H fun K2 k2=>sr 1 rfl<|sE ?_;clear H a;intro a H
 refine k2 _ ?_;clear k2 K2
 refine wp_block ?_
 refine loop_st (X:=Int×RM) (R0:=_) [0] H rfl (fun ⟨sum,r1⟩=>[(3,.int .i64 sum)]) (fun ⟨sum,r1⟩=>[ragM 157 7 (fun q=>q<N.k) A N.n c (edgeC N r1 mv)]) (fun g ⟨sum,r1⟩=>Fl N r r1 b x sum∧0≤sum∧(g:Int)+sum=resid N r (fun v=>decide (v=b))) ((resid N r (fun v=>decide (v=b))).toNat) (0,r) ?_ (S.sel [2,0,1] G G) (H.keep [3,0] rfl) ?_
 · exact ⟨Fl.zero hO,by omega,by have:=kZ (S:=(fun v=>decide (v=b))) hO;omega⟩
 clear H S a
 intro g1 x1 a w1 hp S H K3 k3
 obtain ⟨sum,r1⟩:=x1
 dsimp only at hp S H
 obtain ⟨hF,h0,hg⟩:=hp
 have hO1:=hF.ok hO
 have hFb0:=hF.bound hO hbx
 refine wp_block ?_
 refine aB fun K4 k4=>?_
 refine ls 1 H<|sr 1 rfl<|sE ?_;clear H a;intro a H
 have S1:=(S.sel [1,2,0] G G)
 refine aA H G G Try.func77 G G (wB N r1 mv nb pl tk st1 st2 EA A c b x _ _ S1.startR W hO1 hb hx hbx hk) ?_;clear H a
 rintro _ _ a ⟨LA,L,rfl,hLv,S2⟩ H
 replace S:=(S.sel [1,2,0] G G).callR (M:=[_,_,_]) S2;clear S1 S2
 refine ls 1 H<|sr 1 rfl<|sE ?_;clear H a;intro a H
 refine k4 _ _ ?_;clear k4 K4
 refine wp_seq_k fun K5 k5=>?_
 replace H:=H.keep [0,3,4] rfl
 refine sS H fun K6 k6=>sr 3 rfl<|sf oE rfl<|sl S 1 aF G G G<|si aN aX G G (ownM.adr S (i:=0) rfl (by omega)) (by omega)<|slm aF rfl (ownM.rd S (i:=0) rfl (by omega) (by omega))<|sr 1 rfl<|sE ?_;clear H a;intro a H
 refine k6 _ ?_;clear k6 K6
 refine condL H rfl (fun hc1=>?_) (fun hc1=>?_)
 ·skip
  replace H:=H.keep [3] rfl
  refine sS H fun K7 k7=>sr 2 rfl<|sE ?_;clear H a;intro a H
  refine k7 _ ?_;clear k7 K7
  refine wp_ret ?_
  refine ret1 (fn:=Try.f62) rfl H rfl ?_
  exact ⟨_,_,rfl,hF,h0,⟨L,hLv,by omega⟩,(S.sel [1,2,3] G G)⟩
 refine wp_skip ?_
 refine k5 _ _ ?_
 replace H:=H.keep [0,3,4] rfl
 replace S:=S.drew
 refine one_wq [(0,true),(1,true),(2,true),(3,true),(4,true),(5,true),(6,true),(7,true),(8,true),(9,true),(10,true),(11,true),(12,false),(13,false),(14,true),(15,true)] (by kernel_rfl) (by kernel_rfl) (S.sel [0,1,2] G G) ?_
 refine qF H<|qr 4 rfl<|qd rfl (fun _ S=>(aE lK rfl))<|qd rfl (fun _ S=>aG aF rfl (boxM.rd S (i:=1) G G))<|qr 3 rfl<|qd rfl (fun _ S=>(aE dF rfl))<|qd rfl (fun _ S=>aG dX rfl (boxM.rd S (i:=1) G G))<|qd rfl (fun _ S=>dD eO rfl)<|qK ?_;clear H a;intro a H
 refine aU rfl ?_
 refine fA (n:=_) H rfl S aN aX eF lL rfl (by decide) G G (by omega) (by omega) ?_;clear H a S;intro A1 _ a hA1 S H
 replace S:=S.recell (i:=0) rfl (cell':=ncl (fun _=>0)) (fun k j hk hj=>Jf k j hj)
 refine wpList_nil (And.intro (S.sel [1,2,3] G G) ?_)
 refine aU rfl ?_
 have S1:=(S.sel [2,3,4,0] G G)
 refine aA H G G Try.func78 G G ((by have:=Dd N mv nb pl tk st1 st2 EA A c b x L LA N.k _ W hb hx hk hLv.rng N.k b 1099511627776 r1 (fun _=>0) _ _ S1.startR (ownM.inF S (i:=1) rfl [2,3,4,0] G G) hO1 (fun i hi=>Nat.zero_le _) hb (by omega) (by rw [hLv.b0];omega);exact this)) ?_;clear H a
 rintro _ _ a ⟨m2,r2,nx2,rfl,hK,S2⟩ H
 replace S:=(S.sel [2,3,4,0,1] G G).callR (M:=[_,_,_,_]) S2;clear S1 S2
 have hm0:=hK.m0
 have hm1:m2≠0:=fun h=>hK.none h dead0 (by omega) (Fc hLv hx (by omega))
 have hF2:=hF.more hK.fl
 have hFb:=hF2.bound hO hbx
 refine wpList_nil (And.intro (S.sel [4,0,1] G G) ?_)
 refine qF H<|qd rfl (fun _ S=>aH G G (by unfold i64ok;omega))<|qr 1 rfl<|qK ?_;clear H a;intro a H
 refine bV ?_
 exact k3 ((resid N r (fun v=>decide (v=b))-(sum+m2)).toNat) (sum+m2,r2) a _ (by omega) (⟨hF2,by omega,by omega⟩) (S.sel [2,0,1] G G) (H.keep [3,0] rfl)
end
section
theorem seven {p:Nat→Prop} (h0:p 0) (h1:p 1) (h2:p 2) (h3:p 3) (h4:p 4) (h5:p 5) (h6:p 6):∀ j,j<7→p j:=by
  intro j hj
  match j,hj with
  | 0,_=>exact h0
  | 1,_=>exact h1
  | 2,_=>exact h2
  | 3,_=>exact h3
  | 4,_=>exact h4
  | 5,_=>exact h5
  | 6,_=>exact h6
theorem oR {T:Tab} {f:Nat} {e:Ent} (q:Nat):upd (tlen T) f (tlen T f+1) q=tlen (upd T f (T f++[e])) q:=by
  unfold tlen upd
  split <;> simp
theorem tW {T:Tab} {f:Nat} {e:Ent}:((tlen (upd T f (T f++[e])) f:Nat):Int)=((T f).length:Int)+1:=by
  unfold tlen
  rw [bH,List.length_append]
  simp
theorem xO {T:Tab} {f t:Nat} {l:List Ent} (h:f≠t):tlen (upd T f l) t=tlen T t:=by unfold tlen;rw [bI _ _ (fun e=>h e.symm)]
theorem Df {T:Tab} {f t:Nat} {room:Int} {mv:Mv} (h:f≠t):joinT T f t room mv=upd (upd T f (T f++[⟨t,room,(T t).length,mv⟩])) t ((upd T f (T f++[⟨t,room,(T t).length,mv⟩])) t++[⟨f,0,(T f).length,Mv.none⟩]):=by
  unfold joinT
  rw [bI (i:=t) _ _ (fun e=>h e.symm)]
theorem oS {T:Tab} {f:Nat} {e:Ent} {vs:List Value} (h:∀ j,j<7→vs.getD j undef=e.cell j):∀ i k j,k<upd (tlen T) f (tlen T f+1) i→j<7 →
    upd (tcell T) f (capp (tlen T f) (tcell T f) (fun k' j=>([vs].getD k' []).getD j undef)) i k j=tcell (upd T f (T f++[e])) i k j:=by
  intro i k j hk hj
  by_cases hi:i=f
  · subst hi
    rw [bH] at hk ⊢
    unfold capp tcell
    rw [bH]
    unfold tlen at hk ⊢
    by_cases h1:k<(T i).length
    · rw [if_pos h1,List.getD_eq_getElem?_getD,List.getD_eq_getElem?_getD,List.getElem?_append_left h1]
    · have h2:k=(T i).length:=by omega
      subst h2
      rw [if_neg h1,Nat.sub_self]
      rw [List.getD_eq_getElem?_getD (l:=T i++[e]),List.getElem?_append_right (Nat.le_refl _),Nat.sub_self]
      exact h j hj
  · rw [bI _ _ hi] at hk ⊢
    unfold tcell
    rw [bI _ _ hi]
theorem Dg {T:Tab} {f:Nat} {e:Ent} {A:Nat→Option Addr} {c:Nat→Nat} {A1:Option Addr} {c1:Nat}:∀ k j,j<1→cput (hdc A (tlen T) c) f 0 (.slice A1 (tlen T f+1) c1) k j=hdc (upd A f A1) (tlen (upd T f (T f++[e]))) (upd c f c1) k j:=by
  intro k j hj
  have:j=0:=by omega
  subst this
  unfold cput hdc
  rw [←oR]
  by_cases h:k=f
  · subst h;simp [bH]
  · simp [bI _ _ h,h]
theorem tX {l:List Int} {x:Int} {k:Nat} (hk:k<l.length) (h:(l.take k).any (fun y=>decide (x=y))=false) (hx:¬ x=l.getD k 0):(l.take (k+1)).any (fun y=>decide (x=y))=false:=by
  rw [List.take_succ_eq_append_getElem hk,List.any_append,h]
  rw [List.getD_eq_getElem?_getD,List.getElem?_eq_getElem hk] at hx
  simpa using hx
theorem Dh {l:List Int} {x:Int} {k:Nat} (hk:k<l.length) (hx:x=l.getD k 0):hasI l x=true:=by
  rw [List.getD_eq_getElem?_getD,List.getElem?_eq_getElem hk] at hx
  unfold hasI
  rw [List.any_eq_true]
  exact ⟨l[k],List.getElem_mem hk,by simpa using hx⟩
theorem lO (T:Tab) (k nb:Nat) (pl tk:Int) (st1 st2:Value) (EA:Option Addr) (A:Nat→Option Addr) (c:Nat→Nat) (b x:Nat) (f t:Nat) (room m1 m2 m3 m4:Int) (w:World) (F:Nat→Prop) (S:St w F [boxM nb 141 [.int .i64 pl,st1,st2,.int .i64 tk,.slice EA k k,.int .i64 (b:Int),.int .i64 (x:Int)],ownM 155 1 EA k k (hdc A (tlen T) c),ragM 157 7 (fun q=>q<k) A (tlen T) c (tcell T)] w) (hf:f<k) (ht:t<k) (hft:f≠t) (hlen:∀ i,i<k→(T i).length≤1000000) :
    Calls Try.prog 74 [.pointer (some ⟨nb,0,none⟩),.int .i64 (f:Int),.int .i64 (t:Int),.int .i64 room,.agg [.int .i64 m1,.int .i64 m2,.int .i64 m3,.int .i64 m4].toArray].toArray w (Ret (fun u w'=>u = .tuple #[]∧∃ A' c',St w F [boxM nb 141 [.int .i64 pl,st1,st2,.int .i64 tk,.slice EA k k,.int .i64 (b:Int),.int .i64 (x:Int)],ownM 155 1 EA k k (hdc A' (tlen (joinT T f t room ⟨m1,m2,m3,m4⟩)) c'),ragM 157 7 (fun q=>q<k) A' (tlen (joinT T f t room ⟨m1,m2,m3,m4⟩)) c' (tcell (joinT T f t room ⟨m1,m2,m3,m4⟩))] w')):=by
 refine enter Try.func74 rfl Try.ntmps74 rfl (fun a H=>?_)
 skip
 refine aB fun K1 k1=>?_
 refine aS H rfl S G G ?_;clear H a S;intro b9 _ a hb9 hbw9 S H
 refine k1 _ _ ?_;clear k1 K1
 replace H:=H.keep [0,1,2,3,9] rfl
 replace S:=S.drew
 refine iM 27 (.p 0 (.p 1 (.p 2 (.q 3 (.p 4 (.p 5 (.p 6 (.p 7 (.q 8 (.p 9 (.p 10 (.q 11 (.p 12 (.p 13 (.p 14 (.p 15 (.p 16 (.q 17 (.p 18 (.p 19 (.q 20 (.p 21 (.q 22 (.p 23 (.e 24 (.e 25 (.p 26 (.e 27 .nil)))))))))))))))))))))))))))) (by kernel_rfl) (by kernel_rfl) (S.sel [0,1,2] G G) fun K2 k2=>?_
 refine aP H G G (fun _=>aT rfl) ?_;clear H a;intro a H
 refine aP H G G (fun _=>bD rfl) ?_;clear H a;intro a H
 refine aP H G G (fun _=>(aE dF rfl)) ?_;clear H a;intro a H
 refine aM H G G (fun _ S=>aG dX rfl (boxM.rd S (i:=1) G G)) ?_;clear H a;intro a H
 refine aP H G G (fun _=>aT rfl) ?_;clear H a;intro a H
 refine aP H G G (fun _=>aT rfl) ?_;clear H a;intro a H
 refine aP H G G (fun _=>bD rfl) ?_;clear H a;intro a H
 refine aP H G G (fun _=>(aE dF rfl)) ?_;clear H a;intro a H
 refine aM H G G (fun _ S=>aG dX rfl (boxM.rd S (i:=1) G G)) ?_;clear H a;intro a H
 refine aP H G G (fun _=>aT rfl) ?_;clear H a;intro a H
 refine aP H G G (fun _=>cH eO eN G G (ownM.adr S (i:=2) rfl (by omega)) (by omega)) ?_;clear H a;intro a H
 refine aM H G G (fun _ S=>aG gN rfl (ownM.rd S (i:=2) rfl (by omega) (by omega))) ?_;clear H a;intro a H
 refine aP H G G (fun _=>aT rfl) ?_;clear H a;intro a H
 refine aP H G G (fun _=>aT rfl) ?_;clear H a;intro a H
 refine aP H G G (fun _=>aT rfl) ?_;clear H a;intro a H
 refine aP H G G (fun _=>bD rfl) ?_;clear H a;intro a H
 refine aP H G G (fun _=>(aE dF rfl)) ?_;clear H a;intro a H
 refine aM H G G (fun _ S=>aG dX rfl (boxM.rd S (i:=1) G G)) ?_;clear H a;intro a H
 refine aP H G G (fun _=>aT rfl) ?_;clear H a;intro a H
 refine aP H G G (fun _=>cH eO eN G G (ownM.adr S (i:=2) rfl (by omega)) (by omega)) ?_;clear H a;intro a H
 refine aM H G G (fun _ S=>aG gN rfl (ownM.rd S (i:=2) rfl (by omega) (by omega))) ?_;clear H a;intro a H
 refine aP H G G (fun _=>dD fP rfl) ?_;clear H a;intro a H
 refine aM H G G (fun _ S=>(aC nG oC rfl S (i:=0) G G)) ?_;clear H a;intro a H
 refine aP H G G (fun _=>aO Cj G G) ?_;clear H a;intro a H
 refine aK rfl ?_
 refine aY H rfl S fP gV mH G G G G G G G G G ?_;clear H a S;intro A1 _ a hA1 S H
 refine wpList_nil (And.intro (Or.inr (S.sel [1,2,3] G G)) ?_)
 refine aK rfl ?_
 replace S:=ragM.pull S (i:=4) rfl hf
 refine cI H rfl S fP gV mH Cg G G (i:=0) G G G (ownM.inS S (i:=0+1) rfl) (oP (seven G G G G G G G)) (by have:=hlen f hf;have h9:tlen T f=(T f).length:=rfl;omega) (by have:=hlen f hf;have h9:tlen T f=(T f).length:=rfl;omega) ?_;clear H a S;intro Af cf _ a S H
 replace S:=ragM.put S (i:=4) (p:=f) rfl hf
 replace S:=ragM.congr S (i:=4) rfl (n':=tlen (upd T f (T f++[⟨t,room,(T t).length,⟨m1,m2,m3,m4⟩⟩]))) (cell':=tcell (upd T f (T f++[⟨t,room,(T t).length,⟨m1,m2,m3,m4⟩⟩]))) (fun _ _=>rfl) (fun q _=>oR q) (fun _ _=>rfl) (fun i _=>oS (seven G G G G G G G) i)
 refine wpList_nil (And.intro (Or.inr (S.sel [1,2,3] G G)) ?_)
 refine aP H G G (fun _=>cH eO eN G G (ownM.adr S (i:=3) rfl (by omega)) (by omega)) ?_;clear H a;intro a H
 refine aK rfl ?_
 refine bJ H S (i:=3) G G G (by omega) (by omega) eN rfl ?_
 clear H a S;intro _ a S H
 replace S:=S.recell (i:=3) rfl (cell':=hdc (upd A f Af) (tlen (upd T f (T f++[⟨t,room,(T t).length,⟨m1,m2,m3,m4⟩⟩]))) (upd c f cf)) (fun k j hk hj=>Dg k j hj)
 refine wpList_nil (And.intro (Or.inl rfl) ?_)
 refine bE ?_
 refine k2 _ _ ?_
 clear k2 K2
 replace H:=H.keep [0,1,2] rfl
 replace S:=S.drew
 refine qU 27 (.p 0 (.p 1 (.p 2 (.q 3 (.p 4 (.p 5 (.p 6 (.p 7 (.q 8 (.p 9 (.p 10 (.q 11 (.p 12 (.p 13 (.p 14 (.p 15 (.q 16 (.p 17 (.p 18 (.q 19 (.p 20 (.p 21 (.p 22 (.p 23 (.e 24 (.e 25 (.p 26 (.e 27 .nil)))))))))))))))))))))))))))) (by kernel_rfl) (by kernel_rfl) (S.sel [0,1,2,3] G G) ?_
 refine aP H G G (fun _=>aT rfl) ?_;clear H a;intro a H
 refine aP H G G (fun _=>bD rfl) ?_;clear H a;intro a H
 refine aP H G G (fun _=>(aE dF rfl)) ?_;clear H a;intro a H
 refine aM H G G (fun _ S=>aG dX rfl (boxM.rd S (i:=2) G G)) ?_;clear H a;intro a H
 refine aP H G G (fun _=>aT rfl) ?_;clear H a;intro a H
 refine aP H G G (fun _=>aT rfl) ?_;clear H a;intro a H
 refine aP H G G (fun _=>bD rfl) ?_;clear H a;intro a H
 refine aP H G G (fun _=>(aE dF rfl)) ?_;clear H a;intro a H
 refine aM H G G (fun _ S=>aG dX rfl (boxM.rd S (i:=2) G G)) ?_;clear H a;intro a H
 refine aP H G G (fun _=>aT rfl) ?_;clear H a;intro a H
 refine aP H G G (fun _=>cH eO eN G G (ownM.adr S (i:=3) rfl (by omega)) (by omega)) ?_;clear H a;intro a H
 refine aM H G G (fun _ S=>aG gN rfl (ownM.rd S (i:=3) rfl (by omega) (by omega))) ?_;clear H a;intro a H
 refine aP H G G (fun _=>aT rfl) ?_;clear H a;intro a H
 refine aP H G G (fun _=>aT rfl) ?_;clear H a;intro a H
 refine aP H G G (fun _=>bD rfl) ?_;clear H a;intro a H
 refine aP H G G (fun _=>(aE dF rfl)) ?_;clear H a;intro a H
 refine aM H G G (fun _ S=>aG dX rfl (boxM.rd S (i:=2) G G)) ?_;clear H a;intro a H
 refine aP H G G (fun _=>aT rfl) ?_;clear H a;intro a H
 refine aP H G G (fun _=>cH eO eN G G (ownM.adr S (i:=3) rfl (by omega)) (by omega)) ?_;clear H a;intro a H
 refine aM H G G (fun _ S=>aG gN rfl (ownM.rd S (i:=3) rfl (by omega) (by omega))) ?_;clear H a;intro a H
 refine aP H G G (fun _=>dD fP rfl) ?_;clear H a;intro a H
 refine aP H G G (fun _=>(bK G G (by rw [tW];have:=hlen f hf;unfold i64ok;omega)).to (v' := .int .i64 ((T f).length:Int)) (by rw [tW];congr 1;omega)) ?_;clear H a;intro a H
 refine aP H G G (fun _=>aO vN G G) ?_;clear H a;intro a H
 refine aP H G G (fun _=>aO Cj G G) ?_;clear H a;intro a H
 refine aK rfl ?_
 refine aY H rfl S fP gV mH G G G G G G G G G ?_;clear H a S;intro A2 _ a hA2 S H
 refine wpList_nil (And.intro (Or.inr (S.sel [1,2,3,4] G G)) ?_)
 refine aK rfl ?_
 replace S:=ragM.pull S (i:=5) rfl ht
 refine cI H rfl S fP gV mH Cg G G (i:=0) G G G (ownM.inS S (i:=0+1) rfl) (oP (seven G G G G G G G)) (by have:=hlen t ht;rw [xO hft];have h9:tlen T t=(T t).length:=rfl;omega) (by have:=hlen t ht;rw [xO hft];have h9:tlen T t=(T t).length:=rfl;omega) ?_;clear H a S;intro At ct _ a S H
 replace S:=ragM.put S (i:=5) (p:=t) rfl ht
 replace S:=ragM.congr S (i:=5) rfl (n':=tlen (upd (upd T f (T f++[⟨t,room,(T t).length,⟨m1,m2,m3,m4⟩⟩])) t ((upd T f (T f++[⟨t,room,(T t).length,⟨m1,m2,m3,m4⟩⟩])) t++[⟨f,0,(T f).length,Mv.none⟩]))) (cell':=tcell (upd (upd T f (T f++[⟨t,room,(T t).length,⟨m1,m2,m3,m4⟩⟩])) t ((upd T f (T f++[⟨t,room,(T t).length,⟨m1,m2,m3,m4⟩⟩])) t++[⟨f,0,(T f).length,Mv.none⟩]))) (fun _ _=>rfl) (fun q _=>oR q) (fun _ _=>rfl) (fun i _=>oS (seven G G G G G G G) i)
 refine wpList_nil (And.intro (Or.inr (S.sel [1,2,3,4] G G)) ?_)
 refine aP H G G (fun _=>cH eO eN G G (ownM.adr S (i:=4) rfl (by omega)) (by omega)) ?_;clear H a;intro a H
 refine aK rfl ?_
 refine bJ H S (i:=4) G G G (by omega) (by omega) eN rfl ?_
 clear H a S;intro _ a S H
 replace S:=S.recell (i:=4) rfl (cell':=hdc (upd (upd A f Af) t At) (tlen (upd (upd T f (T f++[⟨t,room,(T t).length,⟨m1,m2,m3,m4⟩⟩])) t ((upd T f (T f++[⟨t,room,(T t).length,⟨m1,m2,m3,m4⟩⟩])) t++[⟨f,0,(T f).length,Mv.none⟩]))) (upd (upd c f cf) t ct)) (fun k j hk hj=>Dg k j hj)
 refine wpList_nil (And.intro (Or.inl rfl) ?_)
 refine bE ?_
 refine ret0 (fn:=Try.f74) rfl H ?_
 rw [Df hft]
 exact ⟨rfl,_,_,(S.sel [3,4,5] G G)⟩
theorem rU (l:List Int) (A:Option Addr) (cp:Nat) (x:Int) (w:World) (hl:InS w noF 1 A l.length (icl l)) (hn:l.length≤9223372036854775807) :
    Calls Try.prog 57 [.slice A l.length cp,.int .i64 x].toArray w (Ret (fun u w'=>∃ n:Int,u = .int .i64 n∧decide (0≤n)=hasI l x∧St w noF [] w')):=by
 refine enter Try.func57 rfl Try.ntmps57 rfl (fun a H=>?_)
 have S:=St.start w
 refine sS H fun K1 k1=>sr 1 rfl<|sE ?_;clear H a;intro a H
 refine k1 _ ?_;clear k1 K1
 refine wp_seq_k fun K2 k2=>?_
 refine sS H fun K3 k3=>sr 1 rfl<|sL aN rfl<|sr 1 rfl<|sE ?_;clear H a;intro a H
 refine k3 _ ?_;clear k3 K3
 refine wp_block ?_
 refine loop_st (X:=Nat) (R0:=_) [0,1,7] H rfl (fun k=>[(8,.int .i64 (k:Int))]) (fun k=>[]) (fun g k=>k≤l.length∧g+k=l.length∧(l.take k).any (fun y=>decide (x=y))=false) (l.length) 0 ?_ (S.sel [] G G) (H.keep [8,0,1,7] rfl) ?_
 · exact ⟨by omega,by omega,rfl⟩
 clear H S a
 intro g1 x1 a w1 hp S H K4 k4
 obtain ⟨k,rfl⟩:∃ y,y=x1:=⟨_,rfl⟩
 refine sS H fun K5 k5=>sr 1 rfl<|sE ?_;clear H a;intro a H
 refine k5 _ ?_;clear k5 K5
 refine wp_seq_k fun K6 k6=>?_
 refine condL H rfl (fun hc1=>?_) (fun hc1=>?_)
 ·skip
  refine wp_skip ?_
  refine k6 _ _ ?_
  refine wp_seq_k fun K7 k7=>?_
  refine wp_block ?_
  refine sS H fun K8 k8=>sr 2 rfl<|sE ?_;clear H a;intro a H
  refine k8 _ ?_;clear k8 K8
  refine sS H fun K9 k9=>sr 3 rfl<|si aN aX G G (hl.adr (by omega)) (by omega)<|slm aF rfl (hl.rd S (by omega) (by omega))<|sr 1 rfl<|sE ?_;clear H a;intro a H
  refine k9 _ ?_;clear k9 K9
  refine condE H rfl (fun hc2=>?_) (fun hc2=>?_)
  ·skip
   replace H:=H.keep [5] rfl
   refine sS H fun K10 k10=>sr 2 rfl<|sE ?_;clear H a;intro a H
   refine k10 _ ?_;clear k10 K10
   refine wp_ret ?_
   refine ret1 (fn:=Try.f57) rfl H rfl ?_
   exact ⟨_,rfl,by rw [Dh (k:=k) (by omega) hc2];exact decide_eq_true (by omega),(S.sel [] G G)⟩
  refine wp_skip ?_
  refine k7 _ _ ?_
  refine sO H<|sd (aH G G (by unfold i64ok;omega))<|sr 1 rfl<|sE ?_;clear H a;intro a H
  exact k4 (g1-1) (k+1) a _ (by omega) (⟨by omega,by omega,tX (by omega) hp.2.2 hc2⟩) (S.sel [] G G) (H.keep [8,0,1,7] rfl)
 refine wp_exit ?_
 refine k2 _ _ ?_
 refine sS H fun K12 k12=>sr 1 rfl<|sE ?_;clear H a;intro a H
 refine k12 _ ?_;clear k12 K12
 refine wp_ret ?_
 refine ret1 (fn:=Try.f57) rfl H rfl ?_
 exact ⟨_,rfl,by unfold hasI;rw [←List.take_of_length_le (l:=l) (i:=k) (by omega),hp.2.2];rfl,(S.sel [] G G)⟩
theorem dG (l:List Int) (A:Option Addr) (cp:Nat) (x:Int) (w:World) (hl:InS w noF 1 A l.length (icl l)) (hn:l.length≤9223372036854775807) :
    Calls Try.prog 37 [.slice A l.length cp,.int .i64 x].toArray w (Ret (fun u w'=>u = .bool (hasI l x)∧St w noF [] w')):=by
 refine enter Try.func37 rfl Try.ntmps37 rfl (fun a H=>?_)
 have S:=St.start w
 refine sS H fun K1 k1=>sr 1 rfl<|sE ?_;clear H a;intro a H
 refine k1 _ ?_;clear k1 K1
 refine aB fun K2 k2=>?_
 refine ls 2 H<|sr 2 rfl<|sE ?_;clear H a;intro a H
 refine aA H G G Try.func57 G G (rU l A cp x _ (hl.now S) hn) ?_;clear H a
 rintro _ _ a ⟨n,rfl,hn2,S2⟩ H
 replace S:=S.call S2;clear S2
 refine ls 2 H<|sr 2 rfl<|sE ?_;clear H a;intro a H
 refine k2 _ _ ?_;clear k2 K2
 refine wp_ret ?_
 refine ret1 (fn:=Try.f37) rfl H rfl ?_
 exact ⟨congrArg Value.bool hn2,(S.sel [] G G)⟩
end
section
theorem pP (pl:Int) (ps:List Psg) (PA:Option Addr) (pc:Nat) (xs:List Int) (XA:Option Addr) (xc:Nat) (out:Int) (w:World) :
    Calls Try.prog 76 [.agg [.int .i64 pl,.slice PA ps.length pc,.slice XA xs.length xc].toArray,.int .i64 out].toArray w (Ret (fun u w'=>∃ b2 b3,u = .func (.func 83) #[] #[.pointer (some ⟨b2,0,none⟩),.pointer (some ⟨b3,0,none⟩)]∧St w noF [boxM b2 25 [.int .i64 pl,.slice PA ps.length pc,.slice XA xs.length xc],boxM b3 3 [.int .i64 out]] w')):=by
 refine enter Try.func76 rfl Try.ntmps76 rfl (fun a H=>?_)
 have S:=St.start w
 refine aB fun K1 k1=>?_
 refine aS H rfl S G G ?_;clear H a S;intro b2 _ a hb2 hbw2 S H
 refine aS H rfl S G G ?_;clear H a S;intro b3 _ a hb3 hbw3 S H
 refine ls 1 H<|sr 1 rfl<|sE ?_;clear H a;intro a H
 refine k1 _ _ ?_;clear k1 K1
 refine sS H fun K2 k2=>sr 2 rfl<|sE ?_;clear H a;intro a H
 refine k2 _ ?_;clear k2 K2
 refine wp_ret ?_
 refine ret1 (fn:=Try.f76) rfl H rfl ?_
 exact ⟨_,_,rfl,(S.sel [1,0] G G)⟩
theorem wC (pl:Int) (ps:List Psg) (PA:Option Addr) (pc:Nat) (xs:List Int) (XA:Option Addr) (xc:Nat) (out:Int) (b2 b3 l:Nat) (Jm:Nat→Mem→Prop) (m:Mem) (w:World) (F:Nat→Prop) (h0:Jm 0 m) (S:St w F [m,boxM b2 25 [.int .i64 pl,.slice PA ps.length pc,.slice XA xs.length xc],boxM b3 3 [.int .i64 out]] w) (hps:InS w F 7 PA ps.length (pcell ps)) (hpn:ps.length≤9223372036854775807) (hxs:InS w F 1 XA xs.length (icl xs)) (hxn:xs.length≤9223372036854775807) (hmv:∀ k,k<ps.length→(ps.getD k Psg.zero).kind=3→0≤(ps.getD k Psg.zero).mach∧(ps.getD k Psg.zero).mach≤11) (hout:0≤out) (hr:∀ i m' x w1,i<(hds out xs ps).length→Jm i m'→St w F [m',x] w1→Round Try.prog l (.agg (Hd.cells ((hds out xs ps).getD i Hd.zero)).toArray) Jm w F i x w1) :
    Calls Try.prog 83 [.func (.yield l) #[] #[],.pointer (some ⟨b2,0,none⟩),.pointer (some ⟨b3,0,none⟩)].toArray w (Ret (fun u w'=>∃ m',Jm (hds out xs ps).length m'∧St w F [m',boxM b2 25 [.int .i64 pl,.slice PA ps.length pc,.slice XA xs.length xc],boxM b3 3 [.int .i64 out]] w')):=by
 refine enter Try.func83 rfl Try.ntmps83 rfl (fun a H=>?_)
 skip
 refine sS H fun K1 k1=>sf fU rfl<|sl S 1 iO G G G<|sL iU rfl<|sr 1 rfl<|sE ?_;clear H a;intro a H
 refine k1 _ ?_;clear k1 K1
 refine wp_block ?_
 refine loop_st (X:=Nat×Mem) (R0:=_) [0,1,2,9,10] H rfl (fun ⟨k,m⟩=>[(11,.int .i64 (k:Int))]) (fun ⟨k,m⟩=>[m]) (fun g ⟨k,m⟩=>k≤ps.length∧g+k=ps.length∧Jm (hdsTo out xs ps k).length m) (ps.length) (0,m) ?_ (S.sel [0,1,2] G G) (H.keep [11,0,1,2,9,10] rfl) ?_
 · exact ⟨by omega,by omega,h0⟩
 clear H S a
 intro g1 x1 a w1 hp S H K2 k2
 obtain ⟨k,m⟩:=x1
 dsimp only at hp S H
 obtain ⟨hkl,hgk,hJ⟩:=hp
 refine sS H fun K3 k3=>sr 1 rfl<|sE ?_;clear H a;intro a H
 refine k3 _ ?_;clear k3 K3
 refine wp_seq_k fun K4 k4=>?_
 refine condL H rfl (fun hc1=>?_) (fun hc1=>?_)
 ·skip
  refine wp_skip ?_
  refine k4 _ _ ?_
  refine wp_seq_k fun K5 k5=>?_
  refine wp_block ?_
  refine aB fun K6 k6=>?_
  refine ls 3 H<|sr 1 rfl<|si iU gM G G (hps.adr (by omega)) (by omega)<|sd ((bG mF gM rfl S hps (by omega) (by omega)))<|sE ?_;clear H a;intro a H
  refine aJ H rfl S wX ?_;clear H a S;intro b5 _ a hb5 hbw5 S H
  refine ls 1 H<|sr 1 rfl<|sE ?_;clear H a;intro a H
  refine aD H S (i:=0) G G G G gM G G ?_
  clear H a S;intro _ a S H
  refine k6 _ _ ?_;clear k6 K6
  replace H:=H.keep [0,1,2,4,5,9,10,11] rfl
  refine sS H fun K7 k7=>sf nL rfl<|sl S 0 aF G G G<|sr 2 rfl<|sE ?_;clear H a;intro a H
  refine k7 _ ?_;clear k7 K7
  have SR:=(S.sel [0,1,2,3] G G)
  refine gK (X:=Int×Bool) [0,1,2,4,5,9,10,11] H rfl (fun ⟨tk,bk⟩=>[(6,.int .i64 tk),(7,.bool bk)]) (fun ⟨tk,bk⟩=>[]) (fun ⟨tk,bk⟩=>¬ (ps.getD k Psg.zero).kind=4∧tk=eQ out (ps.getD k Psg.zero)∧bk=iQ out (ps.getD k Psg.zero)) SR (fun K9 k9=>?_) ?_
  ·skip
   refine wp_block ?_
   refine sS H fun K10 k10=>sf dY rfl<|sl S 0 aF G G G<|sr 2 rfl<|sE ?_;clear H a;intro a H
   refine k10 _ ?_;clear k10 K10
   refine condE H rfl (fun hc2=>?_) (fun hc2=>?_)
   ·skip
    refine wp_exit ?_
    refine k5 _ _ ?_
    replace H:=H.keep [0,1,2,9,10,11] rfl
    refine sO H<|sd (aH G G (by unfold i64ok;omega))<|sr 1 rfl<|sE ?_;clear H a;intro a H
    exact k2 (g1-1) (k+1,_) a _ (by omega) (by first|exact ⟨by omega,by omega,(jH (out:=out) (xs:=xs) hc2).symm ▸ hJ⟩|exact ⟨by omega,by omega,by rw [fX hk4,hqB];exact hJ2⟩|exact ⟨by omega,by omega,by rw [fX hk4,hqB];exact hJ⟩) (S.sel [1,2,3] G G) (H.keep [11,0,1,2,9,10] rfl)
   replace H:=H.keep [0,1,2,4,5,6,7,9,10,11] rfl
   refine sS H fun K12 k12=>sf dY rfl<|sl S 0 aF G G G<|sr 2 rfl<|sg 6 3 26 32 true G G (fun hg4=>by
       have hq4:=hg4;try simp only [o1,o2,o3,o4,o5,o6,o7,o8,o9,oa] at hq4
       have hmk:=hmv k (by omega) hq4
       exact sy hg4<|sl S 3 aF G G G<|sy hg4<|sf dZ rfl<|sy hg4<|sl S 0 aF G G G<|sy hg4<|sd (gX G G (by omega) (by omega))<|sy hg4<|sd (fZ G G)<|sy hg4<|sr 1 rfl<|sz 6 G G G)<|sa G G G<|sr 1 rfl<|sE ?_;clear H a;intro a H
   refine k12 _ ?_;clear k12 K12
   refine aQ H rfl (fun hc3=>?_) (fun hc3=>?_)
   ·skip
    try simp only [o1,o2,o3,o4,o5,o6,o7,o8,o9,oa] at hc3
    replace H:=H.keep [0,1,2,4,5,6,9,10,11] rfl
    refine sO H<|sr 1 rfl<|sE ?_;clear H a;intro a H
    exact k9 ((ps.getD k Psg.zero).ticks,false) a _ (⟨hc2,by unfold eQ bitI;rw [if_neg (by omega)],Cl hc3⟩) (S.sel [0,1,2,3] G G) (H.keep [6,7,0,1,2,4,5,9,10,11] rfl)
   try simp only [o1,o2,o3,o4,o5,o6,o7,o8,o9,oa] at hc3
   refine sS H fun K14 k14=>sf dY rfl<|sl S 0 aF G G G<|sr 2 rfl<|sE ?_;clear H a;intro a H
   refine k14 _ ?_;clear k14 K14
   refine condE H rfl (fun hc4=>?_) (fun hc4=>?_)
   ·skip
    refine sO H<|sf gR rfl<|sl S 0 aF G G G<|sr 1 rfl<|sE ?_;clear H a;intro a H
    exact k9 ((ps.getD k Psg.zero).still,true) a _ (⟨hc2,by unfold eQ bitI;rw [if_pos (by omega)],tO hc3⟩) (S.sel [0,1,2,3] G G) (H.keep [6,7,0,1,2,4,5,9,10,11] rfl)
   refine wp_skip ?_
   exact k9 ((ps.getD k Psg.zero).ticks,true) a _ (⟨hc2,by unfold eQ;rw [if_neg (by omega)],tO hc3⟩) (S.sel [0,1,2,3] G G) (H.keep [6,7,0,1,2,4,5,9,10,11] rfl)
  clear SR H S a
  intro xm a wm hp S H
  obtain ⟨tk,bk⟩:=xm
  obtain ⟨hk4,rfl,rfl⟩:=hp
  have SR:=(S.sel [0,2,3] G G)
  refine gK (X:=Nat×Mem) [0,1,2,4,5,6,7,9,10,11] H rfl (fun ⟨q,m⟩=>[]) (fun ⟨q,m⟩=>[m]) (fun ⟨q,m⟩=>Jm q m∧q=(hdsTo out xs ps k).length+qA xs (ps.getD k Psg.zero)) SR (fun K17 k17=>?_) ?_
  ·skip
   cases hcA:hasI xs (ps.getD k Psg.zero).a
   ·skip
    replace H:=H.keep [0,1,2,4,5,6,7,9,10,11] rfl
    refine Bg fun K18 k18=>?_
    refine nF 17 ?_
    refine ls 4 H<|sf fJ rfl<|sl S 2 aZ G G G<|sf fL rfl<|sl S 0 aF G G G<|sE ?_;clear H a;intro a H
    refine aA H G G Try.func37 G G (dG xs XA xc _ _ (hxs.now S) hxn) ?_;clear H a
    rintro _ _ a ⟨rfl,S2⟩ H
    replace S:=S.call S2;clear S2
    first|rw [hcA] at H|rw [hcB] at H
    refine ls 12 H<|sr 2 rfl<|sy rfl<|sr 1 rfl<|sy rfl<|sr 1 rfl<|sy rfl<|sf fL rfl<|sy rfl<|sl S 0 aF G G G<|sy rfl<|sf fM rfl<|sy rfl<|sl S 0 aF G G G<|sy rfl<|sr 1 rfl<|sy rfl<|sf nM rfl<|sy rfl<|sl S 0 aF G G G<|sy rfl<|sd (aO Ci G G)<|sE ?_;clear H a;intro a H
    refine wpList_nil ?_
    refine Bh H G G G ?_
    have SY:=(St.pack (Ms:=[_,_,_]) (R:=[_]) (S.sel [0,2,3,1] G G)).sel [1,0] G G
    have hhd:=yX (out:=out) (xs:=xs) (show k<ps.length by omega) hk4 hcA
    refine tG H G G (v := .agg (Hd.cells ((hds out xs ps).getD ((hdsTo out xs ps k).length) Hd.zero)).toArray) (by rw [hhd.1];rfl) (hr _ _ _ _ hhd.2 hJ SY) (fun _ _ h=>h.1) ?_;clear H a
    rintro _ a ⟨_,m2,hJ2,S2⟩ H
    replace S:=St.unpack (S2.sel [1,0] G G);clear S2 SY
    refine nF 2 ?_
    refine ls 2 H<|sy rfl<|sr 1 rfl<|sa G G G<|sE ?_;clear H a;intro a H
    refine wpList_nil ?_
    refine k18 _ _ ?_;clear k18 K18
    refine aQ H rfl (fun hc5=>?_) (fun hc5=>?_)
    ·skip
     try simp only [o1,o2,o3,o4,o5,o6,o7,o8,o9,oa] at hc5
     exfalso;simp at hc5
    try simp only [o1,o2,o3,o4,o5,o6,o7,o8,o9,oa] at hc5
    refine wp_skip ?_
    exact k17 ((hdsTo out xs ps k).length+1,_) a _ (⟨hJ2,by unfold qA;rw [if_neg (by rw [hcA];simp)]⟩) (S.sel [3,0,1,2] G G) (H.keep [0,1,2,4,5,6,7,9,10,11] rfl)
   replace H:=H.keep [0,1,2,4,5,6,7,9,10,11] rfl
   refine aB fun K19 k19=>?_
   refine ls 4 H<|sf fJ rfl<|sl S 2 aZ G G G<|sf fL rfl<|sl S 0 aF G G G<|sE ?_;clear H a;intro a H
   refine aA H G G Try.func37 G G (dG xs XA xc _ _ (hxs.now S) hxn) ?_;clear H a
   rintro _ _ a ⟨rfl,S2⟩ H
   replace S:=S.call S2;clear S2
   first|rw [hcA] at H|rw [hcB] at H
   refine ls 15 H<|sr 2 rfl<|sn G G G<|sn G G G<|sn G G G<|sn G G G<|sn G G G<|sn G G G<|sn G G G<|sn G G G<|sn G G G<|sn G G G<|sn G G G<|sn G G G<|sd ((aV G G G))<|sE ?_;clear H a;intro a H
   refine k19 _ _ ?_;clear k19 K19
   refine aQ H rfl (fun hc6=>?_) (fun hc6=>?_)
   ·skip
    try simp only [o1,o2,o3,o4,o5,o6,o7,o8,o9,oa] at hc6
    exfalso;simp at hc6
   try simp only [o1,o2,o3,o4,o5,o6,o7,o8,o9,oa] at hc6
   refine wp_skip ?_
   exact k17 ((hdsTo out xs ps k).length,_) a _ (⟨hJ,by unfold qA;rw [if_pos hcA];rfl⟩) (S.sel [1,0,2,3] G G) (H.keep [0,1,2,4,5,6,7,9,10,11] rfl)
  clear SR H S a
  intro xm a wm hp S H
  obtain ⟨q,m⟩:=xm
  obtain ⟨hJ,rfl⟩:=hp
  rcases bk3 (iQ out (ps.getD k Psg.zero)) (hasI xs (ps.getD k Psg.zero).b) with hbk|⟨hbk,hcB⟩|⟨hbk,hcB⟩
  ·skip
   rw [hbk] at H
   have hqB:qB out xs (ps.getD k Psg.zero)=0:=by unfold qB;rw [hbk];rfl
   replace H:=H.keep [0,1,2,4,5,6,7,9,10,11] rfl
   refine aB fun K20 k20=>?_
   refine ls 23 H<|sr 2 rfl<|sn G G G<|sn G G G<|sn G G G<|sn G G G<|sn G G G<|sn G G G<|sd ((aV G G G))<|sr 1 rfl<|sn G G G<|sn G G G<|sn G G G<|sn G G G<|sn G G G<|sn G G G<|sn G G G<|sn G G G<|sn G G G<|sn G G G<|sn G G G<|sn G G G<|sd ((aV G G G))<|sE ?_;clear H a;intro a H
   refine k20 _ _ ?_;clear k20 K20
   refine aQ H rfl (fun hc7=>?_) (fun hc7=>?_)
   ·skip
    try simp only [o1,o2,o3,o4,o5,o6,o7,o8,o9,oa] at hc7
    exfalso;simp at hc7
   try simp only [o1,o2,o3,o4,o5,o6,o7,o8,o9,oa] at hc7
   refine wp_skip ?_
   refine k5 _ _ ?_
   replace H:=H.keep [0,1,2,9,10,11] rfl
   refine sO H<|sd (aH G G (by unfold i64ok;omega))<|sr 1 rfl<|sE ?_;clear H a;intro a H
   exact k2 (g1-1) (k+1,_) a _ (by omega) (by first|exact ⟨by omega,by omega,(jH (out:=out) (xs:=xs) hc2).symm ▸ hJ⟩|exact ⟨by omega,by omega,by rw [fX hk4,hqB];exact hJ2⟩|exact ⟨by omega,by omega,by rw [fX hk4,hqB];exact hJ⟩) (S.sel [0,2,3] G G) (H.keep [11,0,1,2,9,10] rfl)
  ·skip
   rw [hbk] at H
   have hqB:qB out xs (ps.getD k Psg.zero)=0:=by unfold qB;rw [hbk,hcB];rfl
   replace H:=H.keep [0,1,2,4,5,6,7,9,10,11] rfl
   refine aB fun K22 k22=>?_
   refine ls 6 H<|sr 2 rfl<|sy rfl<|sf fJ rfl<|sy rfl<|sl S 2 aZ G G G<|sy rfl<|sf fM rfl<|sy rfl<|sl S 1 aF G G G<|sE ?_;clear H a;intro a H
   refine bC H G G ?_
   refine aA H G G Try.func37 G G (dG xs XA xc _ _ (hxs.now S) hxn) ?_;clear H a
   rintro _ _ a ⟨rfl,S2⟩ H
   replace S:=S.call S2;clear S2
   first|rw [hcA] at H|rw [hcB] at H
   refine ls 16 H<|sy rfl<|sr 1 rfl<|sa G G G<|sr 1 rfl<|sn G G G<|sn G G G<|sn G G G<|sn G G G<|sn G G G<|sn G G G<|sn G G G<|sn G G G<|sn G G G<|sn G G G<|sn G G G<|sn G G G<|sd ((aV G G G))<|sE ?_;clear H a;intro a H
   refine k22 _ _ ?_;clear k22 K22
   refine aQ H rfl (fun hc8=>?_) (fun hc8=>?_)
   ·skip
    try simp only [o1,o2,o3,o4,o5,o6,o7,o8,o9,oa] at hc8
    exfalso;simp at hc8
   try simp only [o1,o2,o3,o4,o5,o6,o7,o8,o9,oa] at hc8
   refine wp_skip ?_
   refine k5 _ _ ?_
   replace H:=H.keep [0,1,2,9,10,11] rfl
   refine sO H<|sd (aH G G (by unfold i64ok;omega))<|sr 1 rfl<|sE ?_;clear H a;intro a H
   exact k2 (g1-1) (k+1,_) a _ (by omega) (by first|exact ⟨by omega,by omega,(jH (out:=out) (xs:=xs) hc2).symm ▸ hJ⟩|exact ⟨by omega,by omega,by rw [fX hk4,hqB];exact hJ2⟩|exact ⟨by omega,by omega,by rw [fX hk4,hqB];exact hJ⟩) (S.sel [0,2,3] G G) (H.keep [11,0,1,2,9,10] rfl)
  rw [hbk] at H
  have hqB:qB out xs (ps.getD k Psg.zero)=1:=by unfold qB;rw [hbk,hcB];rfl
  replace H:=H.keep [0,1,2,4,5,6,7,9,10,11] rfl
  refine Bg fun K24 k24=>?_
  refine nF 20 ?_
  refine ls 6 H<|sr 2 rfl<|sy rfl<|sf fJ rfl<|sy rfl<|sl S 2 aZ G G G<|sy rfl<|sf fM rfl<|sy rfl<|sl S 1 aF G G G<|sE ?_;clear H a;intro a H
  refine bC H G G ?_
  refine aA H G G Try.func37 G G (dG xs XA xc _ _ (hxs.now S) hxn) ?_;clear H a
  rintro _ _ a ⟨rfl,S2⟩ H
  replace S:=S.call S2;clear S2
  first|rw [hcA] at H|rw [hcB] at H
  refine ls 13 H<|sy rfl<|sr 1 rfl<|sa G G G<|sr 1 rfl<|sy rfl<|sr 1 rfl<|sy rfl<|sr 1 rfl<|sy rfl<|sf fM rfl<|sy rfl<|sl S 1 aF G G G<|sy rfl<|sf fL rfl<|sy rfl<|sl S 1 aF G G G<|sy rfl<|sr 1 rfl<|sy rfl<|sf nM rfl<|sy rfl<|sl S 1 aF G G G<|sy rfl<|sd (aO Ci G G)<|sE ?_;clear H a;intro a H
  refine wpList_nil ?_
  refine Bh H G G G ?_
  have SY:=(St.pack (Ms:=[_,_,_]) (R:=[_]) (S.sel [1,2,3,0] G G)).sel [1,0] G G
  have hhd:=vR (out:=out) (xs:=xs) (show k<ps.length by omega) hk4 (by rw [hbk,hcB];rfl)
  refine tG H G G (v := .agg (Hd.cells ((hds out xs ps).getD ((hdsTo out xs ps k).length+qA xs (ps.getD k Psg.zero)) Hd.zero)).toArray) (by rw [hhd.1];rfl) (hr _ _ _ _ hhd.2 hJ SY) (fun _ _ h=>h.1) ?_;clear H a
  rintro _ a ⟨_,m2,hJ2,S2⟩ H
  replace S:=St.unpack (S2.sel [1,0] G G);clear S2 SY
  refine nF 2 ?_
  refine ls 2 H<|sy rfl<|sr 1 rfl<|sa G G G<|sE ?_;clear H a;intro a H
  refine wpList_nil ?_
  refine k24 _ _ ?_;clear k24 K24
  refine aQ H rfl (fun hc9=>?_) (fun hc9=>?_)
  ·skip
   try simp only [o1,o2,o3,o4,o5,o6,o7,o8,o9,oa] at hc9
   exfalso;simp at hc9
  try simp only [o1,o2,o3,o4,o5,o6,o7,o8,o9,oa] at hc9
  refine wp_skip ?_
  refine k5 _ _ ?_
  replace H:=H.keep [0,1,2,9,10,11] rfl
  refine sO H<|sd (aH G G (by unfold i64ok;omega))<|sr 1 rfl<|sE ?_;clear H a;intro a H
  exact k2 (g1-1) (k+1,_) a _ (by omega) (by first|exact ⟨by omega,by omega,(jH (out:=out) (xs:=xs) hc2).symm ▸ hJ⟩|exact ⟨by omega,by omega,by rw [fX hk4,hqB];exact hJ2⟩|exact ⟨by omega,by omega,by rw [fX hk4,hqB];exact hJ⟩) (S.sel [3,1,2] G G) (H.keep [11,0,1,2,9,10] rfl)
 refine wp_exit ?_
 refine ret0 (fn:=Try.f83) rfl H ?_
 have hkn:k=ps.length:=by omega
 subst hkn
 exact ⟨_,hJ,(S.sel [0,1,2] G G)⟩
end
section
theorem iH (P T:Nat) (ps:List Psg) (PA:Option Addr) (pc:Nat) (xs:List Int) (XA:Option Addr) (xc:Nat) (b31:Nat) (EA:Option Addr) (p t:Nat) (w:World) (F:Nat→Prop) (S:St w F [boxM b31 141 [.int .i64 (P:Int),.slice PA ps.length pc,.slice XA xs.length xc,.int .i64 (T:Int),.slice EA ((P*(T+1))+2) ((P*(T+1))+2),.int .i64 (((P*(T+1)):Nat):Int),.int .i64 (((P*(T+1))+1:Nat):Int)]] w) (hp:p≤100000) (ht:t≤100000) (hP:P≤1000) :
    Calls Try.prog 75 [.pointer (some ⟨b31,0,none⟩),.int .i64 (p:Int),.int .i64 (t:Int)].toArray w (Ret fun u w'=>u = .int .i64 ((nd P t p:Nat):Int)∧St w F [boxM b31 141 [.int .i64 (P:Int),.slice PA ps.length pc,.slice XA xs.length xc,.int .i64 (T:Int),.slice EA ((P*(T+1))+2) ((P*(T+1))+2),.int .i64 (((P*(T+1)):Nat):Int),.int .i64 (((P*(T+1))+1:Nat):Int)]] w'):=by
  have hb:P*t≤1000*100000:=Nat.mul_le_mul hP ht
  have hb2:((P*t:Nat):Int)=(P:Int)*(t:Int):=Int.natCast_mul P t
  have h:=Dc ⟨(P*(T+1))+2,fun _=>0,fun _ _=>0,fun _ _=>0⟩ (fun _ _=>0) (fun _ _=>Mv.zero) b31 (P:Int) (T:Int) _ _ EA (fun _=>none) (fun _=>0) (P*(T+1)) ((P*(T+1))+1) (p:Int) (t:Int) w F S (by omega) (by unfold i64ok;omega) (by unfold i64ok;omega)
  refine mM h fun v w' h=>⟨h.1.trans ?_,h.2⟩
  unfold nd
  rw [Int.natCast_add,hb2]
def JG (P T:Nat) (J:List Jn) (n:Nat):Prop:=(∀ j ∈ J,JOk P T j)∧J.length≤n
theorem JG.snoc {P T n:Nat} {J:List Jn} {j:Jn} (h:JG P T J n) (hj:JOk P T j):JG P T (J++[j]) (n+1):=
  ⟨fun x hx=>by
    rcases List.mem_append.1 hx with hx|hx
    · exact h.1 x hx
    · rw [List.mem_singleton.1 hx];exact hj,by have:=h.2;simp;omega⟩
theorem JG.len {P T n:Nat} {J:List Jn} (h:JG P T J n) (hn:n≤1000000):∀ i,i<(P*(T+1))+2→(joins J i).length≤1000000:=fun i _=>Nat.le_trans (yY J (fun j hj=>(h.1 j hj).1) i) (Nat.le_trans h.2 hn)
theorem JG.places {P T p:Nat} {pe xs:List Int} (hp:p≤P):JG P T (aW P T pe xs p) (p*(2*T+2)):=⟨kO hp,mX p⟩
theorem oT {P p t:Nat} {A:List Jn} {b:Jn}:A++(b::cA P p (t+1))=(A++(b::cA P p t))++[jWait P p t]:=by unfold cA;rw [kN];simp
theorem oU {P T p t:Nat} {A B:List Jn} {b:Jn}:A++(b::(B++dC P T p (t+1)))=(A++(b::(B++dC P T p t)))++[jExit P T p t]:=by unfold dC;rw [kN];simp
theorem oV {P t:Nat} {h:Hd} {A:List Jn}:A++eH P h (t+1)=(A++eH P h t)++[jHead P h t]:=by unfold eH;rw [kN];simp
theorem Di {P T p:Nat} {A:List Jn} {b:Jn}:A++(b::cA P p T)=A++(b::(cA P p T++dC P T p 0)):=by rw [show dC P T p 0=[] from rfl,List.append_nil]
theorem Dj {P:Nat} {h:Hd} {A:List Jn}:A=A++eH P h 0:=(List.append_nil A).symm
theorem Jg {P T:Nat} {hs:List Hd} {A:List Jn}:A=A++cP P T hs 0:=(List.append_nil A).symm
theorem Dk {P T p:Nat} {pe xs:List Int} (h:hasI xs p=false):aW P T pe xs p++(jBeg P T pe p::cA P p T)=aW P T pe xs (p+1):=by
  rw [aW,gF,if_neg (by rw [h];simp),List.append_nil]
theorem qH {P T p:Nat} {pe xs:List Int} (h:hasI xs p=true):aW P T pe xs p++(jBeg P T pe p::(cA P p T++dC P T p (T+1)))=aW P T pe xs (p+1):=by
  rw [aW,gF,if_pos h]
theorem qI (P T:Nat) (ps:List Psg) (PA:Option Addr) (pc:Nat) (xs:List Int) (XA:Option Addr) (xc:Nat) (b31:Nat) (EA:Option Addr) (p:Int) (t:Nat) (w:World) (F:Nat→Prop) (S:St w F [boxM b31 141 [.int .i64 (P:Int),.slice PA ps.length pc,.slice XA xs.length xc,.int .i64 (T:Int),.slice EA ((P*(T+1))+2) ((P*(T+1))+2),.int .i64 (((P*(T+1)):Nat):Int),.int .i64 (((P*(T+1))+1:Nat):Int)]] w) (hp:0≤p∧p≤100000) (ht:t≤100000) (hP:P≤1000) :
    Calls Try.prog 75 [.pointer (some ⟨b31,0,none⟩),.int .i64 p,.int .i64 (t:Int)].toArray w (Ret fun u w'=>u = .int .i64 ((nd P t p.toNat:Nat):Int)∧St w F [boxM b31 141 [.int .i64 (P:Int),.slice PA ps.length pc,.slice XA xs.length xc,.int .i64 (T:Int),.slice EA ((P*(T+1))+2) ((P*(T+1))+2),.int .i64 (((P*(T+1)):Nat):Int),.int .i64 (((P*(T+1))+1:Nat):Int)]] w'):=by
  have h:=iH P T ps PA pc xs XA xc b31 EA p.toNat t w F S (by omega) ht hP
  rw [Int.toNat_of_nonneg hp.1] at h
  exact h
theorem Dl:∀ k j,j<1→[Value.slice none 0 0].getD j undef=hdc (fun _=>none) (tlen (joins [])) (fun _=>0) k j:=by
  intro k j hj
  have:j=0:=by omega
  subst this;rfl
theorem Dm (P T:Nat) (ps:List Psg) (PA:Option Addr) (pc:Nat) (xs:List Int) (XA:Option Addr) (xc:Nat) (out:Int) (pe:List Int) (BA:Option Addr) (bc:Nat) (w:World) (hps:InS w noF 7 PA ps.length (pcell ps)) (hpn:ps.length≤9223372036854775807) (hxs:InS w noF 1 XA xs.length (icl xs)) (hxn:xs.length≤9223372036854775807) (hmv:∀ k,k<ps.length→(ps.getD k Psg.zero).kind=3→0≤(ps.getD k Psg.zero).mach∧(ps.getD k Psg.zero).mach≤11) (hout:0≤out) (hpe:InS w noF 1 BA pe.length (icl pe)) (hpl:pe.length=P) (hP:1≤P∧P≤10) (hT:T≤60) (hpn8:ps.length≤24) (hhd:∀ i,i<(hds out xs ps).length→HdOk P ((hds out xs ps).getD i Hd.zero)) :
    Calls Try.prog 61 [.agg [.int .i64 (P:Int),.slice PA ps.length pc,.slice XA xs.length xc].toArray,.int .i64 out,.slice BA pe.length bc,.int .i64 (T:Int)].toArray w (Ret (fun u w'=>∃ b31 EA A' c',u = .pointer (some ⟨b31,0,none⟩)∧St w noF [boxM b31 141 [.int .i64 (P:Int),.slice PA ps.length pc,.slice XA xs.length xc,.int .i64 (T:Int),.slice EA ((P*(T+1))+2) ((P*(T+1))+2),.int .i64 (((P*(T+1)):Nat):Int),.int .i64 (((P*(T+1))+1:Nat):Int)],ownM 155 1 EA ((P*(T+1))+2) ((P*(T+1))+2) (hdc A' (tlen (joins (jAll P T pe xs (hds out xs ps)))) c'),ragM 157 7 (fun q=>q<(P*(T+1))+2) A' (tlen (joins (jAll P T pe xs (hds out xs ps)))) c' (tcell (joins (jAll P T pe xs (hds out xs ps))))] w')):=by
 have hC:P*(T+1)≤10*61:=Nat.mul_le_mul (by omega) (by omega)
 have hC2:((P*(T+1):Nat):Int)=(P:Int)*((T:Int)+1):=by rw [Int.natCast_mul];rfl
 refine Hy Try.func61 rfl Try.ntmps61 rfl (fun a H=>?_)
 have S:=St.start w
 refine aB fun K1 k1=>?_
 refine aS H rfl S G G ?_;clear H a S;intro b4 _ a hb4 hbw4 S H
 refine aS H rfl S G G ?_;clear H a S;intro b7 _ a hb7 hbw7 S H
 refine ls 1 H<|sr 1 rfl<|sE ?_;clear H a;intro a H
 refine k1 _ _ ?_;clear k1 K1
 refine sS H fun K2 k2=>sf cS rfl<|sl S 1 aF G G G<|sl S 0 aF G G G<|sd (aH G G (by unfold i64ok;omega))<|sd ((iV G G (by rw [←hC2];unfold i64ok;omega)).to (v' := .int .i64 ((P*(T+1):Nat):Int)) (by rw [hC2]))<|sr 1 rfl<|sE ?_;clear H a;intro a H
 refine k2 _ ?_;clear k2 K2
 have SR:=(S.sel [0,1] G G)
 refine gK (X:=Nat×Nat×Option Addr) [1,2,4,7] H rfl (fun ⟨b10,b31,EA⟩=>[(10,.pointer (some ⟨b10,0,none⟩))]) (fun ⟨b10,b31,EA⟩=>[boxM b10 128 [.pointer (some ⟨b31,0,none⟩)],boxM b31 141 [.int .i64 (P:Int),.slice PA ps.length pc,.slice XA xs.length xc,.int .i64 (T:Int),.slice EA ((P*(T+1))+2) ((P*(T+1))+2),.int .i64 (((P*(T+1)):Nat):Int),.int .i64 (((P*(T+1))+1:Nat):Int)],ownM 155 1 EA ((P*(T+1))+2) ((P*(T+1))+2) (hdc (fun _=>none) (tlen (joins [])) (fun _=>0))]) (fun ⟨b10,b31,EA⟩=>True) SR (fun K3 k3=>?_) ?_
 ·skip
  replace H:=H.keep [1,2,4,7,9] rfl
  replace S:=S.drew
  refine qU 999 (.q 0 (.q 1 (.q 2 (.q 3 (.q 5 (.q 6 (.q 7 (.b2 4 (.q 8 (.b2 9 (.e 10 (.e 11 .nil)) 10 (.e 9 (.e 11 .nil)))) 10 (.e 4 (.q 8 (.e 9 (.e 11 .nil)))))))))))) (by kernel_rfl) (by kernel_rfl) (S.sel [0,1] G G) ?_
  refine aM H G G (fun _ S=>(aC cN dI rfl S (i:=1) G G)) ?_;clear H a;intro a H
  refine aM H G G (fun _ S=>aG aF rfl (boxM.rd S (i:=0) G G)) ?_;clear H a;intro a H
  refine aM H G G (fun _ S=>aT rfl) ?_;clear H a;intro a H
  refine aM H G G (fun _ S=>(aH G G (by unfold i64ok;omega)).to (v' := .int .i64 ((P*(T+1)+2:Nat):Int)) rfl) ?_;clear H a;intro a H
  refine aM H G G (fun _ S=>aT rfl) ?_;clear H a;intro a H
  refine aM H G G (fun _ S=>aT rfl) ?_;clear H a;intro a H
  refine aM H G G (fun _ S=>(aH G G (by unfold i64ok;omega)).to (v' := .int .i64 ((P*(T+1)+1:Nat):Int)) rfl) ?_;clear H a;intro a H
  refine cZ G G ?_ ?_
  ·skip
   refine fA (n:=P*(T+1)+2) H rfl S eO eN Ce Cf rfl (by decide) G G (by omega) (by omega) ?_;clear H a S;intro A1 _ a hA1 S H
   replace S:=S.recell (i:=0) rfl (cell':=hdc (fun _=>none) (tlen (joins [])) (fun _=>0)) (fun k j _ hj=>Dl k j hj)
   refine wpList_nil (And.intro (Or.inr (S.sel [1,2] G G)) ?_)
   refine aM H G G (fun _ S=>aO Ch G G) ?_;clear H a;intro a H
   refine cZ G G ?_ ?_
   ·skip
    refine aS H rfl S G G ?_;clear H a S;intro b31 _ a hb31 hbw31 S H
    refine wpList_nil (And.intro (Or.inr (S.sel [2,3] G G)) ?_)
    refine aK rfl ?_
    refine aJ H rfl S vM ?_;clear H a S;intro b10 _ a hb10 hbw10 S H
    refine wpList_nil (And.intro (Or.inr (S.sel [3,4] G G)) ?_)
    refine aK rfl ?_
    refine aD H S (i:=0) G G G G vJ G G ?_
    clear H a S;intro _ a S H
    refine wpList_nil (And.intro (Or.inr (S.sel [3,4] G G)) ?_)
    refine bE ?_
    exact k3 (b10,b31,_) a _ (trivial) (S.sel [0,1,2,3,4] G G) (H.keep [10,1,2,4,7] rfl)
   ·skip
    refine aJ H rfl S vM ?_;clear H a S;intro b10 _ a hb10 hbw10 S H
    refine wpList_nil (And.intro (Or.inr (S.sel [2,3] G G)) ?_)
    refine aK rfl ?_
    refine aS H rfl S G G ?_;clear H a S;intro b31 _ a hb31 hbw31 S H
    refine wpList_nil (And.intro (Or.inr (S.sel [3,4] G G)) ?_)
    refine aK rfl ?_
    refine aD H S (i:=1) G G G G vJ G G ?_
    clear H a S;intro _ a S H
    refine wpList_nil (And.intro (Or.inr (S.sel [3,4] G G)) ?_)
    refine bE ?_
    exact k3 (b10,b31,_) a _ (trivial) (S.sel [1,0,2,3,4] G G) (H.keep [10,1,2,4,7] rfl)
  ·skip
   refine aJ H rfl S vM ?_;clear H a S;intro b10 _ a hb10 hbw10 S H
   refine wpList_nil (And.intro (Or.inr (S.sel [1,2] G G)) ?_)
   refine aK rfl ?_
   refine fA (n:=P*(T+1)+2) H rfl S eO eN Ce Cf rfl (by decide) G G (by omega) (by omega) ?_;clear H a S;intro A2 _ a hA2 S H
   replace S:=S.recell (i:=0) rfl (cell':=hdc (fun _=>none) (tlen (joins [])) (fun _=>0)) (fun k j _ hj=>Dl k j hj)
   refine wpList_nil (And.intro (Or.inr (S.sel [2,3] G G)) ?_)
   refine aM H G G (fun _ S=>aO Ch G G) ?_;clear H a;intro a H
   refine aK rfl ?_
   refine aS H rfl S G G ?_;clear H a S;intro b31 _ a hb31 hbw31 S H
   refine wpList_nil (And.intro (Or.inr (S.sel [3,4] G G)) ?_)
   refine aK rfl ?_
   refine aD H S (i:=2) G G G G vJ G G ?_
   clear H a S;intro _ a S H
   refine wpList_nil (And.intro (Or.inr (S.sel [3,4] G G)) ?_)
   refine bE ?_
   exact k3 (b10,b31,_) a _ (trivial) (S.sel [2,0,1,3,4] G G) (H.keep [10,1,2,4,7] rfl)
 clear SR H S a
 intro xm a wm hp S H
 obtain ⟨b10,b31,EA⟩:=xm
 replace H:=H.keep [1,2,4,7,10] rfl
 refine aB fun K5 k5=>?_
 refine ls 1 H<|sd (aO vN G G)<|sE ?_;clear H a;intro a H
 refine aJ H rfl S Cc ?_;clear H a S;intro b11 _ a hb11 hbw11 S H
 refine aD H S (i:=0) G G G G oC G G ?_
 clear H a S;intro _ a S H
 refine k5 _ _ ?_;clear k5 K5
 refine wp_seq_k fun K6 k6=>?_
 refine sS H fun K7 k7=>sf cS rfl<|sl S 5 aF G G G<|sr 1 rfl<|sE ?_;clear H a;intro a H
 refine k7 _ ?_;clear k7 K7
 refine wp_block ?_
 replace S:=ragM.zero S 157 7 (fun q=>q<P*(T+1)+2) (tcell (joins []))
 refine loop_st (X:=Nat×(Nat→Option Addr)×(Nat→Nat)) (R0:=_) [1,2,4,7,10,11,34] H rfl (fun ⟨p,A',c'⟩=>[(35,.int .i64 (p:Int))]) (fun ⟨p,A',c'⟩=>[ownM 155 1 EA ((P*(T+1))+2) ((P*(T+1))+2) (hdc A' (tlen (joins (aW P T pe xs p))) c'),ragM 157 7 (fun q=>q<(P*(T+1))+2) A' (tlen (joins (aW P T pe xs p))) c' (tcell (joins (aW P T pe xs p)))]) (fun g ⟨p,A',c'⟩=>p≤P∧g+p=P) (P) (0,_,_) ?_ (S.sel [4,0,1,2,3,5,6] G G) (H.keep [35,1,2,4,7,10,11,34] rfl) ?_
 · exact ⟨by omega,by omega⟩
 clear H S a
 intro g1 x1 a w1 hp S H K8 k8
 obtain ⟨p,A',c'⟩:=x1
 dsimp only at hp S H
 refine sS H fun K9 k9=>sr 1 rfl<|sE ?_;clear H a;intro a H
 refine k9 _ ?_;clear k9 K9
 refine wp_seq_k fun K10 k10=>?_
 refine condL H rfl (fun hc1=>?_) (fun hc1=>?_)
 ·skip
  refine wp_skip ?_
  refine k10 _ _ ?_
  refine wp_seq_k fun K11 k11=>?_
  refine wp_block ?_
  refine sS H fun K12 k12=>sr 2 rfl<|sE ?_;clear H a;intro a H
  refine k12 _ ?_;clear k12 K12
  have hpP:p<P:=by omega
  have hb1:p*(2*T+2)≤10*122:=Nat.mul_le_mul (by omega) (by omega)
  have hG:=JG.places (T:=T) (pe:=pe) (xs:=xs) (Nat.le_of_lt hpP)
  have hlen9:=hG.len (by omega)
  replace H:=H.keep [1,2,4,7,10,11,12,34,35] rfl
  replace S:=S.drew
  refine cD [(0,true),(1,true),(2,true),(3,true),(4,true),(5,true),(6,true),(8,true),(9,true),(10,true),(11,true),(12,true),(7,false),(13,false)] (by kernel_rfl) (by kernel_rfl) (S.sel [2,3,4,5,6] G G) fun K13 k13=>?_
  refine qF H<|qd rfl (fun _ S=>aG dO rfl (boxM.rd S (i:=1) G G))<|qd rfl (fun _ S=>aG dO rfl (boxM.rd S (i:=1) G G))<|qr 1 rfl<|qd rfl (fun _ S=>(aE lK rfl))<|qd rfl (fun _ S=>aG aF rfl (boxM.rd S (i:=2) G G))<|qd rfl (fun _ S=>aG dO rfl (boxM.rd S (i:=1) G G))<|qr 3 rfl<|qd rfl (fun _ S=>cH aN aX G G (hpe.adr (by omega)) (by omega))<|qd rfl (fun _ S=>aG aF rfl (hpe.rd S (by omega) (by omega)))<|qd rfl (fun _ S=>(aC nG oC rfl S (i:=0) G G))<|qK ?_;clear H a;intro a H
  refine aU rfl ?_
  have S1:=(S.sel [4] G G)
  refine aA H G G Try.func75 G G (iH P T ps PA pc xs XA xc b31 EA p 0 _ _ S1.startR (by omega) (by omega) (by omega)) ?_;clear H a
  rintro _ _ a ⟨rfl,S2⟩ H
  replace S:=(S.sel [4,0,1,2,3,5,6] G G).callR (M:=[_]) S2;clear S1 S2
  refine wpList_nil (And.intro (S.sel [3,4,0,5,6] G G) ?_)
  refine aU rfl ?_
  have S1:=(S.sel [0,1,2] G G)
  refine aA H G G Try.func74 G G (lO (joins (aW P T pe xs p)) ((P*(T+1))+2) b31 (P:Int) (T:Int) _ _ EA A' c' (P*(T+1)) ((P*(T+1))+1) (P*(T+1)) (nd P 0 p) (pe.getD p 0) (-1) 0 0 0 _ _ S1.startR ((lN (T:=T) (pe:=pe) hpP)).2.1 ((lN (T:=T) (pe:=pe) hpP)).2.2 ((lN (T:=T) (pe:=pe) hpP)).1 hlen9) ?_;clear H a
  rintro _ _ a ⟨rfl,A2,c2,S2⟩ H
  replace S:=(S.sel [0,1,2,3,4,5,6] G G).callR (M:=[_,_,_]) S2;clear S1 S2
  have e9:joinT (joins (aW P T pe xs p)) (P*(T+1)) (nd P 0 p) (pe.getD p 0) ⟨-1,0,0,0⟩=joins ((aW P T pe xs p)++[jBeg P T pe p]):=(fD (aW P T pe xs p) (jBeg P T pe p)).symm
  rw [e9] at S
  refine wpList_nil (And.intro (S.sel [3,4,0,5,6] G G) ?_)
  refine bV ?_
  refine k13 _ _ ?_
  clear k13 K13
  refine wp_seq_k fun K14 k14=>?_
  replace H:=H.keep [1,2,4,7,10,11,12,34,35] rfl
  refine sS H fun K15 k15=>sl S 5 aF G G G<|sr 1 rfl<|sE ?_;clear H a;intro a H
  refine k15 _ ?_;clear k15 K15
  refine wp_block ?_
  refine loop_st (X:=Nat×(Nat→Option Addr)×(Nat→Nat)) (R0:=_) [1,2,4,7,10,11,12,34,35,52] H rfl (fun ⟨t,A',c'⟩=>[(53,.int .i64 (t:Int))]) (fun ⟨t,A',c'⟩=>[ownM 155 1 EA ((P*(T+1))+2) ((P*(T+1))+2) (hdc A' (tlen (joins ((aW P T pe xs p)++(jBeg P T pe p::cA P p t)))) c'),ragM 157 7 (fun q=>q<(P*(T+1))+2) A' (tlen (joins ((aW P T pe xs p)++(jBeg P T pe p::cA P p t)))) c' (tcell (joins ((aW P T pe xs p)++(jBeg P T pe p::cA P p t))))]) (fun g ⟨t,A',c'⟩=>t≤T∧g+t=T∧JG P T ((aW P T pe xs p)++(jBeg P T pe p::cA P p t)) (p*(2*T+2)+1+t)) (T) (0,_,_) ?_ (S.sel [1,2,0,3,4,5,6] G G) (H.keep [53,1,2,4,7,10,11,12,34,35,52] rfl) ?_
  · exact ⟨by omega,by omega,hG.snoc (lN hpP)⟩
  clear H S a
  intro g2 x2 a w2 hp S H K16 k16
  obtain ⟨t,A',c'⟩:=x2
  dsimp only at hp S H
  obtain ⟨htl,hgt,hG2⟩:=hp
  refine sS H fun K17 k17=>sr 1 rfl<|sE ?_;clear H a;intro a H
  refine k17 _ ?_;clear k17 K17
  refine wp_seq_k fun K18 k18=>?_
  refine condL H rfl (fun hc2=>?_) (fun hc2=>?_)
  ·skip
   refine wp_skip ?_
   refine k18 _ _ ?_
   refine wp_seq_k fun K19 k19=>?_
   refine wp_block ?_
   refine sS H fun K20 k20=>sr 2 rfl<|sE ?_;clear H a;intro a H
   refine k20 _ ?_;clear k20 K20
   have htT:t<T:=by omega
   have hlen9:=hG2.len (by omega)
   replace H:=H.keep [1,2,4,7,10,11,12,13,34,35,52,53] rfl
   replace S:=S.drew
   refine one_wq [(0,true),(1,true),(2,true),(3,true),(5,true),(6,true),(7,true),(8,true),(10,true),(4,false),(9,false),(11,false)] (by kernel_rfl) (by kernel_rfl) (S.sel [2,3,4,5,6] G G) ?_
   refine qF H<|qd rfl (fun _ S=>aG dO rfl (boxM.rd S (i:=2) G G))<|qd rfl (fun _ S=>aG dO rfl (boxM.rd S (i:=2) G G))<|qr 2 rfl<|qd rfl (fun _ S=>aG dO rfl (boxM.rd S (i:=2) G G))<|qr 2 rfl<|qd rfl (fun _ S=>aH G G (by unfold i64ok;omega))<|qd rfl (fun _ S=>(aC nG oC rfl S (i:=1) G G))<|qK ?_;clear H a;intro a H
   refine aU rfl ?_
   have S1:=(S.sel [2] G G)
   refine aA H G G Try.func75 G G (iH P T ps PA pc xs XA xc b31 EA p t _ _ S1.startR (by omega) (by omega) (by omega)) ?_;clear H a
   rintro _ _ a ⟨rfl,S2⟩ H
   replace S:=(S.sel [2,0,1,3,4,5,6] G G).callR (M:=[_]) S2;clear S1 S2
   refine wpList_nil (And.intro (S.sel [0,3,4,5,6] G G) ?_)
   refine aU rfl ?_
   have S1:=(S.sel [0] G G)
   refine aA H G G Try.func75 G G (iH P T ps PA pc xs XA xc b31 EA p (t+1) _ _ S1.startR (by omega) (by omega) (by omega)) ?_;clear H a
   rintro _ _ a ⟨rfl,S2⟩ H
   replace S:=(S.sel [0,1,2,3,4,5,6] G G).callR (M:=[_]) S2;clear S1 S2
   refine wpList_nil (And.intro (S.sel [0,3,4,5,6] G G) ?_)
   refine aU rfl ?_
   have S1:=(S.sel [0,1,2] G G)
   refine aA H G G Try.func74 G G (lO (joins ((aW P T pe xs p)++(jBeg P T pe p::cA P p t))) ((P*(T+1))+2) b31 (P:Int) (T:Int) _ _ EA A' c' (P*(T+1)) ((P*(T+1))+1) (nd P t p) (nd P (t+1) p) 1099511627776 (-1) 0 0 0 _ _ S1.startR ((jI hpP htT)).2.1 ((jI hpP htT)).2.2 ((jI hpP htT)).1 hlen9) ?_;clear H a
   rintro _ _ a ⟨rfl,A2,c2,S2⟩ H
   replace S:=(S.sel [0,1,2,3,4,5,6] G G).callR (M:=[_,_,_]) S2;clear S1 S2
   have e9:joinT (joins ((aW P T pe xs p)++(jBeg P T pe p::cA P p t))) (nd P t p) (nd P (t+1) p) 1099511627776 ⟨-1,0,0,0⟩=joins (((aW P T pe xs p)++(jBeg P T pe p::cA P p t))++[jWait P p t]):=(fD ((aW P T pe xs p)++(jBeg P T pe p::cA P p t)) (jWait P p t)).symm
   rw [e9] at S
   refine wpList_nil (And.intro (S.sel [0,3,4,5,6] G G) ?_)
   refine bV ?_
   refine k19 _ _ ?_
   replace H:=H.keep [1,2,4,7,10,11,12,34,35,52,53] rfl
   refine sO H<|sd (aH G G (by unfold i64ok;omega))<|sr 1 rfl<|sE ?_;clear H a;intro a H
   rw [←oT] at S
   exact k16 (g2-1) (t+1,_,_) a _ (by omega) (⟨by omega,by omega,by rw [oT];exact hG2.snoc (jI hpP htT)⟩) (S.sel [1,2,0,3,4,5,6] G G) (H.keep [53,1,2,4,7,10,11,12,34,35,52] rfl)
  refine wp_exit ?_
  refine k14 _ _ ?_
  refine aB fun K23 k23=>?_
  refine ls 3 H<|sf fJ rfl<|sl S 6 aZ G G G<|sr 1 rfl<|sE ?_;clear H a;intro a H
  refine aA H G G Try.func37 G G (dG xs XA xc _ _ (hxs.now S) hxn) ?_;clear H a
  rintro _ _ a ⟨rfl,S2⟩ H
  replace S:=S.call S2;clear S2
  refine k23 _ _ ?_;clear k23 K23
  refine aQ H rfl (fun hc3=>?_) (fun hc3=>?_)
  ·skip
   try simp only [o1,o2,o3,o4,o5,o6,o7,o8,o9,oa] at hc3
   have hTt:t=T:=by omega
   rw [hTt] at S hG2
   rw [Di] at S
   refine sS H fun K24 k24=>sl S 5 aF G G G<|sd (aH G G (by unfold i64ok;omega))<|sr 1 rfl<|sE ?_;clear H a;intro a H
   refine k24 _ ?_;clear k24 K24
   refine wp_block ?_
   refine loop_st (X:=Nat×(Nat→Option Addr)×(Nat→Nat)) (R0:=_) [1,2,4,7,10,11,12,34,35,74] H rfl (fun ⟨t,A',c'⟩=>[(75,.int .i64 (t:Int))]) (fun ⟨t,A',c'⟩=>[ownM 155 1 EA ((P*(T+1))+2) ((P*(T+1))+2) (hdc A' (tlen (joins ((aW P T pe xs p)++(jBeg P T pe p::(cA P p T++dC P T p t))))) c'),ragM 157 7 (fun q=>q<(P*(T+1))+2) A' (tlen (joins ((aW P T pe xs p)++(jBeg P T pe p::(cA P p T++dC P T p t))))) c' (tcell (joins ((aW P T pe xs p)++(jBeg P T pe p::(cA P p T++dC P T p t)))))]) (fun g ⟨t,A',c'⟩=>t≤T+1∧g+t=T+1∧JG P T ((aW P T pe xs p)++(jBeg P T pe p::(cA P p T++dC P T p t))) (p*(2*T+2)+1+T+t)) (T+1) (0,_,_) ?_ (S.sel [0,1,2,3,4,5,6] G G) (H.keep [75,1,2,4,7,10,11,12,34,35,74] rfl) ?_
   · exact ⟨by omega,by omega,by rw [←Di];exact hG2⟩
   clear H S a
   intro g3 x3 a w3 hp S H K25 k25
   obtain ⟨t,A',c'⟩:=x3
   dsimp only at hp S H
   obtain ⟨htl,hgt,hG2⟩:=hp
   refine sS H fun K26 k26=>sr 1 rfl<|sE ?_;clear H a;intro a H
   refine k26 _ ?_;clear k26 K26
   refine wp_seq_k fun K27 k27=>?_
   refine condL H rfl (fun hc4=>?_) (fun hc4=>?_)
   ·skip
    refine wp_skip ?_
    refine k27 _ _ ?_
    refine wp_seq_k fun K28 k28=>?_
    refine wp_block ?_
    refine sS H fun K29 k29=>sr 2 rfl<|sE ?_;clear H a;intro a H
    refine k29 _ ?_;clear k29 K29
    have htT:t≤T:=by omega
    have hlen9:=hG2.len (by omega)
    replace H:=H.keep [1,2,4,7,10,11,12,14,34,35,74,75] rfl
    replace S:=S.drew
    refine one_wq [(0,true),(1,true),(2,true),(3,true),(5,true),(6,true),(7,true),(8,true),(9,true),(4,false),(10,false)] (by kernel_rfl) (by kernel_rfl) (S.sel [2,3,4,5,6] G G) ?_
    refine qF H<|qd rfl (fun _ S=>aG dO rfl (boxM.rd S (i:=2) G G))<|qd rfl (fun _ S=>aG dO rfl (boxM.rd S (i:=2) G G))<|qr 2 rfl<|qd rfl (fun _ S=>aG dO rfl (boxM.rd S (i:=2) G G))<|qr 1 rfl<|qd rfl (fun _ S=>(aE oE rfl))<|qd rfl (fun _ S=>aG aF rfl (boxM.rd S (i:=0) G G))<|qd rfl (fun _ S=>(aC nG oC rfl S (i:=1) G G))<|qK ?_;clear H a;intro a H
    refine aU rfl ?_
    have S1:=(S.sel [2] G G)
    refine aA H G G Try.func75 G G (iH P T ps PA pc xs XA xc b31 EA p t _ _ S1.startR (by omega) (by omega) (by omega)) ?_;clear H a
    rintro _ _ a ⟨rfl,S2⟩ H
    replace S:=(S.sel [2,0,1,3,4,5,6] G G).callR (M:=[_]) S2;clear S1 S2
    refine wpList_nil (And.intro (S.sel [0,3,4,5,6] G G) ?_)
    refine aU rfl ?_
    have S1:=(S.sel [0,1,2] G G)
    refine aA H G G Try.func74 G G (lO (joins ((aW P T pe xs p)++(jBeg P T pe p::(cA P p T++dC P T p t)))) ((P*(T+1))+2) b31 (P:Int) (T:Int) _ _ EA A' c' (P*(T+1)) ((P*(T+1))+1) (nd P t p) ((P*(T+1))+1) 1099511627776 (-1) 0 0 0 _ _ S1.startR ((jJ hpP htT)).2.1 ((jJ hpP htT)).2.2 ((jJ hpP htT)).1 hlen9) ?_;clear H a
    rintro _ _ a ⟨rfl,A2,c2,S2⟩ H
    replace S:=(S.sel [0,1,2,3,4,5,6] G G).callR (M:=[_,_,_]) S2;clear S1 S2
    have e9:joinT (joins ((aW P T pe xs p)++(jBeg P T pe p::(cA P p T++dC P T p t)))) (nd P t p) ((P*(T+1))+1) 1099511627776 ⟨-1,0,0,0⟩=joins (((aW P T pe xs p)++(jBeg P T pe p::(cA P p T++dC P T p t)))++[jExit P T p t]):=(fD ((aW P T pe xs p)++(jBeg P T pe p::(cA P p T++dC P T p t))) (jExit P T p t)).symm
    rw [e9] at S
    refine wpList_nil (And.intro (S.sel [0,3,4,5,6] G G) ?_)
    refine bV ?_
    refine k28 _ _ ?_
    replace H:=H.keep [1,2,4,7,10,11,12,34,35,74,75] rfl
    refine sO H<|sd (aH G G (by unfold i64ok;omega))<|sr 1 rfl<|sE ?_;clear H a;intro a H
    rw [←oU] at S
    exact k25 (g3-1) (t+1,_,_) a _ (by omega) (⟨by omega,by omega,by rw [oU];exact hG2.snoc (jJ hpP htT)⟩) (S.sel [1,2,0,3,4,5,6] G G) (H.keep [75,1,2,4,7,10,11,12,34,35,74] rfl)
   refine wp_exit ?_
   refine k11 _ _ ?_
   refine sO H<|sd (aH G G (by unfold i64ok;omega))<|sr 1 rfl<|sE ?_;clear H a;intro a H
   first|(rw [show t=T+1 by omega,qH hc3] at S)|skip
   exact k8 (g1-1) (p+1,_,_) a _ (by omega) (⟨by omega,by omega⟩) (S.sel [0,1,3,4,2,5,6] G G) (H.keep [35,1,2,4,7,10,11,34] rfl)
  try simp only [o1,o2,o3,o4,o5,o6,o7,o8,o9,oa] at hc3
  have hTt:t=T:=by omega
  rw [hTt] at S
  rw [Dk hc3] at S
  refine wp_skip ?_
  refine k11 _ _ ?_
  refine sO H<|sd (aH G G (by unfold i64ok;omega))<|sr 1 rfl<|sE ?_;clear H a;intro a H
  first|(rw [show t=T+1 by omega,qH hc3] at S)|skip
  exact k8 (g1-1) (p+1,_,_) a _ (by omega) (⟨by omega,by omega⟩) (S.sel [0,1,3,4,2,5,6] G G) (H.keep [35,1,2,4,7,10,11,34] rfl)
 refine wp_exit ?_
 refine k6 _ _ ?_
 refine wp_seq_k fun K34 k34=>?_
 refine aB fun K35 k35=>?_
 refine ls 2 H<|sd ((aC cN dI rfl S (i:=6) G G))<|sr 1 rfl<|sE ?_;clear H a;intro a H
 refine aA H G G Try.func76 G G (pP (P:Int) ps PA pc xs XA xc out _) ?_;clear H a
 rintro _ _ a ⟨b2,b3,rfl,S2⟩ H
 replace S:=S.call S2;clear S2
 refine k35 _ _ ?_;clear k35 K35
 refine wp_block ?_
 replace H:=H.keep [7,10,93] rfl
 have hpP:p=P:=by omega
 rw [hpP] at S
 rw [Jg (P:=P) (T:=T) (hs:=hds out xs ps) (A:=aW P T pe xs P)] at S
 have SB:=St.pack (Ms:=[_,_,_,_,_]) (R:=[_,_,_,_]) (S.sel [7,5,6,2,3,0,1,4,8] G G)
 refine Bf (cnt:=(hds out xs ps).length) H SB rfl Try.func83 G G G G G Cd (fun i=>Hd.cells ((hds out xs ps).getD i Hd.zero)) (fun _=>rfl) Ia (fun _=>rfl) (fun i M=>∃ A' c',M=bun [boxM b7 3 [.int .i64 (T:Int)],boxM b10 128 [.pointer (some ⟨b31,0,none⟩)],boxM b31 141 [.int .i64 (P:Int),.slice PA ps.length pc,.slice XA xs.length xc,.int .i64 (T:Int),.slice EA ((P*(T+1))+2) ((P*(T+1))+2),.int .i64 (((P*(T+1)):Nat):Int),.int .i64 (((P*(T+1))+1:Nat):Int)],ownM 155 1 EA ((P*(T+1))+2) ((P*(T+1))+2) (hdc A' (tlen (joins (aW P T pe xs P++cP P T (hds out xs ps) i))) c'),ragM 157 7 (fun q=>q<(P*(T+1))+2) A' (tlen (joins (aW P T pe xs P++cP P T (hds out xs ps) i))) c' (tcell (joins (aW P T pe xs P++cP P T (hds out xs ps) i)))]) (⟨_,_,rfl⟩) (fun _ _=>True) ?_ ?_ ?_
 ·intro ly Jm M w9 hJ9 S hr9
  have S1:=(S.sel [0,1,2] G G)
  refine mM (wC (P:Int) ps PA pc xs XA xc out b2 b3 ly Jm M w9 _ hJ9 S1.startR (hps.nowR S1) hpn (hxs.nowR S1) hxn hmv hout (fun i m' x w1 hi hJ SX=>hr9 i m' x _ _ w1 hi hJ trivial SX)) ?_
  rintro _ _ ⟨m',hJ',S2⟩
  exact ⟨m',hJ',((S.sel [0,1,2,3,4] G G).callR (M:=[_,_,_]) S2).sel [0,1,2,3,4] rfl rfl⟩
 ·intro ly i m9 x9 w00 F00 w9 a b15 hi9 hJ9 hIn9 S H
  obtain ⟨A',c',rfl⟩:=hJ9
  have hH9:=hhd i hi9
  unfold HdOk at hH9
  have hcn:=Il (out:=out) (xs:=xs) (ps:=ps) ps.length
  have hb2:i*(T+1)≤48*61:=Nat.mul_le_mul (by unfold hds at hi9;omega) (by omega)
  have hb3:P*(2*T+2)≤10*122:=Nat.mul_le_mul (by omega) (by omega)
  replace S:=St.unpack (S.sel [1,0,2] G G)
  refine Rd.wp_block ?_
  refine Rd.sS H fun K36 k36=>sr 1 rfl<|sE ?_;clear H a;intro a H
  refine k36 _ ?_;clear k36 K36
  refine Rd.wp_block ?_
  rw [Dj (P:=P) (h:=((hds out xs ps).getD i Hd.zero)) (A:=(aW P T pe xs P++cP P T (hds out xs ps) i))] at S
  refine Rd.loop_st (X:=Nat×(Nat→Option Addr)×(Nat→Nat)) (R0:=_) [7,10,15] H rfl (fun ⟨t,A',c'⟩=>[(16,.int .i64 (t:Int))]) (fun ⟨t,A',c'⟩=>[ownM 155 1 EA ((P*(T+1))+2) ((P*(T+1))+2) (hdc A' (tlen (joins ((aW P T pe xs P++cP P T (hds out xs ps) i)++eH P ((hds out xs ps).getD i Hd.zero) t))) c'),ragM 157 7 (fun q=>q<(P*(T+1))+2) A' (tlen (joins ((aW P T pe xs P++cP P T (hds out xs ps) i)++eH P ((hds out xs ps).getD i Hd.zero) t))) c' (tcell (joins ((aW P T pe xs P++cP P T (hds out xs ps) i)++eH P ((hds out xs ps).getD i Hd.zero) t)))]) (fun g ⟨t,A',c'⟩=>t≤T+1-((hds out xs ps).getD i Hd.zero).ticks.toNat∧g+t=T+1-((hds out xs ps).getD i Hd.zero).ticks.toNat∧JG P T ((aW P T pe xs P++cP P T (hds out xs ps) i)++eH P ((hds out xs ps).getD i Hd.zero) t) (P*(2*T+2)+i*(T+1)+t)) (T+1-((hds out xs ps).getD i Hd.zero).ticks.toNat) (0,_,_) ?_ (S.sel [3,4,0,1,2,5,6] G G) (H.keep [16,7,10,15] rfl) ?_
  · exact ⟨by omega,by omega,by rw [←Dj];exact ⟨fun j hj=>(List.mem_append.1 hj).elim (fun h=>kO (Nat.le_refl _) j h) (fun h=>qD hhd (Nat.le_of_lt hi9) j h),by rw [List.length_append,Nat.add_zero];exact Nat.add_le_add (mX P) (vS i)⟩⟩
  clear H S a
  intro g4 x4 a w4 hp S H K37 k37
  obtain ⟨t,A',c'⟩:=x4
  dsimp only at hp S H
  obtain ⟨htl,hgt,hG2⟩:=hp
  refine Rd.wp_seq_k fun K38 k38=>?_
  refine Rd.sS H fun K39 k39=>sr 1 rfl<|sf tM rfl<|sl S 5 aF G G G<|sd (aH G G (by unfold i64ok;omega))<|sl S 2 aF G G G<|sr 1 rfl<|sE ?_;clear H a;intro a H
  refine k39 _ ?_;clear k39 K39
  refine Rd.condG H rfl (fun hc5=>?_) (fun hc5=>?_)
  ·skip
   refine Rd.wp_skip ?_
   refine k38 _ _ ?_
   refine Rd.wp_seq_k fun K40 k40=>?_
   refine Rd.wp_block ?_
   have htT:t+((hds out xs ps).getD i Hd.zero).ticks.toNat≤T:=by omega
   have hlen9:=hG2.len (by omega)
   replace H:=H.keep [7,10,15,16] rfl
   replace S:=S.drew
   refine Rd.one_wq [(0,true),(1,true),(2,true),(3,true),(4,true),(6,true),(7,true),(8,true),(9,true),(10,true),(11,true),(12,true),(14,true),(15,true),(16,true),(17,true),(18,true),(19,true),(20,true),(21,true),(5,false),(13,false),(22,false)] (by kernel_rfl) (by kernel_rfl) (S.sel [2,3,4,5,6] G G) ?_
   refine qF H<|qd rfl (fun _ S=>aG dO rfl (boxM.rd S (i:=1) G G))<|qd rfl (fun _ S=>aG dO rfl (boxM.rd S (i:=1) G G))<|qd rfl (fun _ S=>(aE tL rfl))<|qd rfl (fun _ S=>aG aF rfl (boxM.rd S (i:=3) G G))<|qr 1 rfl<|qd rfl (fun _ S=>aG dO rfl (boxM.rd S (i:=1) G G))<|qd rfl (fun _ S=>(aE Bv rfl))<|qd rfl (fun _ S=>aG aF rfl (boxM.rd S (i:=3) G G))<|qr 1 rfl<|qd rfl (fun _ S=>(aE tM rfl))<|qd rfl (fun _ S=>aG aF rfl (boxM.rd S (i:=3) G G))<|qd rfl (fun _ S=>(aH G G (by unfold i64ok;omega)).to (v' := .int .i64 ((t+((hds out xs ps).getD i Hd.zero).ticks.toNat:Nat):Int)) (by congr 1;omega))<|qd rfl (fun _ S=>(aE Bw rfl))<|qd rfl (fun _ S=>aG aF rfl (boxM.rd S (i:=3) G G))<|qd rfl (fun _ S=>(aE Bu rfl))<|qd rfl (fun _ S=>aG aF rfl (boxM.rd S (i:=3) G G))<|qd rfl (fun _ S=>(aE tL rfl))<|qd rfl (fun _ S=>aG aF rfl (boxM.rd S (i:=3) G G))<|qr 1 rfl<|qd rfl (fun _ S=>aO vN G G)<|qK ?_;clear H a;intro a H
   refine aU rfl ?_
   have S1:=(S.sel [4] G G)
   refine aA H G G Try.func75 G G (qI P T ps PA pc xs XA xc b31 EA ((hds out xs ps).getD i Hd.zero).fr t _ _ S1.startR (by omega) (by omega) (by omega)) ?_;clear H a
   rintro _ _ a ⟨rfl,S2⟩ H
   replace S:=(S.sel [4,0,1,2,3,5,6] G G).callR (M:=[_]) S2;clear S1 S2
   refine wpList_nil (And.intro (S.sel [3,4,0,5,6] G G) ?_)
   refine aU rfl ?_
   have S1:=(S.sel [0] G G)
   refine aA H G G Try.func75 G G (qI P T ps PA pc xs XA xc b31 EA ((hds out xs ps).getD i Hd.zero).to (t+((hds out xs ps).getD i Hd.zero).ticks.toNat) _ _ S1.startR (by omega) (by omega) (by omega)) ?_;clear H a
   rintro _ _ a ⟨rfl,S2⟩ H
   replace S:=(S.sel [0,1,2,3,4,5,6] G G).callR (M:=[_]) S2;clear S1 S2
   refine wpList_nil (And.intro (S.sel [3,4,0,5,6] G G) ?_)
   refine aU rfl ?_
   have S1:=(S.sel [0,1,2] G G)
   refine aA H G G Try.func74 G G (lO (joins ((aW P T pe xs P++cP P T (hds out xs ps) i)++eH P ((hds out xs ps).getD i Hd.zero) t)) ((P*(T+1))+2) b31 (P:Int) (T:Int) _ _ EA A' c' (P*(T+1)) ((P*(T+1))+1) (nd P t ((hds out xs ps).getD i Hd.zero).fr.toNat) (nd P (t+((hds out xs ps).getD i Hd.zero).ticks.toNat) ((hds out xs ps).getD i Hd.zero).to.toNat) ((hds out xs ps).getD i Hd.zero).wide ((hds out xs ps).getD i Hd.zero).pas ((hds out xs ps).getD i Hd.zero).fr (t:Int) 0 _ _ S1.startR ((jK (T:=T) (show ((hds out xs ps).getD i Hd.zero).fr.toNat<P by omega) (show ((hds out xs ps).getD i Hd.zero).to.toNat<P by omega) (show 1≤((hds out xs ps).getD i Hd.zero).ticks.toNat by omega) htT)).2.1 ((jK (T:=T) (show ((hds out xs ps).getD i Hd.zero).fr.toNat<P by omega) (show ((hds out xs ps).getD i Hd.zero).to.toNat<P by omega) (show 1≤((hds out xs ps).getD i Hd.zero).ticks.toNat by omega) htT)).2.2 ((jK (T:=T) (show ((hds out xs ps).getD i Hd.zero).fr.toNat<P by omega) (show ((hds out xs ps).getD i Hd.zero).to.toNat<P by omega) (show 1≤((hds out xs ps).getD i Hd.zero).ticks.toNat by omega) htT)).1 hlen9) ?_;clear H a
   rintro _ _ a ⟨rfl,A2,c2,S2⟩ H
   replace S:=(S.sel [0,1,2,3,4,5,6] G G).callR (M:=[_,_,_]) S2;clear S1 S2
   have e9:joinT (joins ((aW P T pe xs P++cP P T (hds out xs ps) i)++eH P ((hds out xs ps).getD i Hd.zero) t)) (nd P t ((hds out xs ps).getD i Hd.zero).fr.toNat) (nd P (t+((hds out xs ps).getD i Hd.zero).ticks.toNat) ((hds out xs ps).getD i Hd.zero).to.toNat) ((hds out xs ps).getD i Hd.zero).wide ⟨((hds out xs ps).getD i Hd.zero).pas,((hds out xs ps).getD i Hd.zero).fr,(t:Int),0⟩=joins (((aW P T pe xs P++cP P T (hds out xs ps) i)++eH P ((hds out xs ps).getD i Hd.zero) t)++[jHead P ((hds out xs ps).getD i Hd.zero) t]):=(fD ((aW P T pe xs P++cP P T (hds out xs ps) i)++eH P ((hds out xs ps).getD i Hd.zero) t) (jHead P ((hds out xs ps).getD i Hd.zero) t)).symm
   rw [e9] at S
   refine wpList_nil (And.intro (S.sel [3,4,0,5,6] G G) ?_)
   refine bV ?_
   refine k40 _ _ ?_
   replace H:=H.keep [7,10,15,16] rfl
   refine Rd.sO H<|sr 1 rfl<|sd (aH G G (by unfold i64ok;omega))<|sr 1 rfl<|sE ?_;clear H a;intro a H
   rw [←oV] at S
   exact k37 (g4-1) (t+1,_,_) a _ (by omega) (⟨by omega,by omega,by rw [oV];exact hG2.snoc (jK (by omega) (by omega) (by omega) (by omega))⟩) (S.sel [1,2,3,4,0,5,6] G G) (H.keep [16,7,10,15] rfl)
  refine Rd.wp_exit ?_
  rw [show t=T+1-((hds out xs ps).getD i Hd.zero).ticks.toNat by omega,List.append_assoc] at S
  exact ⟨_,⟨_,_,rfl⟩,St.pack (Ms:=[_,_,_,_,_]) (R:=[_]) (S.sel [2,3,4,0,1,6] G G)⟩
 intro D m9 w9 a hJ9 S H
 obtain ⟨A',c',rfl⟩:=hJ9
 replace S:=St.unpack (S.sel [1,0,2,3,4,5] G G)
 refine k34 _ _ ?_
 refine sS H fun K43 k43=>sl S 1 dO G G G<|sr 1 rfl<|sE ?_;clear H a;intro a H
 refine k43 _ ?_;clear k43 K43
 refine wp_ret ?_
 refine retC1 (fn:=Try.f61) rfl H S (i:=5) G G (fun _ S=>?_)
 exact ⟨_,_,_,_,rfl,(S.sel [2,3,4] G G)⟩
end
end Go.Proofs.Ytinghmelkmblmaa
