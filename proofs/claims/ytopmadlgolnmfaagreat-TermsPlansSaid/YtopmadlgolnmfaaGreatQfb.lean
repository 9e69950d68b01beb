/- Part 2 of the proof. -/
import Derived.Test.YtopmadlgolnmfaaGreatQfa
namespace Go.Proofs.YtopmadlgolnmfaaGreat
open Go.RowKit
set_option linter.unusedVariables false
set_option linter.unusedSimpArgs false
set_option maxRecDepth 100000
set_option maxHeartbeats 4000000
section
structure Psg where
 a:Int
 b:Int
 kind:Int
 ticks:Int
 wide:Int
 mach:Int
 still:Int
def aJj:Psg:=⟨0,0,0,0,0,0,0⟩
def Psg.cell (p:Psg):Nat→Value
 | 0 => .int .i64 p.a
 | 1 => .int .i64 p.b
 | 2 => .int .i64 p.kind
 | 3 => .int .i64 p.ticks
 | 4 => .int .i64 p.wide
 | 5 => .int .i64 p.mach
 | _ => .int .i64 p.still
def pcell (l:List Psg) (k j:Nat):Value:=(l.getD k aJj).cell j
structure Mv where
 pas:Int
 fr:Int
 at_:Int
 many:Int
def aJo:Mv:=⟨0,0,0,0⟩
def Mv.none:Mv:=⟨-1,0,0,0⟩
def Mv.cells (m:Mv):List Value:=[.int .i64 m.pas,.int .i64 m.fr,.int .i64 m.at_,.int .i64 m.many]
def Mv.cell (m:Mv):Nat→Value
 | 0 => .int .i64 m.pas
 | 1 => .int .i64 m.fr
 | 2 => .int .i64 m.at_
 | _ => .int .i64 m.many
structure Ent where
 to:Nat
 room:Int
 back:Nat
 mv:Mv
def Ent.zero:Ent:=⟨0,0,0,aJo⟩
def Ent.cell (x:Ent):Nat→Value
 | 0 => .int .i64 (x.to:Int)
 | 1 => .int .i64 x.room
 | 2 => .int .i64 (x.back:Int)
 | 3 => .int .i64 x.mv.pas
 | 4 => .int .i64 x.mv.fr
 | 5 => .int .i64 x.mv.at_
 | _ => .int .i64 x.mv.many
abbrev Tab:=Nat→List Ent
def tcell (T:Tab) (i k j:Nat):Value:=((T i).getD k Ent.zero).cell j
def hdc (A:Nat→Option Addr) (n c:Nat→Nat) (i _j:Nat):Value := .slice (A i) (n i) (c i)
def tlen (T:Tab) (i:Nat):Nat:=(T i).length
def joinT (T:Tab) (f t:Nat) (room:Int) (mv:Mv):Tab:=
 upd (upd T f (T f++[⟨t,room,(T t).length,mv⟩])) t (T t++[⟨f,0,(T f).length,Mv.none⟩])
def Tab.net (T:Tab) (k:Nat):Net:=⟨k,tlen T,fun i j=>((T i).getD j Ent.zero).to,fun i j=>((T i).getD j Ent.zero).back⟩
def Tab.room (T:Tab):RM:=fun i j=>((T i).getD j Ent.zero).room
def Tab.mv (T:Tab):Nat→Nat→Mv:=fun i j=>((T i).getD j Ent.zero).mv
def edgeC (N:Net) (r:RM) (mv:Nat→Nat→Mv) (i k:Nat):Nat→Value
 | 0 => .int .i64 (N.to i k:Int)
 | 1 => .int .i64 (r i k)
 | 2 => .int .i64 (N.back i k:Int)
 | 3 => .int .i64 (mv i k).pas
 | 4 => .int .i64 (mv i k).fr
 | 5 => .int .i64 (mv i k).at_
 | _ => .int .i64 (mv i k).many
theorem Hh (T:Tab) (k:Nat):tcell T=edgeC (T.net k) T.room T.mv:=by
 funext i q j
 unfold tcell edgeC Ent.cell Tab.net Tab.room Tab.mv
 match j with
 | 0=>rfl
 | 1=>rfl
 | 2=>rfl
 | 3=>rfl
 | 4=>rfl
 | 5=>rfl
 | _+6=>rfl
theorem Mn {N:Net} {r:RM} {mv:Nat→Nat→Mv} {p q:Nat} {v:Int}:upd (edgeC N r mv) p (cput (edgeC N r mv p) q 1 (.int .i64 v))=edgeC N (put2 r p q v) mv:=by
  funext i k j
  unfold upd cput
  by_cases h:i=p
  · subst h
    rw [if_pos rfl];by_cases h2:k=q∧j=1
    · obtain ⟨rfl,rfl⟩:=h2
      rw [if_pos ⟨rfl,rfl⟩];simp only [edgeC,pE]
    · skip
      rw [if_neg h2];match j with
      | 0=>rfl
      | 1=>simp only [edgeC];rw [kG (fun h=>h2 ⟨h.2,rfl⟩)]
      | 2=>rfl
      | 3=>rfl
      | 4=>rfl
      | 5=>rfl
      | _+6=>rfl
  · rw [if_neg h]
    match j with
    | 0=>rfl
    | 1=>simp only [edgeC];rw [kG (fun h2=>h h2.1)]
    | 2=>rfl
    | 3=>rfl
    | 4=>rfl
    | 5=>rfl
    | _+6=>rfl
def lcl (L:Nat→Int) (i _j:Nat):Value := .int .i64 (L i)
def ncl (n:Nat→Nat) (i _j:Nat):Value := .int .i64 (n i:Int)
theorem Yp {n:Nat→Nat} {p v:Nat} {x:Int} (h:x=(v:Int)):cput (ncl n) p 0 (.int .i64 x)=fun i j=>if j=0 then ncl (upd n p v) i j else ncl n i j:=by
 subst h;funext i j;unfold cput ncl upd;by_cases h1:i=p <;> by_cases h2:j=0 <;> simp [h1,h2]
def hasI (l:List Int) (x:Int):Bool:=l.any fun y=>decide (x=y)
structure Hd where
 pas:Int
 fr:Int
 to:Int
 ticks:Int
 wide:Int
def aJp:Hd:=⟨0,0,0,0,0⟩
def Hd.cells (h:Hd):List Value:=[.int .i64 h.pas,.int .i64 h.fr,.int .i64 h.to,.int .i64 h.ticks,.int .i64 h.wide]
def bitI (out m:Int):Int:=out/2^m.toNat%2
def eR (out:Int) (p:Psg):Int:=if p.kind=3∧¬ bitI out p.mach=0 then p.still else p.ticks
def kC (out:Int) (p:Psg):Bool:=!(decide (p.kind=3)&&decide (bitI out p.mach=0))
theorem Rq {out:Int} {p:Psg} (h:p.kind=3∧out/2^p.mach.toNat%2=0):false=kC out p:=by unfold kC bitI;rw [decide_eq_true h.1,decide_eq_true h.2];rfl
theorem Do {out:Int} {p:Psg} (h:¬ p.kind=3∨¬ out/2^p.mach.toNat%2=0):true=kC out p:=by
 unfold kC bitI
 rcases h with h|h
 ·rw [decide_eq_false h];rfl
 ·rw [decide_eq_false h,Bool.and_false];rfl
def hdsA (out:Int) (xs:List Int) (k:Nat) (p:Psg):List Hd:=if hasI xs p.a=true then [] else [⟨k,p.a,p.b,eR out p,p.wide⟩]
def hdsB (out:Int) (xs:List Int) (k:Nat) (p:Psg):List Hd:=if (kC out p&&!hasI xs p.b)=true then [⟨k,p.b,p.a,eR out p,p.wide⟩] else []
def hdsOf (out:Int) (xs:List Int) (k:Nat) (p:Psg):List Hd:=if p.kind=4 then [] else hdsA out xs k p++hdsB out xs k p
def hdsTo (out:Int) (xs:List Int) (ps:List Psg):Nat→List Hd
 | 0=>[]
 | k+1=>hdsTo out xs ps k++hdsOf out xs k (ps.getD k aJj)
def hds (out:Int) (xs:List Int) (ps:List Psg):List Hd:=hdsTo out xs ps ps.length
section
variable {out:Int} {xs:List Int} {ps:List Psg} {k:Nat}
theorem Yq:∀ {n k:Nat},k≤n→∃ t,hdsTo out xs ps n=hdsTo out xs ps k++t:=by
  intro n;induction n with
  | zero => intro k hk;have:k=0:=by omega
            subst this;exact ⟨[],by simp⟩
  | succ n ih=>
    intro k hk;by_cases e:k=n+1
    · subst e;exact ⟨[],by simp⟩
    · obtain ⟨t,ht⟩:=ih (k:=k) (by omega)
      exact ⟨t++hdsOf out xs n (ps.getD n aJj),by rw [hdsTo,ht,List.append_assoc]⟩
theorem Rr (hk:k<ps.length) {j:Nat} {h:Hd} (hj:(hdsOf out xs k (ps.getD k aJj))[j]?=some h):(hds out xs ps).getD ((hdsTo out xs ps k).length+j) aJp=h∧(hdsTo out xs ps k).length+j<(hds out xs ps).length:=by
 obtain ⟨t,ht⟩:=Yq (out:=out) (xs:=xs) (ps:=ps) (n:=ps.length) (k:=k+1) (by omega);have hjl:=(List.getElem?_eq_some_iff.1 hj).1;unfold hds;rw [ht,hdsTo];refine ⟨?_,by simp only [List.length_append];omega⟩;rw [List.getD_eq_getElem?_getD,List.append_assoc,List.getElem?_append_right (by omega),List.getElem?_append_left (by omega),show (hdsTo out xs ps k).length+j-(hdsTo out xs ps k).length=j by omega,hj];rfl
theorem Mo (hk:k<ps.length) (h4:¬ (ps.getD k aJj).kind=4) (ha:hasI xs (ps.getD k aJj).a=false) :
  (hds out xs ps).getD (hdsTo out xs ps k).length aJp=⟨k,(ps.getD k aJj).a,(ps.getD k aJj).b,eR out (ps.getD k aJj),(ps.getD k aJj).wide⟩∧(hdsTo out xs ps k).length<(hds out xs ps).length:=
 Rr (out:=out) (xs:=xs) hk (j:=0) (by unfold hdsOf hdsA;rw [if_neg h4,if_neg (by rw [ha];simp)];rfl)
def qA (xs:List Int) (p:Psg):Nat:=if hasI xs p.a=true then 0 else 1
def qB (out:Int) (xs:List Int) (p:Psg):Nat:=if (kC out p&&!hasI xs p.b)=true then 1 else 0
theorem Hi (hk:k<ps.length) (h4:¬ (ps.getD k aJj).kind=4) (hb:(kC out (ps.getD k aJj)&&!hasI xs (ps.getD k aJj).b)=true) :
  (hds out xs ps).getD ((hdsTo out xs ps k).length+qA xs (ps.getD k aJj)) aJp=⟨k,(ps.getD k aJj).b,(ps.getD k aJj).a,eR out (ps.getD k aJj),(ps.getD k aJj).wide⟩∧(hdsTo out xs ps k).length+qA xs (ps.getD k aJj)<(hds out xs ps).length:=
 Rr (out:=out) (xs:=xs) hk (j:=qA xs (ps.getD k aJj)) (by
  unfold hdsOf hdsA hdsB qA
  rw [if_neg h4,if_pos hb];by_cases h:hasI xs (ps.getD k aJj).a=true
  ·rw [if_pos h,if_pos h];rfl
  ·rw [if_neg h,if_neg h];rfl)
theorem kJ (h4:¬ (ps.getD k aJj).kind=4):(hdsTo out xs ps (k+1)).length=(hdsTo out xs ps k).length+qA xs (ps.getD k aJj)+qB out xs (ps.getD k aJj):=by
 rw [hdsTo,List.length_append];unfold hdsOf hdsA hdsB qA qB;rw [if_neg h4,List.length_append];split <;> split <;> simp
theorem oK (h4:(ps.getD k aJj).kind=4):(hdsTo out xs ps (k+1)).length=(hdsTo out xs ps k).length:=by
 rw [hdsTo,List.length_append];unfold hdsOf;rw [if_pos h4];rfl
theorem aEb:∀ k,(hdsTo out xs ps k).length≤2*k:=by
  intro k;induction k with
  | zero=>simp [hdsTo]
  | succ k ih=>
    by_cases h4:(ps.getD k aJj).kind=4
    · rw [oK h4];omega
    · rw [kJ h4]
      have h1:qA xs (ps.getD k aJj)≤1:=by unfold qA;split <;> omega
      have h2:qB out xs (ps.getD k aJj)≤1:=by unfold qB;split <;> omega
      omega
theorem bk3 (b h:Bool):b=false∨(b=true∧h=true)∨(b=true∧h=false):=by cases b <;> cases h <;> simp
end
structure Jn where
 f:Nat
 t:Nat
 room:Int
 mv:Mv
def joins (J:List Jn):Tab:=J.foldl (fun T j=>joinT T j.f j.t j.room j.mv) (fun _=>[])
theorem fL (J:List Jn) (j:Jn):joins (J++[j])=joinT (joins J) j.f j.t j.room j.mv:=by unfold joins;rw [List.foldl_append];rfl
theorem Mp (J:List Jn) (hne:∀ j ∈ J,j.f≠j.t) (i:Nat):(joins J i).length≤J.length:=by
  have key:∀ (n:Nat) (J:List Jn),J.length=n→(∀ j ∈ J,j.f≠j.t)→(joins J i).length≤n:=by
    intro n;induction n with
    | zero => intro J h _;have:J=[]:=List.eq_nil_of_length_eq_zero h
              subst this;exact Nat.le_refl 0
    | succ n ih=>
      intro J h hn;obtain ⟨J',j,rfl⟩:∃ J' j,J=J'++[j]:=⟨J.dropLast,J.getLast (by intro e;subst e;simp at h),(List.dropLast_concat_getLast _).symm⟩;have h1:=ih J' (by simpa using h) (fun x hx=>hn x (List.mem_append_left _ hx));have h2:=hn j (List.mem_append_right _ (by simp));rw [fL];unfold joinT upd;split
      · rename_i e
        subst e;simp;omega
      · split
        · rename_i e;subst e;simp;omega
        · omega
  exact key _ J rfl hne
def nd (P t p:Nat):Nat:=P*t+p
theorem mH {P T t p:Nat} (ht:t≤T) (hp:p<P):nd P t p<P*(T+1):=by
 have:P*(t+1)≤P*(T+1):=Nat.mul_le_mul_left _ (by omega)
 rw [Nat.mul_add] at this;unfold nd;omega
theorem aDf {P t t' p p':Nat} (ht:t<t') (hp:p<P):nd P t p≠nd P t' p':=by
 have:P*(t+1)≤P*t':=Nat.mul_le_mul_left _ (by omega)
 rw [Nat.mul_add] at this;unfold nd;omega
def fM:Int:=1099511627776
def jBeg (P T:Nat) (pe:List Int) (p:Nat):Jn:=⟨P*(T+1),nd P 0 p,pe.getD p 0,Mv.none⟩
def jWait (P p t:Nat):Jn:=⟨nd P t p,nd P (t+1) p,fM,Mv.none⟩
def jExit (P T p t:Nat):Jn:=⟨nd P t p,P*(T+1)+1,fM,Mv.none⟩
def dL (P p n:Nat):List Jn:=(List.range n).map (jWait P p)
def fG (P T p n:Nat):List Jn:=(List.range n).map (jExit P T p)
def kD (P T:Nat) (pe xs:List Int) (p:Nat):List Jn:=jBeg P T pe p::(dL P p T++(if hasI xs p=true then fG P T p (T+1) else []))
def bF (P T:Nat) (pe xs:List Int):Nat→List Jn
 | 0=>[]
 | p+1=>bF P T pe xs p++kD P T pe xs p
def jHead (P:Nat) (h:Hd) (t:Nat):Jn:=⟨nd P t h.fr.toNat,nd P (t+h.ticks.toNat) h.to.toNat,h.wide,⟨h.pas,h.fr,t,0⟩⟩
def fW (P:Nat) (h:Hd) (n:Nat):List Jn:=(List.range n).map (jHead P h)
def eJ (P T:Nat) (hs:List Hd):Nat→List Jn
 | 0=>[]
 | i+1=>eJ P T hs i++fW P (hs.getD i aJp) (T+1-(hs.getD i aJp).ticks.toNat)
def jAll (P T:Nat) (pe xs:List Int) (hs:List Hd):List Jn:=bF P T pe xs P++eJ P T hs hs.length
theorem jI {f:Nat→Jn} (n:Nat):(List.range (n+1)).map f=(List.range n).map f++[f n]:=by rw [List.range_succ,List.map_append];rfl
section
variable {P T:Nat} {pe xs:List Int} {hs:List Hd}
def JOk (P T:Nat) (j:Jn):Prop:=j.f≠j.t∧j.f<P*(T+1)+2∧j.t<P*(T+1)+2
theorem rT {p:Nat} (hp:p<P):JOk P T (jBeg P T pe p):=by
 have:=mH (P:=P) (T:=T) (Nat.zero_le T) hp
 exact ⟨by show P*(T+1)≠nd P 0 p;omega,by show P*(T+1)<_;omega,by show nd P 0 p<_;omega⟩
theorem oL {p t:Nat} (hp:p<P) (ht:t<T):JOk P T (jWait P p t):=by
 have h1:=mH (P:=P) (T:=T) (show t≤T by omega) hp
 have h2:=mH (P:=P) (T:=T) (show t+1≤T by omega) hp
 exact ⟨aDf (by omega) hp,by show nd P t p<_;omega,by show nd P (t+1) p<_;omega⟩
theorem oM {p t:Nat} (hp:p<P) (ht:t≤T):JOk P T (jExit P T p t):=by
 have h1:=mH (P:=P) (T:=T) ht hp
 exact ⟨by show nd P t p≠P*(T+1)+1;omega,by show nd P t p<_;omega,by show P*(T+1)+1<_;omega⟩
theorem oN {h:Hd} {t:Nat} (h1:h.fr.toNat<P) (h2:h.to.toNat<P) (hd:1≤h.ticks.toNat) (ht:t+h.ticks.toNat≤T):JOk P T (jHead P h t):=by
 have h3:=mH (P:=P) (T:=T) (show t≤T by omega) h1
 have h4:=mH (P:=P) (T:=T) ht h2
 exact ⟨aDf (by omega) h1,by show nd P t h.fr.toNat<_;omega,by show nd P (t+h.ticks.toNat) h.to.toNat<_;omega⟩
theorem Mq {p:Nat} (hp:p<P):∀ j ∈ kD P T pe xs p,JOk P T j:=by
  intro j hj;unfold kD dL fG at hj;rcases List.mem_cons.1 hj with rfl|hj
  · exact rT hp
  · rcases List.mem_append.1 hj with hj|hj
    · obtain ⟨t,ht,rfl⟩:=List.mem_map.1 hj
      exact oL hp (List.mem_range.1 ht)
    · split at hj
      · obtain ⟨t,ht,rfl⟩:=List.mem_map.1 hj
        exact oM hp (by have:=List.mem_range.1 ht;omega)
      · cases hj
theorem qM:∀ {n:Nat},n≤P→∀ j ∈ bF P T pe xs n,JOk P T j:=by
  intro n;induction n with
  | zero=>intro _ j hj;cases hj
  | succ n ih=>
    intro hn j hj;rcases List.mem_append.1 hj with hj|hj
    · exact ih (by omega) j hj
    · exact Mq (by omega) j hj
theorem uF:∀ n,(bF P T pe xs n).length≤n*(2*T+2):=by
  intro n;induction n with
  | zero=>simp [bF]
  | succ n ih=>
    have:(kD P T pe xs n).length≤2*T+2:=by
      unfold kD dL fG
      split <;> simp <;> omega
    rw [bF,List.length_append,Nat.add_mul];omega
def HdOk (P:Nat) (h:Hd):Prop:=(0≤h.fr∧h.fr<P)∧(0≤h.to∧h.to<P)∧(1≤h.ticks∧h.ticks≤20)
theorem zJ (hh:∀ i,i<hs.length→HdOk P (hs.getD i aJp)):∀ {n:Nat},n≤hs.length→∀ j ∈ eJ P T hs n,JOk P T j:=by
  intro n;induction n with
  | zero=>intro _ j hj;cases hj
  | succ n ih=>
    intro hn j hj;rcases List.mem_append.1 hj with hj|hj
    · exact ih (by omega) j hj
    · obtain ⟨t,ht,rfl⟩:=List.mem_map.1 hj
      have h1:=hh n (by omega)
      unfold HdOk at h1
      have:=List.mem_range.1 ht
      exact oN (by omega) (by omega) (by omega) (by omega)
theorem Hj:∀ n,(eJ P T hs n).length≤n*(T+1):=by
  intro n;induction n with
  | zero=>simp [eJ]
  | succ n ih=>
    rw [eJ,List.length_append,Nat.add_mul];have:(fW P (hs.getD n aJp) (T+1-(hs.getD n aJp).ticks.toNat)).length≤T+1:=by unfold fW;simp
    omega
end
def allN (p:Nat→Bool):Nat→Bool
 | 0=>true
 | n+1=>allN p n&&p n
theorem bS {p:Nat→Bool}:∀ {n:Nat},allN p n=true↔∀ k,k<n→p k=true:=by
  intro n;induction n with
  | zero=>exact ⟨fun _ k hk=>absurd hk (Nat.not_lt_zero k),fun _=>rfl⟩
  | succ n ih=>
    simp only [allN,Bool.and_eq_true,ih]
    constructor
    · rintro ⟨h1,h2⟩ k hk
      by_cases e:k=n
      · subst e;exact h2
      · exact h1 k (by omega)
    · intro h
      exact ⟨fun k hk=>h k (by omega),h n (by omega)⟩
theorem dD {p:Nat→Bool} {n:Nat} (h:allN p n=true) (hp:p n=true):allN p (n+1)=true:=by simp only [allN,h,hp];rfl
theorem iG {p:Nat→Bool} {n k:Nat} (hk:k<n) (h:p k=false):allN p n=false:=by
 cases ha:allN p n with
 | false=>rfl
 | true=>rw [bS.1 ha k hk] at h;cases h
def psgOk (P:Int) (p:Psg):Bool:=decide (0≤p.a∧p.a<P∧0≤p.b∧p.b<P∧p.a≠p.b∧1≤p.ticks∧p.ticks≤20∧1≤p.wide∧p.wide≤50 ∧
 ((p.kind=1∨p.kind=2∨p.kind=5)∧p.mach = -1∧p.still=0∨p.kind=3∧(0≤p.mach∧p.mach≤11)∧(1≤p.still∧p.still≤20)∨p.kind=4∧(0≤p.mach∧p.mach≤11)∧p.still=0))
def dE (ps:List Psg) (k:Nat):Int:=(ps.getD k aJj).mach
def cntM (ps:List Psg) (m:Int) (k:Nat):Int:=sm (fun j=>if dE ps j=m then 1 else 0) k
theorem Jw {ps:List Psg} {m:Int} {k:Nat}:0≤cntM ps m k:=dC fun i _=>by split <;> omega
theorem Ys {ps:List Psg} {m:Int}:∀ k,cntM ps m k≤k:=by
 intro k;induction k with
 | zero=>exact Int.le_refl 0
 | succ k ih=>unfold cntM at ih ⊢;rw [sm];split <;> omega
theorem Mr {ps:List Psg} {m:Int} {k:Nat}:cntM ps m k=0↔∀ j,j<k→dE ps j≠m:=by
  constructor
  · intro h j hj e
    have:=qG (f:=fun j=>if dE ps j=m then 1 else 0) (fun i _=>by split <;> omega) h j hj
    simp [e] at this
  · intro h
    exact eQ fun i hi=>if_neg (h i hi)
def pasOk (P:Int) (ps:List Psg) (k:Nat):Bool:=psgOk P (ps.getD k aJj)&&decide (dE ps k<0∨cntM ps (dE ps k) k=0)
def exOk (P:Int) (xs:List Int) (k:Nat):Bool:=decide (0≤xs.getD k 0∧xs.getD k 0<P∧(k=0∨xs.getD (k-1) 0<xs.getD k 0))
def stOk (P:Int) (ps:List Psg) (xs:List Int):Bool:=(decide (1≤P∧P≤10∧ps.length≤24)&&allN (pasOk P ps) ps.length)&&allN (exOk P xs) xs.length
def stE (P:Int) (ps:List Psg) (xs:List Int):Int:=if stOk P ps xs=true then 0 else 80
theorem Jx {P:Int} {ps:List Psg} {xs:List Int} (h:¬ (1≤P∧P≤10∧ps.length≤24)):stE P ps xs=80:=by
 unfold stE stOk;rw [decide_eq_false h];rfl
theorem nG {P:Int} {ps:List Psg} {xs:List Int} {k:Nat} (hk:k<ps.length) (h:pasOk P ps k=false):stE P ps xs=80:=by
 unfold stE stOk;rw [iG hk h,Bool.and_false];rfl
theorem aDg {P:Int} {ps:List Psg} {xs:List Int} {k:Nat} (hk:k<xs.length) (h:exOk P xs k=false):stE P ps xs=80:=by
 unfold stE stOk;rw [iG hk h,Bool.and_false];rfl
theorem aDh {P:Int} {ps:List Psg} {xs:List Int} (h1:1≤P∧P≤10∧ps.length≤24) (h2:allN (pasOk P ps) ps.length=true) (h3:allN (exOk P xs) xs.length=true):stE P ps xs=0:=by
 unfold stE stOk;rw [decide_eq_true h1,h2,h3];rfl
theorem Yt {P:Int} {ps:List Psg} {xs:List Int}:stE P ps xs=0↔stOk P ps xs=true:=by
 unfold stE;split <;> simp [*]
def CntMap (ps:List Psg) (k:Nat) (l:List (Int×Value)):Prop:=∀ m:Int,(getL l m).getD (.int .i64 0) = .int .i64 (cntM ps m k)
theorem CntMap.nil (ps:List Psg):CntMap ps 0 []:=fun m=>rfl
theorem CntMap.step {ps:List Psg} {k:Nat} {l:List (Int×Value)} (h:CntMap ps k l):CntMap ps (k+1) (setL l (dE ps k) (.int .i64 (cntM ps (dE ps k) k+1))):=by
 intro m;rw [Dc];unfold cntM;rw [sm];by_cases e:m=dE ps k
 ·subst e;rw [if_pos rfl,if_pos rfl];rfl
 ·rw [if_neg e,if_neg (fun h=>e h.symm),Int.add_zero];exact h m
structure StV (P:Int) (ps:List Psg) (xs:List Int):Prop where
 size:1≤P∧P≤10∧ps.length≤24
 pas:∀ k,k<ps.length→psgOk P (ps.getD k aJj)=true
 mach:∀ k,k<ps.length→0≤dE ps k→∀ j,j<k→dE ps j≠dE ps k
 ex:∀ k,k<xs.length→0≤xs.getD k 0∧xs.getD k 0<P∧(k=0∨xs.getD (k-1) 0<xs.getD k 0)
theorem gR {P:Int} {ps:List Psg} {xs:List Int} (h:stE P ps xs=0):StV P ps xs:=by
  have h1:=Yt.1 h
  unfold stOk at h1
  simp only [Bool.and_eq_true,decide_eq_true_eq] at h1
  obtain ⟨⟨h1,h2⟩,h3⟩:=h1;refine ⟨h1,fun k hk=>?_,fun k hk h0=>?_,fun k hk=>?_⟩
  · have:=bS.1 h2 k hk
    unfold pasOk at this
    rw [Bool.and_eq_true] at this;exact this.1
  · have:=bS.1 h2 k hk
    unfold pasOk at this
    simp only [Bool.and_eq_true,decide_eq_true_eq] at this
    exact Mr.1 (by omega)
  · have:=bS.1 h3 k hk
    unfold exOk at this
    simpa using this
theorem bW {P:Int} {p:Psg}:psgOk P p=true↔(0≤p.a∧p.a<P∧0≤p.b∧p.b<P∧p.a≠p.b∧1≤p.ticks∧p.ticks≤20∧1≤p.wide∧p.wide≤50 ∧
 ((p.kind=1∨p.kind=2∨p.kind=5)∧p.mach = -1∧p.still=0∨p.kind=3∧(0≤p.mach∧p.mach≤11)∧(1≤p.still∧p.still≤20)∨p.kind=4∧(0≤p.mach∧p.mach≤11)∧p.still=0)):=by
 unfold psgOk;rw [decide_eq_true_eq]
theorem gZ {P:Int} {p:Psg} (h:¬ (0≤p.a∧p.a<P∧0≤p.b∧p.b<P∧p.a≠p.b∧1≤p.ticks∧p.ticks≤20∧1≤p.wide∧p.wide≤50 ∧
 ((p.kind=1∨p.kind=2∨p.kind=5)∧p.mach = -1∧p.still=0∨p.kind=3∧(0≤p.mach∧p.mach≤11)∧(1≤p.still∧p.still≤20)∨p.kind=4∧(0≤p.mach∧p.mach≤11)∧p.still=0))):psgOk P p=false:=by
 unfold psgOk;exact decide_eq_false h
theorem tK {P:Nat} {ps:List Psg} {xs:List Int} {out:Int} (h:StV P ps xs):∀ i,i<(hds out xs ps).length→HdOk P ((hds out xs ps).getD i aJp):=by
  have key:∀ n,n≤ps.length→∀ x ∈ hdsTo out xs ps n,HdOk P x:=by
    intro n;induction n with
    | zero=>intro _ x hx;cases hx
    | succ n ih=>
      intro hn x hx;rcases List.mem_append.1 hx with hx|hx
      · exact ih (by omega) x hx
      · have hp:=bW.1 (h.pas n (by omega))
        have ht:1≤eR out (ps.getD n aJj)∧eR out (ps.getD n aJj)≤20:=by
          unfold eR;split <;> omega
        unfold hdsOf hdsA hdsB at hx
        unfold HdOk
        split at hx
        · cases hx
        · rcases List.mem_append.1 hx with hx|hx
          · split at hx
            · cases hx
            · rw [List.mem_singleton.1 hx];dsimp only;omega
          · split at hx
            · rw [List.mem_singleton.1 hx];dsimp only;omega
            · cases hx
  intro i hi;rw [List.getD_eq_getElem?_getD,List.getElem?_eq_getElem hi];exact key _ (Nat.le_refl _) _ (List.getElem_mem hi)
def fQ (P:Int) (pe:List Int):Bool:=allN (fun k=>decide (0≤pe.getD k 0∧pe.getD k 0≤1000)) pe.length&&decide ((pe.length:Int)=P)
def dY (P:Int) (ps:List Psg) (xs:List Int) (out:Int) (pe:List Int) (T:Int):Int:=
 if stE P ps xs≠0 then stE P ps xs else if (decide (0≤out∧out≤4095)&&fQ P pe&&decide (0≤T∧T≤60))=true then 0 else 1
theorem pH {P:Int} {ps:List Psg} {xs:List Int} {out:Int} {pe:List Int} {T:Int} (h:dY P ps xs out pe T=0):stE P ps xs=0∧(0≤out∧out≤4095)∧fQ P pe=true∧(0≤T∧T≤60):=by
  unfold dY at h
  split at h
  · omega
  · rename_i h1
    split at h
    · rename_i h2
      simp only [Bool.and_eq_true,decide_eq_true_eq] at h2
      exact ⟨by omega,h2.1.1,h2.1.2,h2.2⟩
    · cases h
theorem rU {P:Int} {pe:List Int} (h:fQ P pe=true):(∀ k,k<pe.length→0≤pe.getD k 0∧pe.getD k 0≤1000)∧(pe.length:Int)=P:=by
 unfold fQ at h
 simp only [Bool.and_eq_true,decide_eq_true_eq] at h
 exact ⟨fun k hk=>by simpa using bS.1 h.1 k hk,h.2⟩
theorem pI {l:List Ent} {e:Ent} {j:Nat}:(l++[e]).getD j Ent.zero=if j=l.length then e else l.getD j Ent.zero:=by
  rw [List.getD_eq_getElem?_getD,List.getD_eq_getElem?_getD];by_cases h:j=l.length
  · subst h;rw [if_pos rfl,List.getElem?_append_right (Nat.le_refl _),Nat.sub_self];rfl
  · rw [if_neg h]
    rcases Nat.lt_or_ge j l.length with h1|h1
    · rw [List.getElem?_append_left h1]
    · rw [List.getElem?_append_right h1,List.getElem?_eq_none (by simp;omega),List.getElem?_eq_none h1]
section
variable {T:Tab} {f t k:Nat} {room:Int} {mv:Mv}
theorem wS (hft:f≠t) (i:Nat):tlen (joinT T f t room mv) i=tlen T i+(if i=f then 1 else 0)+(if i=t then 1 else 0):=by
  unfold tlen joinT upd
  by_cases h1:i=t
  · subst h1
    rw [if_pos rfl,if_neg (fun e=>hft e.symm),if_pos rfl];simp
  · rw [if_neg h1,if_neg h1]
    by_cases h2:i=f
    · subst h2;rw [if_pos rfl,if_pos rfl];simp
    · rw [if_neg h2,if_neg h2];rfl
def entAt (T:Tab) (i j:Nat):Ent:=(T i).getD j Ent.zero
theorem Bk (hft:f≠t) (i j:Nat):entAt (joinT T f t room mv) i j=if i=f∧j=tlen T f then ⟨t,room,tlen T t,mv⟩ else if i=t∧j=tlen T t then ⟨f,0,tlen T f,Mv.none⟩ else entAt T i j:=by
  unfold entAt joinT upd tlen
  by_cases h1:i=t
  · subst h1
    rw [if_pos rfl,if_neg (fun h=>hft h.1.symm),pI];by_cases h2:j=(T i).length
    · rw [if_pos h2,if_pos ⟨rfl,h2⟩]
    · rw [if_neg h2,if_neg (fun h=>h2 h.2)]
  · rw [if_neg h1]
    by_cases h2:i=f
    · subst h2
      rw [if_pos rfl,pI];by_cases h3:j=(T i).length
      · rw [if_pos h3,if_pos ⟨rfl,h3⟩]
      · rw [if_neg h3,if_neg (fun h=>h3 h.2),if_neg (fun h=>h1 h.1)]
    · rw [if_neg h2,if_neg (fun h=>h2 h.1),if_neg (fun h=>h1 h.1)]
theorem uG (hft:f≠t) (hf:f<k) (ht:t<k) (W:(T.net k).Wf):((joinT T f t room mv).net k).Wf:=by
  have hlen:=wS (T:=T) (room:=room) (mv:=mv) hft
  have hat:=Bk (T:=T) (room:=room) (mv:=mv) hft
  have key:∀ i,i<k→∀ j,j<tlen (joinT T f t room mv) i→(i=f∧j=tlen T f)∨(i=t∧j=tlen T t)∨(¬ (i=f∧j=tlen T f)∧¬ (i=t∧j=tlen T t)∧j<tlen T i):=by
    intro i hi j hj;rw [hlen] at hj;by_cases h1:i=f∧j=tlen T f
    · exact .inl h1
    · by_cases h2:i=t∧j=tlen T t
      · exact .inr (.inl h2)
      · refine .inr (.inr ⟨h1,h2,?_⟩)
        by_cases e1:i=f
        · subst e1;rw [if_pos rfl,if_neg hft] at hj;have:j≠tlen T i:=fun e=>h1 ⟨rfl,e⟩;omega
        · by_cases e2:i=t
          · subst e2;rw [if_neg e1,if_pos rfl] at hj;have:j≠tlen T i:=fun e=>h2 ⟨rfl,e⟩;omega
          · rw [if_neg e1,if_neg e2] at hj;omega
  have hne':¬ (t=f∧tlen T t=tlen T f):=fun h=>hft h.1.symm
  have kold:∀ i,i<k→∀ j,j<tlen T i→entAt (joinT T f t room mv) i j=entAt T i j:=by
    intro i hi j hj;rw [hat,if_neg (fun h=>by rw [h.1,h.2] at hj;omega),if_neg (fun h=>by rw [h.1,h.2] at hj;omega)]
  have hW:∀ i,i<k→∀ j,j<tlen T i→(entAt T i j).to<k∧(entAt T i j).to≠i∧(entAt T i j).back<tlen T (entAt T i j).to∧(entAt T (entAt T i j).to (entAt T i j).back).to=i∧(entAt T (entAt T i j).to (entAt T i j).back).back=j:=
    fun i hi j hj=>⟨W.to_lt i hi j hj,W.to_ne i hi j hj,W.bk_lt i hi j hj,W.bk_to i hi j hj,W.bk_bk i hi j hj⟩
  have all:∀ i,i<k→∀ j,j<tlen (joinT T f t room mv) i→(entAt (joinT T f t room mv) i j).to<k∧(entAt (joinT T f t room mv) i j).to≠i∧(entAt (joinT T f t room mv) i j).back<tlen (joinT T f t room mv) (entAt (joinT T f t room mv) i j).to ∧
      (entAt (joinT T f t room mv) (entAt (joinT T f t room mv) i j).to (entAt (joinT T f t room mv) i j).back).to=i∧(entAt (joinT T f t room mv) (entAt (joinT T f t room mv) i j).to (entAt (joinT T f t room mv) i j).back).back=j:=by
    intro i hi j hj;rcases key i hi j hj with ⟨rfl,rfl⟩|⟨rfl,rfl⟩|⟨h1,h2,h3⟩
    · have e1:entAt (joinT T i t room mv) i (tlen T i)=⟨t,room,tlen T t,mv⟩:=by rw [hat,if_pos ⟨rfl,rfl⟩]
      have e2:entAt (joinT T i t room mv) t (tlen T t)=⟨i,0,tlen T i,Mv.none⟩:=by rw [hat,if_neg hne',if_pos ⟨rfl,rfl⟩]
      rw [e1];dsimp only;rw [e2];refine ⟨ht,fun h=>hft h.symm,?_,rfl,rfl⟩;rw [hlen,if_pos rfl];omega
    · have e1:entAt (joinT T f i room mv) i (tlen T i)=⟨f,0,tlen T f,Mv.none⟩:=by rw [hat,if_neg hne',if_pos ⟨rfl,rfl⟩]
      have e2:entAt (joinT T f i room mv) f (tlen T f)=⟨i,room,tlen T i,mv⟩:=by rw [hat,if_pos ⟨rfl,rfl⟩]
      rw [e1];dsimp only;rw [e2];refine ⟨hf,hft,?_,rfl,rfl⟩;rw [hlen,if_pos rfl];omega
    · rw [kold i hi j h3]
      obtain ⟨g1,g2,g3,g4,g5⟩:=hW i hi j h3;rw [kold _ g1 _ g3];refine ⟨g1,g2,?_,g4,g5⟩;rw [hlen];omega
  exact ⟨fun i hi j hj=>(all i hi j hj).1,fun i hi j hj=>(all i hi j hj).2.1,fun i hi j hj=>(all i hi j hj).2.2.1,fun i hi j hj=>(all i hi j hj).2.2.2.1,fun i hi j hj=>(all i hi j hj).2.2.2.2⟩
theorem Dp {B:Int} (hft:f≠t) (hf:f<k) (ht:t<k) (hr:0≤room∧room≤B) (W:(T.net k).Wf) (O:Ok (T.net k) T.room B):Ok ((joinT T f t room mv).net k) (joinT T f t room mv).room B:=by
  have hlen:=wS (T:=T) (room:=room) (mv:=mv) hft
  have hat:=Bk (T:=T) (room:=room) (mv:=mv) hft
  have W':=uG (room:=room) (mv:=mv) hft hf ht W
  have hroom:∀ i j,(joinT T f t room mv).room i j=if i=f∧j=tlen T f then room else if i=t∧j=tlen T t then 0 else T.room i j:=by
    intro i j;show (entAt (joinT T f t room mv) i j).room=_;rw [hat];split
    · rfl
    · split <;> rfl
  have hold:∀ i,i<k→∀ j,j<tlen (joinT T f t room mv) i→¬ (i=f∧j=tlen T f)→¬ (i=t∧j=tlen T t)→j<tlen T i:=by
    intro i hi j hj h1 h2;rw [hlen] at hj;by_cases e1:i=f
    · subst e1;rw [if_pos rfl,if_neg hft] at hj;have:j≠tlen T i:=fun e=>h1 ⟨rfl,e⟩;omega
    · by_cases e2:i=t
      · subst e2;rw [if_neg e1,if_pos rfl] at hj;have:j≠tlen T i:=fun e=>h2 ⟨rfl,e⟩;omega
      · rw [if_neg e1,if_neg e2] at hj;omega
  refine ⟨fun i hi j hj=>?_,fun i hi j hj=>?_⟩
  · rw [hroom]
    split
    · exact hr.1
    · rename_i h1
      split
      · exact Int.le_refl _
      · rename_i h2
        exact O.nn i hi j (hold i hi j hj h1 h2)
  · have hne':¬ (t=f∧tlen T t=tlen T f):=fun h=>hft h.1.symm
    show (joinT T f t room mv).room i j+(joinT T f t room mv).room (entAt (joinT T f t room mv) i j).to (entAt (joinT T f t room mv) i j).back≤B
    by_cases h1:i=f∧j=tlen T f
    · rw [hat,if_pos h1]
      dsimp only;rw [hroom,hroom,if_pos h1,if_neg hne',if_pos ⟨rfl,rfl⟩];omega
    · by_cases h2:i=t∧j=tlen T t
      · rw [hat,if_neg h1,if_pos h2]
        dsimp only;rw [hroom,hroom,if_neg h1,if_pos h2,if_pos ⟨rfl,rfl⟩];omega
      · have h3:=hold i hi j hj h1 h2
        have g1:=W.to_lt i hi j h3
        have g3:=W.bk_lt i hi j h3
        rw [hat,if_neg h1,if_neg h2,hroom,hroom,if_neg h1,if_neg h2]
        have e1:¬ ((entAt T i j).to=f∧(entAt T i j).back=tlen T f):=fun h=>by
          have:(entAt T i j).back<tlen T (entAt T i j).to:=g3
          rw [h.1,h.2] at this;omega
        have e2:¬ ((entAt T i j).to=t∧(entAt T i j).back=tlen T t):=fun h=>by
          have:(entAt T i j).back<tlen T (entAt T i j).to:=g3
          rw [h.1,h.2] at this;omega
        rw [if_neg e1,if_neg e2];exact O.pair i hi j h3
theorem wT {e:Ent} {S:Nat→Bool} (hf:f<k):resid (Tab.net (upd T f (T f++[e])) k) (Tab.room (upd T f (T f++[e]))) S=resid (T.net k) T.room S+(if S f=true∧S e.to=false then e.room else 0):=by
 unfold resid
 have hrow:∀ i,i≠f→upd T f (T f++[e]) i=T i:=fun i h=>bP _ _ h
 have h:=qE (f:=fun i=>sm (fun j=>if S i=true∧S ((T.net k).to i j)=false then T.room i j else 0) ((T.net k).n i))
  (g:=fun i=>sm (fun j=>if S i=true∧S ((Tab.net (upd T f (T f++[e])) k).to i j)=false then Tab.room (upd T f (T f++[e])) i j else 0) ((Tab.net (upd T f (T f++[e])) k).n i)) hf
  (fun i hi hne=>by
   show sm (fun j=>if S i=true∧S (entAt (upd T f (T f++[e])) i j).to=false then (entAt (upd T f (T f++[e])) i j).room else 0) (tlen (upd T f (T f++[e])) i)=_
   unfold entAt tlen
   rw [hrow i hne];rfl)
 show sm _ k=_
 refine h.trans ?_
 congr 1
 have e1:sm (fun j=>if S f=true∧S (entAt (upd T f (T f++[e])) f j).to=false then (entAt (upd T f (T f++[e])) f j).room else 0) (tlen (upd T f (T f++[e])) f) =
   sm (fun j=>if S f=true∧S (entAt T f j).to=false then (entAt T f j).room else 0) (tlen T f)+(if S f=true∧S e.to=false then e.room else 0):=by
  have hl:tlen (upd T f (T f++[e])) f=tlen T f+1:=by unfold tlen;rw [bR];simp
  rw [hl,sm];have hlast:entAt (upd T f (T f++[e])) f (tlen T f)=e:=by unfold entAt tlen;rw [bR,pI,if_pos rfl]
  rw [hlast];congr 1;refine dW fun j hj=>?_
  have:entAt (upd T f (T f++[e])) f j=entAt T f j:=by unfold entAt;rw [bR,pI,if_neg (by unfold tlen at hj;omega)]
  rw [this]
 show sm (fun j=>if S f=true∧S (entAt (upd T f (T f++[e])) f j).to=false then (entAt (upd T f (T f++[e])) f j).room else 0) (tlen (upd T f (T f++[e])) f) -
   sm (fun j=>if S f=true∧S (entAt T f j).to=false then (entAt T f j).room else 0) (tlen T f)=_
 omega
end
def capJ (S:Nat→Bool):List Jn→Int
 | []=>0
 | j::J=>(if S j.f=true∧S j.t=false then j.room else 0)+capJ S J
theorem cP (S:Nat→Bool) (J J':List Jn):capJ S (J++J')=capJ S J+capJ S J':=by
 induction J with
 | nil=>simp [capJ]
 | cons j J ih=>simp only [List.cons_append,capJ,ih];omega
theorem zK {S:Nat→Bool} {J:List Jn} (h:∀ j ∈ J,S j.f=true→S j.t=false→j.room=0):capJ S J=0:=by
  induction J with
  | nil=>rfl
  | cons j J ih=>
    rw [capJ,ih (fun x hx=>h x (List.mem_cons_of_mem _ hx))];split
    · rename_i h1;rw [h j (List.mem_cons_self ..) h1.1 h1.2];rfl
    · rfl
theorem Yu {S:Nat→Bool} {J:List Jn} (h:∀ j ∈ J,0≤j.room):0≤capJ S J:=by
  induction J with
  | nil=>exact Int.le_refl 0
  | cons j J ih=>
    rw [capJ];have h1:=ih (fun x hx=>h x (List.mem_cons_of_mem _ hx));have h2:=h j (List.mem_cons_self ..);split <;> omega
theorem Mt {k:Nat} {S:Nat→Bool}:resid (Tab.net (fun _=>[]) k) (Tab.room (fun _=>[])) S=0:=eQ fun i _=>rfl
theorem zL {k:Nat} {B:Int} (hB:0≤B):∀ (J:List Jn),(∀ j ∈ J,j.f≠j.t∧j.f<k∧j.t<k∧0≤j.room∧j.room≤B)→((joins J).net k).Wf∧Ok ((joins J).net k) (joins J).room B∧∀ S,resid ((joins J).net k) (joins J).room S=capJ S J:=by
  have key:∀ (n:Nat) (J:List Jn),J.length=n→(∀ j ∈ J,j.f≠j.t∧j.f<k∧j.t<k∧0≤j.room∧j.room≤B)→((joins J).net k).Wf∧Ok ((joins J).net k) (joins J).room B∧∀ S,resid ((joins J).net k) (joins J).room S=capJ S J:=by
    intro n;induction n with
    | zero=>
      intro J h _;have:J=[]:=List.eq_nil_of_length_eq_zero h;subst this
      exact ⟨⟨fun i _ j hj=>absurd hj (Nat.not_lt_zero j),fun i _ j hj=>absurd hj (Nat.not_lt_zero j),fun i _ j hj=>absurd hj (Nat.not_lt_zero j),fun i _ j hj=>absurd hj (Nat.not_lt_zero j),fun i _ j hj=>absurd hj (Nat.not_lt_zero j)⟩,
        ⟨fun i _ j hj=>absurd hj (Nat.not_lt_zero j),fun i _ j hj=>absurd hj (Nat.not_lt_zero j)⟩,fun S=>Mt⟩
    | succ n ih=>
      intro J h hn;obtain ⟨J',j,rfl⟩:∃ J' j,J=J'++[j]:=⟨J.dropLast,J.getLast (by intro e;subst e;simp at h),(List.dropLast_concat_getLast _).symm⟩;obtain ⟨W,O,hr⟩:=ih J' (by simpa using h) (fun x hx=>hn x (List.mem_append_left _ hx));obtain ⟨h1,h2,h3,h4,h5⟩:=hn j (List.mem_append_right _ (by simp));rw [fL];refine ⟨uG h1 h2 h3 W,Dp h1 h2 h3 ⟨h4,h5⟩ W O,fun S=>?_⟩;rw [cP];unfold joinT;have e1:=wT (T:=joins J') (f:=j.f) (k:=k) (e:=⟨j.t,j.room,(joins J' j.t).length,j.mv⟩) (S:=S) h2;have e2:=wT (T:=upd (joins J') j.f (joins J' j.f++[⟨j.t,j.room,(joins J' j.t).length,j.mv⟩])) (f:=j.t) (k:=k) (e:=⟨j.f,0,(joins J' j.f).length,Mv.none⟩) (S:=S) h3;rw [bP (i:=j.t) _ _ (fun e=>h1 e.symm)] at e2;rw [e2,e1,hr S];simp only [capJ];split <;> split <;> omega
  intro J h;exact key _ J rfl h
section
variable {P T:Nat} {pe xs:List Int} {hs:List Hd}
def JRoom (B:Int) (j:Jn):Prop:=0≤j.room∧j.room≤B
theorem Hk {p:Nat} (hpe:∀ k,k<pe.length→0≤pe.getD k 0∧pe.getD k 0≤1000):∀ j ∈ kD P T pe xs p,JRoom 1099511627776 j:=by
  intro j hj;unfold kD dL fG at hj;rcases List.mem_cons.1 hj with rfl|hj
  · unfold JRoom jBeg
    dsimp only;by_cases h:p<pe.length
    · have:=hpe p h;omega
    · rw [List.getD_eq_getElem?_getD,List.getElem?_eq_none (by omega)];simp
  · rcases List.mem_append.1 hj with hj|hj
    · obtain ⟨t,_,rfl⟩:=List.mem_map.1 hj
      unfold JRoom jWait fM;dsimp only;omega
    · split at hj
      · obtain ⟨t,_,rfl⟩:=List.mem_map.1 hj
        unfold JRoom jExit fM;dsimp only;omega
      · cases hj
theorem Dq (hpe:∀ k,k<pe.length→0≤pe.getD k 0∧pe.getD k 0≤1000):∀ n,∀ j ∈ bF P T pe xs n,JRoom 1099511627776 j:=by
  intro n;induction n with
  | zero=>intro j hj;cases hj
  | succ n ih=>
    intro j hj;rcases List.mem_append.1 hj with hj|hj
    · exact ih j hj
    · exact Hk hpe j hj
theorem Hl (hw:∀ i,i<hs.length→1≤(hs.getD i aJp).wide∧(hs.getD i aJp).wide≤50):∀ {n},n≤hs.length→∀ j ∈ eJ P T hs n,JRoom 1099511627776 j:=by
  intro n;induction n with
  | zero=>intro _ j hj;cases hj
  | succ n ih=>
    intro hn j hj;rcases List.mem_append.1 hj with hj|hj
    · exact ih (by omega) j hj
    · obtain ⟨t,_,rfl⟩:=List.mem_map.1 hj
      have:=hw n (by omega)
      unfold JRoom jHead;dsimp only;omega
theorem tL (hpe:∀ k,k<pe.length→0≤pe.getD k 0∧pe.getD k 0≤1000) (hh:∀ i,i<hs.length→HdOk P (hs.getD i aJp)):capJ (fun v=>decide (v=P*(T+1))) (jAll P T pe xs hs)≤1000*P:=by
  have h1 : ∀ n,n≤P→capJ (fun v=>decide (v=P*(T+1))) (bF P T pe xs n)≤1000*n:=by
    intro n;induction n with
    | zero=>intro _;simp [bF,capJ]
    | succ n ih=>
      intro hn;rw [bF,cP];have h2:=ih (by omega)
      have h3 : capJ (fun v=>decide (v=P*(T+1))) (kD P T pe xs n)≤1000:=by
        unfold kD
        rw [capJ,zK (J:=dL P n T++_)]
        · have hb:(jBeg P T pe n).room≤1000:=by
            unfold jBeg;dsimp only
            by_cases h:n<pe.length
            · have:=hpe n h;omega
            · rw [List.getD_eq_getElem?_getD,List.getElem?_eq_none (by omega)];simp
          split <;> omega
        · intro j hj hf
          exfalso
          have hf':j.f=P*(T+1):=by simpa using hf
          unfold dL fG at hj
          rcases List.mem_append.1 hj with hj|hj
          · obtain ⟨t,ht,rfl⟩:=List.mem_map.1 hj
            have:=mH (P:=P) (T:=T) (t:=t) (p:=n) (by have:=List.mem_range.1 ht;omega) (by omega)
            have e:(jWait P n t).f=nd P t n:=rfl
            omega
          · split at hj
            · obtain ⟨t,ht,rfl⟩:=List.mem_map.1 hj
              have:=mH (P:=P) (T:=T) (t:=t) (p:=n) (by have:=List.mem_range.1 ht;omega) (by omega)
              have e:(jExit P T n t).f=nd P t n:=rfl
              omega
            · cases hj
      push_cast
      omega
  have h2:∀ n,n≤hs.length→capJ (fun v=>decide (v=P*(T+1))) (eJ P T hs n)=0:=by
    intro n;induction n with
    | zero=>intro _;rfl
    | succ n ih=>
      intro hn;rw [eJ,cP,ih (by omega),zK]
      · rfl
      · intro j hj hf
        exfalso
        have hf':j.f=P*(T+1):=by simpa using hf
        obtain ⟨t,ht,rfl⟩:=List.mem_map.1 hj;have h9:=hh n (by omega);unfold HdOk at h9;have:=mH (P:=P) (T:=T) (t:=t) (p:=(hs.getD n aJp).fr.toNat) (by have:=List.mem_range.1 ht;omega) (by omega);have e:(jHead P (hs.getD n aJp) t).f=nd P t (hs.getD n aJp).fr.toNat:=rfl;omega
  unfold jAll
  rw [cP,h2 _ (Nat.le_refl _)];have:=h1 P (Nat.le_refl _);omega
end
def layT (P T:Nat) (pe xs:List Int) (hs:List Hd):Tab:=joins (jAll P T pe xs hs)
def layN (P T:Nat) (pe xs:List Int) (hs:List Hd):Net:=(layT P T pe xs hs).net (P*(T+1)+2)
structure LayOk (P T:Nat) (pe xs:List Int) (hs:List Hd):Prop where
 wf:(layN P T pe xs hs).Wf
 ok:Ok (layN P T pe xs hs) (layT P T pe xs hs).room 2199023255552
 cap:∀ S,resid (layN P T pe xs hs) (layT P T pe xs hs).room S=capJ S (jAll P T pe xs hs)
 beg:resid (layN P T pe xs hs) (layT P T pe xs hs).room (fun v=>decide (v=P*(T+1)))≤1000*P
theorem Rs {P:Int} {ps:List Psg} {xs:List Int} {out:Int} (h:StV P ps xs):∀ i,i<(hds out xs ps).length→1≤((hds out xs ps).getD i aJp).wide∧((hds out xs ps).getD i aJp).wide≤50:=by
  have key:∀ n,n≤ps.length→∀ x ∈ hdsTo out xs ps n,1≤x.wide∧x.wide≤50:=by
    intro n;induction n with
    | zero=>intro _ x hx;cases hx
    | succ n ih=>
      intro hn x hx;rcases List.mem_append.1 hx with hx|hx
      · exact ih (by omega) x hx
      · have hp:=bW.1 (h.pas n (by omega))
        unfold hdsOf hdsA hdsB at hx
        split at hx
        · cases hx
        · rcases List.mem_append.1 hx with hx|hx
          · split at hx
            · cases hx
            · rw [List.mem_singleton.1 hx];dsimp only;omega
          · split at hx
            · rw [List.mem_singleton.1 hx];dsimp only;omega
            · cases hx
  intro i hi;rw [List.getD_eq_getElem?_getD,List.getElem?_eq_getElem hi];exact key _ (Nat.le_refl _) _ (List.getElem_mem hi)
theorem qN {P T:Nat} {ps:List Psg} {pe xs:List Int} {out:Int} (h:StV P ps xs) (hpe:∀ k,k<pe.length→0≤pe.getD k 0∧pe.getD k 0≤1000):LayOk P T pe xs (hds out xs ps):=by
 obtain ⟨W,O,hr⟩:=zL (k:=P*(T+1)+2) (B:=2199023255552) (by omega) (jAll P T pe xs (hds out xs ps)) (by
  intro j hj
  have h1:JOk P T j∧JRoom 1099511627776 j:=by
   rcases List.mem_append.1 hj with hj|hj
   ·exact ⟨qM (Nat.le_refl _) j hj,Dq hpe P j hj⟩
   ·exact ⟨zJ (tK h) (Nat.le_refl _) j hj,Hl (Rs h) (Nat.le_refl _) j hj⟩
  obtain ⟨⟨a1,a2,a3⟩,a4,a5⟩:=h1;exact ⟨a1,a2,a3,a4,by omega⟩)
 exact ⟨W,O,hr,Int.le_trans (Int.le_of_eq (hr _)) (tL hpe (tK h))⟩
structure EndP (P T:Nat) (pe xs:List Int) (hs:List Hd) (v:Int) (r:RM) (L:Nat→Int):Prop where
 fl:Fl (layN P T pe xs hs) (layT P T pe xs hs).room r (P*(T+1)) (P*(T+1)+1) v
 nn:0≤v
 lev:LevOk (layN P T pe xs hs) r (P*(T+1)) L
 full:L (P*(T+1)+1)<0
def fstB (f:Nat→Bool):Nat→Nat
 | 0=>0
 | n+1=>if fstB f n<n then fstB f n else if f n=true then n else n+1
theorem Bl {f:Nat→Bool}:∀ n,fstB f n≤n:=by
 intro n;induction n with
 | zero=>exact Nat.le_refl _
 | succ n ih=>rw [fstB];split;omega;split <;> omega
theorem kY {f:Nat→Bool}:∀ {n},(∀ q,q<n→f q=false)→fstB f n=n:=by
 intro n;induction n with
 | zero=>intro _;rfl
 | succ n ih=>intro h;rw [fstB,ih (fun q hq=>h q (by omega)),if_neg (by omega),if_neg (by rw [h n (by omega)];simp)]
theorem Bm {f:Nat→Bool} {t:Nat} (h1:∀ q,q<t→f q=false) (h2:f t=true):∀ {n},t<n→fstB f n=t:=by
  intro n;induction n with
  | zero=>intro h;omega
  | succ n ih=>
    intro h;by_cases e:t=n
    · subst e;rw [fstB,kY h1,if_neg (by omega),if_pos h2]
    · rw [fstB,ih (by omega),if_pos (by omega)]
def cutAt (P T:Nat) (L:Nat→Int) (p:Nat):Nat:=fstB (fun t=>decide (0≤L (nd P t p))) (T+1)
def sumI (l:List Int):Nat→Int:=sm (fun k=>l.getD k 0)
theorem wU {N:Net} {r:RM} {S:Nat→Bool} (hn:∀ i,i<N.k→∀ j,j<N.n i→0≤r i j) (h:resid N r S=0):∀ u,u<N.k→S u=true→∀ j,j<N.n u→0<r u j→S (N.to u j)=true:=by
  intro u hu hS j hj hr;have h1:=qG (f:=fun i=>sm (fun j=>if S i=true∧S (N.to i j)=false then r i j else 0) (N.n i)) (fun i hi=>dC fun j hj=>by split;exact hn i hi j hj;exact Int.le_refl _) h u hu;have h2:=qG (f:=fun j=>if S u=true∧S (N.to u j)=false then r u j else 0) (fun j hj=>by split;exact hn u hu j hj;exact Int.le_refl _) h1 j hj;cases hs:S (N.to u j) with
  | true=>rfl
  | false=>
    skip
    rw [if_pos ⟨hS,hs⟩] at h2;omega
def bC (L:Nat→Int) (v:Nat):Bool:=decide (0≤L v)
section
variable {P T:Nat} {pe xs:List Int} {hs:List Hd} {v v':Int} {r r':RM} {L L':Nat→Int}
theorem Bn {S:Nat→Bool} (hb:S (P*(T+1))=true) (hx:S (P*(T+1)+1)=false):ind S (P*(T+1))-ind S (P*(T+1)+1)=1:=by
 unfold ind;rw [hb,hx];rfl
theorem EndP.bound (O:LayOk P T pe xs hs) (h:EndP P T pe xs hs v r L) {S:Nat→Bool} (hb:S (P*(T+1))=true) (hx:S (P*(T+1)+1)=false):v≤capJ S (jAll P T pe xs hs):=by
 have h1:=mD (S:=S) (h.fl.ok O.ok)
 rw [h.fl.cut,O.cap,Bn hb hx] at h1;omega
theorem EndP.at_reach (O:LayOk P T pe xs hs) (h:EndP P T pe xs hs v r L):bC L (P*(T+1))=true∧bC L (P*(T+1)+1)=false∧capJ (bC L) (jAll P T pe xs hs)=v:=by
  have hb:bC L (P*(T+1))=true:=by unfold bC;rw [h.lev.b0];rfl
  have hx:bC L (P*(T+1)+1)=false:=by unfold bC;rw [decide_eq_false_iff_not];have:=h.full;omega
  refine ⟨hb,hx,?_⟩
  have h0:resid (layN P T pe xs hs) r (bC L)=0:=eQ fun i hi=>eQ fun j hj=>by
    split
    · rename_i hc
      obtain ⟨h1,h2⟩:=hc;unfold bC at h1 h2;simp only [decide_eq_true_eq,decide_eq_false_iff_not] at h1 h2;have h3:=h.fl.nn i hi j hj;by_cases h4:0<r i j
      · exact absurd (h.lev.cl i hi h1 j hj h4) h2
      · omega
    · rfl
  rw [h.fl.cut,O.cap,Bn hb hx] at h0;omega
theorem EndP.unique (O:LayOk P T pe xs hs) (h:EndP P T pe xs hs v r L) (h':EndP P T pe xs hs v' r' L'):v=v':=by
 obtain ⟨a1,a2,a3⟩:=h.at_reach O;obtain ⟨b1,b2,b3⟩:=h'.at_reach O;have h1:=h.bound O b1 b2;have h2:=h'.bound O a1 a2;omega
theorem EndP.inside (O:LayOk P T pe xs hs) (h:EndP P T pe xs hs v r L) {S:Nat→Bool} (hb:S (P*(T+1))=true) (hx:S (P*(T+1)+1)=false) (hc:capJ S (jAll P T pe xs hs)=v):∀ u,u<P*(T+1)+2→0≤L u→S u=true:=by
 have h0:resid (layN P T pe xs hs) r S=0:=by rw [h.fl.cut,O.cap,Bn hb hx];omega
 exact h.lev.least hb (wU h.fl.nn h0)
theorem EndP.same (O:LayOk P T pe xs hs) (h:EndP P T pe xs hs v r L) (h':EndP P T pe xs hs v' r' L'):∀ u,u<P*(T+1)+2→bC L u=bC L' u:=by
 have e:=h.unique O h'
 obtain ⟨a1,a2,a3⟩:=h.at_reach O;obtain ⟨b1,b2,b3⟩:=h'.at_reach O;intro u hu;have h1:=h.inside O b1 b2 (by omega) u hu;have h2:=h'.inside O a1 a2 (by omega) u hu;unfold bC at h1 h2 ⊢;exact decide_eq_decide.2 ⟨fun h=>of_decide_eq_true (h1 h),fun h=>of_decide_eq_true (h2 h)⟩
theorem EndP.cut_same (O:LayOk P T pe xs hs) (h:EndP P T pe xs hs v r L) (h':EndP P T pe xs hs v' r' L') {p:Nat} (hp:p<P):cutAt P T L p=cutAt P T L' p:=by
  have key:∀ n,n≤T+1→fstB (fun t=>decide (0≤L (nd P t p))) n=fstB (fun t=>decide (0≤L' (nd P t p))) n:=by
    intro n;induction n with
    | zero=>intro _;rfl
    | succ n ih=>
      intro hn;rw [fstB,fstB,ih (by omega)];have:=h.same O h' (nd P n p) (by have:=mH (P:=P) (T:=T) (t:=n) (p:=p) (by omega) hp;omega);unfold bC at this;rw [this]
  exact key _ (Nat.le_refl _)
end
open Classical in
noncomputable def mfv (P T:Nat) (pe xs:List Int) (hs:List Hd):Int:=if h:∃ v,∃ r L,EndP P T pe xs hs v r L then Classical.choose h else 0
open Classical in
noncomputable def mfc (P T:Nat) (pe xs:List Int) (hs:List Hd) (p:Nat):Nat:=if h:∃ L,∃ v r,EndP P T pe xs hs v r L then cutAt P T (Classical.choose h) p else 0
section
variable {P T:Nat} {pe xs:List Int} {hs:List Hd} {v:Int} {r:RM} {L:Nat→Int}
theorem Bo (O:LayOk P T pe xs hs) (h:EndP P T pe xs hs v r L):mfv P T pe xs hs=v:=by
 have he:∃ v,∃ r L,EndP P T pe xs hs v r L:=⟨v,r,L,h⟩
 unfold mfv
 rw [dif_pos he];obtain ⟨r',L',h'⟩:=Classical.choose_spec he;exact h'.unique O h
theorem Ru (O:LayOk P T pe xs hs) (h:EndP P T pe xs hs v r L) {p:Nat} (hp:p<P):mfc P T pe xs hs p=cutAt P T L p:=by
 have he:∃ L,∃ v r,EndP P T pe xs hs v r L:=⟨L,v,r,h⟩
 unfold mfc
 rw [dif_pos he];obtain ⟨v',r',h'⟩:=Classical.choose_spec he;exact h'.cut_same O h hp
end
def opn (out:Int) (help:Bool) (p:Psg):Bool:=(decide (p.kind=1)||(decide (p.kind=4)&&decide (bitI out p.mach=0)))||(decide (p.kind=5)&&help)
theorem Rv {out:Int} {help:Bool} {p:Psg} (h:(p.kind=1∨p.kind=4∧out/2^p.mach.toNat%2=0)∨p.kind=5∧help=true):opn out help p=true:=by
 unfold opn bitI
 simp only [Bool.or_eq_true,Bool.and_eq_true,decide_eq_true_eq]
 exact h
theorem aHj {out:Int} {help:Bool} {p:Psg} (h:(¬p.kind=1∧(¬p.kind=4∨¬out/2^p.mach.toNat%2=0))∧(¬p.kind=5∨help=false)):opn out help p=false:=by
 unfold opn bitI
 simp only [Bool.or_eq_false_iff,Bool.and_eq_false_iff,decide_eq_false_iff_not]
 exact h
def othr (p:Psg) (a:Int):Int:=if p.a=a then p.b else if p.b=a then p.a else -1
def oth (out:Int) (help:Bool) (p:Psg) (a:Int):Int:=if opn out help p=false then -1 else othr p a
inductive Wk (ps:List Psg) (out:Int) (help:Bool):Nat→Nat→Nat→List Nat→Prop
 | nil (a:Nat):Wk ps out help a a 0 []
 | cons {a b c n k:Nat} {l:List Nat} (hk:k<ps.length) (ho:oth out help (ps.getD k aJj) a=(b:Int)) (h:Wk ps out help b c n l):Wk ps out help a c ((ps.getD k aJj).ticks.toNat+n) (k::l)
def PsV (P:Nat) (ps:List Psg):Prop:=∀ k,k<ps.length→(0≤(ps.getD k aJj).a∧(ps.getD k aJj).a<P)∧(0≤(ps.getD k aJj).b∧(ps.getD k aJj).b<P)∧1≤(ps.getD k aJj).ticks∧(ps.getD k aJj).ticks≤20
theorem StV.psv {P:Nat} {ps:List Psg} {xs:List Int} (h:StV P ps xs):PsV P ps:=fun k hk=>by
 have:=bW.1 (h.pas k hk)
 omega
theorem oO {P:Nat} {ps:List Psg} (V:PsV P ps) {out:Int} {help:Bool} {k:Nat} (hk:k<ps.length) {a:Int} (h:0≤oth out help (ps.getD k aJj) a):opn out help (ps.getD k aJj)=true∧oth out help (ps.getD k aJj) a<P∧((ps.getD k aJj).a=a∧oth out help (ps.getD k aJj) a=(ps.getD k aJj).b∨(ps.getD k aJj).b=a∧oth out help (ps.getD k aJj) a=(ps.getD k aJj).a):=by
  have:=V k hk
  unfold oth othr at h ⊢
  split at h
  · omega
  · rename_i h1
    refine ⟨by simpa using h1,?_⟩
    rw [if_neg h1];split at h
    · rename_i h2;rw [if_pos h2];exact ⟨by omega,.inl ⟨h2,rfl⟩⟩
    · rename_i h2
      rw [if_neg h2];split at h
      · rename_i h3;rw [if_pos h3];exact ⟨by omega,.inr ⟨h3,rfl⟩⟩
      · omega
def FixAt (ps:List Psg) (out:Int) (help:Bool) (tk:Nat→Int) (i k:Nat):Prop:=∀ b:Nat,oth out help (ps.getD k aJj) i=(b:Int)→0≤tk b→0≤tk i∧tk i≤tk b+(ps.getD k aJj).ticks
def potF (P:Nat) (tk:Nat→Int):Int:=sm (fun i=>if tk i<0 then 1000 else tk i) P
def cntF (P:Nat) (tk:Nat→Int):Int:=sm (fun i=>if tk i<0 then 0 else 1) P
structure FarI (P:Nat) (ps:List Psg) (out:Int) (help:Bool) (to:Nat) (tk:Nat→Int):Prop where
 to0:tk to=0
 low:∀ i,-1≤tk i
 walk:∀ i,i<P→0≤tk i→∃ l,Wk ps out help i to (tk i).toNat l
 bd:∀ i,i<P→tk i≤20*(cntF P tk-1)
theorem Yv {P:Nat} {tk:Nat→Int}:cntF P tk≤P:=by
 unfold cntF
 induction P with
 | zero=>exact Int.le_refl 0
 | succ n ih=>rw [sm];split <;> omega
theorem vE {P:Nat} {tk:Nat→Int}:0≤potF P tk:=dC fun i _=>by split <;> omega
def tk0 (to:Nat) (i:Nat):Int:=if i=to then 0 else -1
section
variable {P:Nat} {ps:List Psg} {out:Int} {help:Bool} {to:Nat} {tk:Nat→Int}
theorem FarI.init (hto:to<P):FarI P ps out help to (tk0 to):=by
  have h1:tk0 to to=0:=by unfold tk0;rw [if_pos rfl]
  have hc:1≤cntF P (tk0 to):=by
    have:=oE (f:=fun i=>if tk0 to i<0 then 0 else 1) (fun i _=>by split <;> omega) hto
    rw [h1] at this;exact this
  refine ⟨h1,fun i=>?_,fun i _ h0=>?_,fun i _=>?_⟩
  · unfold tk0;split <;> omega
  · unfold tk0 at h0 ⊢
    split at h0
    · rename_i e;subst e;rw [if_pos rfl];exact ⟨_,Wk.nil _⟩
    · omega
  · unfold tk0 at hc ⊢;split <;> omega
theorem FarI.small (I:FarI P ps out help to tk) (hP:P≤10) {i:Nat} (hi:i<P):tk i≤180:=by
 have:=I.bd i hi
 have:=Yv (P:=P) (tk:=tk)
 omega
theorem FarI.relax (I:FarI P ps out help to tk) (V:PsV P ps) {i b k:Nat} (hi:i<P) (hb:b<P) (hk:k<ps.length) (ho:oth out help (ps.getD k aJj) i=(b:Int)) (h0:0≤tk b) (hl:tk i<0∨tk b+(ps.getD k aJj).ticks<tk i) :
    FarI P ps out help to (upd tk i (tk b+(ps.getD k aJj).ticks))∧potF P (upd tk i (tk b+(ps.getD k aJj).ticks))+1≤potF P tk∨900<tk b+(ps.getD k aJj).ticks:=by
  by_cases hbig:900<tk b+(ps.getD k aJj).ticks
  · exact .inr hbig
  refine .inl ?_
  have ht:1≤(ps.getD k aJj).ticks∧(ps.getD k aJj).ticks≤20:=(V k hk).2.2
  have hti:i≠to:=fun e=>by subst e;have:=I.to0;omega
  have hbi:b≠i:=fun e=>by subst e;omega
  have hc:cntF P (upd tk i (tk b+(ps.getD k aJj).ticks))=cntF P tk+(if tk i<0 then 1 else 0):=by
    unfold cntF
    rw [qE (f:=fun i=>if tk i<0 then 0 else 1) hi (fun j _ hj=>by rw [bP _ _ hj]),bR,if_neg (by omega)];split <;> omega
  refine ⟨⟨by rw [bP _ _ (fun e=>hti e.symm)];exact I.to0,fun j=>?_,fun j hj h=>?_,fun j hj=>?_⟩,?_⟩
  · by_cases e:j=i
    · subst e;rw [bR];omega
    · rw [bP _ _ e];exact I.low j
  · by_cases e:j=i
    · subst e
      rw [bR];obtain ⟨l,hw⟩:=I.walk b hb h0;have:=Wk.cons hk ho hw;rw [show (tk b+(ps.getD k aJj).ticks).toNat=(ps.getD k aJj).ticks.toNat+(tk b).toNat by omega];exact ⟨_,this⟩
    · rw [bP _ _ e] at h ⊢;exact I.walk j hj h
  · rw [hc]
    have hbb:=I.bd b hb
    by_cases e:j=i
    · subst e
      rw [bR];have:=I.bd j hj;split <;> omega
    · rw [bP _ _ e];have:=I.bd j hj;split <;> omega
  · unfold potF
    rw [qE (f:=fun i=>if tk i<0 then 1000 else tk i) hi (fun j _ hj=>by rw [bP _ _ hj]),bR,if_neg (by omega)];split <;> omega
theorem FarI.step (I:FarI P ps out help to tk) (V:PsV P ps) (hP:P≤10) {i b k:Nat} (hi:i<P) (hb:b<P) (hk:k<ps.length) (ho:oth out help (ps.getD k aJj) i=(b:Int)) (h0:0≤tk b) (hl:tk i<0∨tk b+(ps.getD k aJj).ticks<tk i) :
    FarI P ps out help to (upd tk i (tk b+(ps.getD k aJj).ticks))∧potF P (upd tk i (tk b+(ps.getD k aJj).ticks))+1≤potF P tk:=by
  rcases I.relax V hi hb hk ho h0 hl with h|h
  · exact h
  · exfalso
    have:=I.small hP hb
    have:(ps.getD k aJj).ticks≤20:=(V k hk).2.2.2
    omega
end
theorem oP {ps:List Psg} {out:Int} {help:Bool} {tk:Nat→Int} {i k:Nat} (h:oth out help (ps.getD k aJj) i<0∨tk (oth out help (ps.getD k aJj) i).toNat<0∨(0≤tk i∧tk i≤tk (oth out help (ps.getD k aJj) i).toNat+(ps.getD k aJj).ticks)):FixAt ps out help tk i k:=fun b hb h0=>by
 rw [hb,Int.toNat_natCast] at h;omega
def b2i (b:Bool):Int:=if b=true then 1 else 0
theorem Bp {P:Nat} {ps:List Psg} {out:Int} {help:Bool} {tk:Nat→Int} {m:Bool} {f k:Nat} (h:m=false→(∀ i,i<f→∀ k,k<ps.length→FixAt ps out help tk i k)∧∀ q,q<k→FixAt ps out help tk f q) (hk:FixAt ps out help tk f k) :
  m=false→(∀ i,i<f→∀ k,k<ps.length→FixAt ps out help tk i k)∧∀ q,q<k+1→FixAt ps out help tk f q:=fun e=>⟨(h e).1,fun q hq=>by
 by_cases e2:q=k
 ·subst e2;exact hk
 ·exact (h e).2 q (by omega)⟩
theorem aEc {P:Nat} {ps:List Psg} {out:Int} {help:Bool} {tk:Nat→Int} {m:Bool} {f k:Nat} (hk:ps.length≤k) (h:m=false→(∀ i,i<f→∀ k,k<ps.length→FixAt ps out help tk i k)∧∀ q,q<k→FixAt ps out help tk f q) :
  m=false→∀ i,i<f+1→∀ k,k<ps.length→FixAt ps out help tk i k:=fun e i hi q hq=>by
 by_cases e2:i=f
 ·subst e2;exact (h e).2 q (by omega)
 ·exact (h e).1 i (by omega) q hq
theorem FarI.up {P:Nat} {ps:List Psg} {out:Int} {help:Bool} {to:Nat} {tk:Nat→Int} (I:FarI P ps out help to tk) (V:PsV P ps) (hP:P≤10) {i k:Nat} {X:Int} {m:Bool} {Q:Prop} (hi:i<P) (hk:k<ps.length) (ho:0≤oth out help (ps.getD k aJj) i) (hb:oth out help (ps.getD k aJj) i<P) (h0:0≤tk (oth out help (ps.getD k aJj) i).toNat)
  (hl:tk i<0∨tk (oth out help (ps.getD k aJj) i).toNat+(ps.getD k aJj).ticks<tk i) (hp:potF P tk+b2i m≤X) :
  FarI P ps out help to (upd tk i (tk (oth out help (ps.getD k aJj) i).toNat+(ps.getD k aJj).ticks))∧potF P (upd tk i (tk (oth out help (ps.getD k aJj) i).toNat+(ps.getD k aJj).ticks))+b2i true≤X∧(true=false→Q):=by
 have h:=I.step V hP hi (b:=(oth out help (ps.getD k aJj) i).toNat) (by omega) hk (by omega) h0 hl
 have h8:b2i true=1:=rfl
 have h9:0≤b2i m:=by unfold b2i;split <;> omega
 exact ⟨h.1,by omega,fun e=>by cases e⟩
structure FarOk (P:Nat) (ps:List Psg) (out:Int) (help:Bool) (to:Nat) (tk:Nat→Int):Prop where
 to0:tk to=0
 low:∀ i,-1≤tk i
 walk:∀ i,i<P→0≤tk i→∃ l,Wk ps out help i to (tk i).toNat l
 fix:∀ i,i<P→∀ k,k<ps.length→FixAt ps out help tk i k
 sml:∀ i,i<P→tk i≤200
section
variable {P:Nat} {ps:List Psg} {out:Int} {help:Bool} {to:Nat} {tk tk':Nat→Int}
theorem FarI.done (I:FarI P ps out help to tk) (hP:P≤10) (h:∀ i,i<P→∀ k,k<ps.length→FixAt ps out help tk i k):FarOk P ps out help to tk:=
 ⟨I.to0,I.low,I.walk,h,fun i hi=>by have:=I.small hP hi;omega⟩
theorem FarOk.least (h:FarOk P ps out help to tk) (V:PsV P ps) {a c n:Nat} {l:List Nat} (W:Wk ps out help a c n l):a<P→c=to→0≤tk a∧tk a≤n:=by
  induction W with
  | nil a=>intro _ e;subst e;rw [h.to0];exact ⟨Int.le_refl 0,Int.le_refl 0⟩
  | @cons a b c n k l hk ho _ ih=>
    intro ha e;have hb:=(oO V hk (a:=(a:Int)) (by rw [ho];omega)).2.1;rw [ho] at hb;have h1:=ih (by omega) e;have h2:=h.fix a ha k hk b ho h1.1;have:=(V k hk).2.2;omega
theorem FarOk.unique (h:FarOk P ps out help to tk) (h':FarOk P ps out help to tk') (V:PsV P ps) {i:Nat} (hi:i<P):tk i=tk' i:=by
  have key:∀ {t t':Nat→Int},FarOk P ps out help to t→FarOk P ps out help to t'→0≤t i→0≤t' i∧t' i≤t i:=fun {t t'} H H' h0=>by
    obtain ⟨l,W⟩:=H.walk i hi h0;have:=H'.least V W hi rfl;omega
  have l1:=h.low i
  have l2:=h'.low i
  by_cases h0:0≤tk i
  · have h1:=key h h' h0
    have h2:=key h' h h1.1
    omega
  · by_cases h1:0≤tk' i
    · have:=key h' h h1;omega
    · omega
end
open Classical in
noncomputable def dst (P:Nat) (ps:List Psg) (out:Int) (help:Bool) (to:Nat) (i:Nat):Int:=if h:∃ tk,FarOk P ps out help to tk then (if i<P then Classical.choose h i else -1) else 0
section
variable {P:Nat} {ps:List Psg} {out:Int} {help:Bool} {to:Nat} {tk:Nat→Int}
theorem kZ (V:PsV P ps) (h:FarOk P ps out help to tk) {i:Nat} (hi:i<P):dst P ps out help to i=tk i:=by
 have he:∃ tk,FarOk P ps out help to tk:=⟨tk,h⟩
 unfold dst
 rw [dif_pos he,if_pos hi];exact (Classical.choose_spec he).unique h V hi
theorem Rw (V:PsV P ps) (hto:to<P) (h:FarOk P ps out help to tk):FarOk P ps out help to (dst P ps out help to):=by
  have he:∃ tk,FarOk P ps out help to tk:=⟨tk,h⟩
  have hd:∀ i,¬ i<P→dst P ps out help to i = -1:=fun i hi=>by unfold dst;rw [dif_pos he,if_neg hi]
  refine ⟨(kZ V h hto).trans h.to0,fun i=>?_,fun i hi=>?_,fun i hi k hk b hb h0=>?_,fun i hi=>?_⟩
  · by_cases hi:i<P
    · rw [kZ V h hi];exact h.low i
    · rw [hd i hi];omega
  · rw [kZ V h hi];exact h.walk i hi
  · have hb2:=(oO V hk (a:=(i:Int)) (by rw [hb];omega)).2.1
    rw [hb] at hb2;rw [kZ V h (i:=b) (by omega)] at h0 ⊢;rw [kZ V h hi];exact h.fix i hi k hk b hb h0
  · rw [kZ V h hi];exact h.sml i hi
end
def stepB (ps:List Psg) (out:Int) (help:Bool) (d:Nat→Int) (at_ k:Nat):Bool:=
 decide (0≤oth out help (ps.getD k aJj) at_)&&(decide (0≤d (oth out help (ps.getD k aJj) at_).toNat)&&decide (d (oth out help (ps.getD k aJj) at_).toNat+(ps.getD k aJj).ticks=d at_))
def stepK (ps:List Psg) (out:Int) (help:Bool) (d:Nat→Int) (at_:Nat):Nat:=fstB (stepB ps out help d at_) ps.length
def wayG (ps:List Psg) (out:Int) (help:Bool) (d:Nat→Int) (to:Nat):Nat→Nat→List Nat
 | 0,_=>[]
 | g+1,a=>if a=to then [] else stepK ps out help d a::wayG ps out help d to g (oth out help (ps.getD (stepK ps out help d a) aJj) a).toNat
section
variable {P:Nat} {ps:List Psg} {out:Int} {help:Bool} {to:Nat} {d:Nat→Int}
theorem Yw {g:Nat}:wayG ps out help d to g to=[]:=by
 cases g with
 | zero=>rfl
 | succ g=>unfold wayG;rw [if_pos rfl]
theorem Jy {a k:Nat} (h1:∀ q,q<k→stepB ps out help d a q=false) (h2:stepB ps out help d a k=true) (hk:k<ps.length):stepK ps out help d a=k:=Bm h1 h2 hk
theorem Jz (V:PsV P ps) {a k:Nat} (hk:k<ps.length) (h:stepB ps out help d a k=true):∃ b:Nat,oth out help (ps.getD k aJj) a=(b:Int)∧b<P∧0≤d b∧d b+(ps.getD k aJj).ticks=d a∧1≤(ps.getD k aJj).ticks:=by
 unfold stepB at h
 simp only [Bool.and_eq_true,decide_eq_true_eq] at h
 have h1:=oO V hk h.1
 have hV:=(V k hk).2.2
 exact ⟨(oth out help (ps.getD k aJj) a).toNat,by omega,by omega,h.2.1,h.2.2,hV.1⟩
theorem FarOk.step_ex (h:FarOk P ps out help to d) (V:PsV P ps) {a:Nat} (ha:a<P) (h0:0≤d a) (hne:a≠to):∃ k,k<ps.length∧stepB ps out help d a k=true:=by
  obtain ⟨l,W⟩:=h.walk a ha h0;generalize hn:(d a).toNat=n at W;cases W with
  | nil=>exact absurd rfl hne
  | @cons _ b _ n2 k l2 hk ho W2=>
    have hb:=(oO V hk (a:=(a:Int)) (by rw [ho];omega)).2.1
    rw [ho] at hb;have h1:=h.least V W2 (by omega) rfl;have h2:=h.fix a ha k hk b ho h1.1;have:=(V k hk).2.2;refine ⟨k,hk,?_⟩;unfold stepB;simp only [Bool.and_eq_true,decide_eq_true_eq];rw [ho,Int.toNat_natCast];omega
theorem FarOk.stp (h:FarOk P ps out help to d) (V:PsV P ps) {a:Nat} (ha:a<P) (h0:0≤d a) (hne:a≠to):stepK ps out help d a<ps.length∧stepB ps out help d a (stepK ps out help d a)=true∧∀ q,q<stepK ps out help d a→stepB ps out help d a q=false:=by
  obtain ⟨k,hk,hs⟩:=h.step_ex V ha h0 hne
  have key:∀ n,(∃ k,k<n∧stepB ps out help d a k=true)→fstB (stepB ps out help d a) n<n∧stepB ps out help d a (fstB (stepB ps out help d a) n)=true∧∀ q,q<fstB (stepB ps out help d a) n→stepB ps out help d a q=false:=by
    intro n;induction n with
    | zero=>rintro ⟨k,hk,_⟩;omega
    | succ n ih=>
      rintro ⟨k,hk,hs⟩;by_cases he:∃ k,k<n∧stepB ps out help d a k=true
      · obtain ⟨h1,h2,h3⟩:=ih he
        rw [fstB,if_pos h1];exact ⟨by omega,h2,h3⟩
      · have hno:∀ q,q<n→stepB ps out help d a q=false:=fun q hq=>by
          cases hb:stepB ps out help d a q with
          | false=>rfl
          | true=>exact absurd ⟨q,hq,hb⟩ he
        have hkn:k=n:=by
          by_cases e:k<n
          · exact absurd ⟨k,e,hs⟩ he
          · omega
        subst hkn;rw [fstB,kY hno,if_neg (by omega),if_pos hs];exact ⟨by omega,hs,hno⟩
  exact key _ ⟨k,hk,hs⟩
theorem Mu {a k g:Nat} (hne:a≠to) (h:stepK ps out help d a=k):wayG ps out help d to (g+1) a=k::wayG ps out help d to g (oth out help (ps.getD k aJj) a).toNat:=by
 rw [wayG,if_neg hne,h]
end
noncomputable def wayL (P:Nat) (ps:List Psg) (out:Int) (help:Bool) (fr to:Nat):List Nat:=wayG ps out help (dst P ps out help to) to (dst P ps out help to fr).toNat fr
def plOk (P:Int) (l:List Int):Bool:=allN (fun k=>decide (0≤l.getD k 0∧l.getD k 0≤P-1)) l.length
def askE (P:Int) (ps:List Psg) (xs:List Int) (out:Int) (l:List Int):Int:=
 if stE P ps xs≠0 then stE P ps xs else if (decide (0≤out∧out≤4095)&&plOk P l)=true then 0 else 1
theorem Ka {P:Int} {ps:List Psg} {xs:List Int} {out:Int} {l:List Int} (h:askE P ps xs out l=0):stE P ps xs=0∧(0≤out∧out≤4095)∧∀ k,k<l.length→0≤l.getD k 0∧l.getD k 0≤P-1:=by
  unfold askE at h
  split at h
  · omega
  · rename_i h1
    split at h
    · rename_i h2
      simp only [Bool.and_eq_true,decide_eq_true_eq] at h2
      refine ⟨by omega,h2.1,fun k hk=>?_⟩
      have:=bS.1 h2.2 k hk
      simpa using this
    · cases h
theorem wV {P:Int} {l:List Int} {k:Nat} (hk:k<l.length) (h:¬ (0≤l.getD k 0∧l.getD k 0≤P-1)):plOk P l=false:=iG hk (decide_eq_false h)
theorem Dr {ps:List Psg} {out:Int} {help:Bool} {d:Nat→Int} {to:Nat}:∀ g a,(wayG ps out help d to g a).length≤g:=by
 intro g;induction g with
 | zero=>intro a;exact Nat.le_refl 0
 | succ g ih=>intro a;unfold wayG;split;exact Nat.zero_le _;simp only [List.length_cons];have:=ih (oth out help (ps.getD (stepK ps out help d a) aJj) a).toNat;omega
def wcl (l:List Nat) (k _j:Nat):Value := .int .i64 ((l.getD k 0:Nat):Int)
theorem wW {l:List Nat} {x:Nat} {v:Value} (hv:v = .int .i64 (x:Int)):∀ k j,k<l.length+1→j<1→capp l.length (wcl l) (fun k' j=>([[v]].getD k' []).getD j undef) k j=wcl (l++[x]) k j:=by
  intro k j hk hj;have:j=0:=by omega
  subst this;subst hv;unfold capp wcl;by_cases h:k<l.length
  · rw [if_pos h,List.getD_eq_getElem?_getD,List.getD_eq_getElem?_getD,List.getElem?_append_left h]
  · have e:k=l.length:=by omega
    subst e;rw [if_neg h,Nat.sub_self,List.getD_eq_getElem?_getD,List.getElem?_append_right (Nat.le_refl _),Nat.sub_self];rfl
theorem tM {x y:Int}:∀ k j,k<2→j<1→([[Value.int .i64 x],[Value.int .i64 y]].getD k []).getD j undef=icl [x,y] k j:=by
 intro k j hk hj;have:j=0:=by omega
 subst this;match k,hk with
 | 0,_=>rfl
 | 1,_=>rfl
theorem Ds {ps:List Psg} {out:Int} {help:Bool} {d:Nat→Int} {to g p k b:Nat} {wl W:List Nat} (h:wl++wayG ps out help d to g p=W) (hg:1≤g) (hne:p≠to) (hk:stepK ps out help d p=k) (hb:oth out help (ps.getD k aJj) p=(b:Int)):(wl++[k])++wayG ps out help d to (g-1) b=W:=by
 obtain ⟨g,rfl⟩:∃ n,g=n+1:=⟨g-1,by omega⟩;rw [Mu hne hk,hb,Int.toNat_natCast] at h;rw [←h,Nat.add_sub_cancel,List.append_assoc];rfl
theorem Kb {ps:List Psg} {out:Int} {help:Bool} {d:Nat→Int} {to g:Nat} {wl W:List Nat} (h:wl++wayG ps out help d to g to=W):wl=W:=by rw [Yw,List.append_nil] at h;exact h
theorem Yx {ps:List Psg} {out:Int} {help:Bool} {d:Nat→Int} {p k:Nat} (h:(0≤oth out help (ps.getD k aJj) p∧0≤d (oth out help (ps.getD k aJj) p).toNat)∧d (oth out help (ps.getD k aJj) p).toNat+(ps.getD k aJj).ticks=d p):stepB ps out help d p k=true:=by
 unfold stepB
 simp only [Bool.and_eq_true,decide_eq_true_eq]
 exact ⟨h.1.1,h.1.2,h.2⟩
theorem Yy {ps:List Psg} {out:Int} {help:Bool} {d:Nat→Int} {p k:Nat} (h:(oth out help (ps.getD k aJj) p<0∨d (oth out help (ps.getD k aJj) p).toNat<0)∨¬ d (oth out help (ps.getD k aJj) p).toNat+(ps.getD k aJj).ticks=d p):stepB ps out help d p k=false:=by
 unfold stepB
 simp only [Bool.and_eq_false_iff,decide_eq_false_iff_not]
 omega
theorem vF {f:Nat→Bool} {k:Nat} (h:∀ q,q<k→f q=false) (hk:f k=false):∀ q,q<k+1→f q=false:=fun q hq=>by
 by_cases e:q=k
 ·subst e;exact hk
 ·exact h q (by omega)
def rv (x:Int):Int:=if x<0 then 1073741824 else x
def rcl (tk:Nat→Int) (i _j:Nat):Value := .int .i64 (rv (tk i))
theorem zM {x:Int} (h:x≤200):0≤rv x∧rv x≤1073741824:=by unfold rv;split <;> omega
theorem aDi {x y t:Int} (hx:x≤200) (hy:y≤200) (ht:1≤t∧t≤20) (h:rv x+t<rv y):0≤x∧(y<0∨x+t<y):=by
 unfold rv at h
 split at h <;> split at h <;> omega
theorem aDj {x y t:Int} (hx:x≤200) (hy:y≤200) (ht:1≤t∧t≤20) (h:¬ rv x+t<rv y):x<0∨(0≤y∧y≤x+t):=by
 unfold rv at h
 split at h <;> split at h <;> omega
theorem Rx {x:Int} (hx:x≤200):rv x=1073741824↔x<0:=by unfold rv;split <;> omega
theorem Kc {L:Nat→Int} {p:Nat} {v t:Int} (hv:0≤v) (ht:0≤t):∀ k j,j<1→cput (rcl L) p 0 (.int .i64 (rv v+t)) k j=rcl (upd L p (v+t)) k j:=by
 intro k j hj;have:j=0:=by omega
 subst this;have e:rv v+t=rv (v+t):=by unfold rv;rw [if_neg (by omega),if_neg (by omega)]
 rw [e];unfold cput rcl upd;by_cases e:k=p <;> simp [e]
theorem Ry {P k to:Nat}:∀ q j,j<1→cput (fun _ _=>Value.int .i64 1073741824) to 0 (.int .i64 0) q j=rcl (tk0 to) q j:=by
 intro q j hj;have:j=0:=by omega
 subst this;unfold cput rcl tk0;by_cases e:q=to
 ·subst e;rw [if_pos ⟨rfl,rfl⟩,if_pos rfl];rfl
 ·rw [if_neg (fun h=>e h.1),if_neg e];rfl
theorem aHk {P:Nat} {ps:List Psg} (V:PsV P ps) {out:Int} {help:Bool} {k:Nat} (hk:k<ps.length) (ho:opn out help (ps.getD k aJj)=true):oth out help (ps.getD k aJj) (((ps.getD k aJj).a.toNat:Nat):Int)=(((ps.getD k aJj).b.toNat:Nat):Int):=by
 have:=V k hk
 unfold oth othr
 rw [if_neg (by rw [ho];simp),Int.toNat_of_nonneg this.1.1,if_pos rfl];omega
theorem aHl {P:Nat} {ps:List Psg} (V:PsV P ps) {out:Int} {help:Bool} {k:Nat} (hk:k<ps.length) (ho:opn out help (ps.getD k aJj)=true):oth out help (ps.getD k aJj) (((ps.getD k aJj).b.toNat:Nat):Int)=(((ps.getD k aJj).a.toNat:Nat):Int):=by
 have:=V k hk
 unfold oth othr
 rw [if_neg (by rw [ho];simp),Int.toNat_of_nonneg this.2.1.1];split
 ·omega
 ·rw [if_pos rfl];omega
theorem wX {P:Nat} {ps:List Psg} (V:PsV P ps) {out:Int} {help:Bool} {tk:Nat→Int} {k:Nat} (hk:k<ps.length)
  (ha:tk (ps.getD k aJj).b.toNat<0∨(0≤tk (ps.getD k aJj).a.toNat∧tk (ps.getD k aJj).a.toNat≤tk (ps.getD k aJj).b.toNat+(ps.getD k aJj).ticks))
  (hb:tk (ps.getD k aJj).a.toNat<0∨(0≤tk (ps.getD k aJj).b.toNat∧tk (ps.getD k aJj).b.toNat≤tk (ps.getD k aJj).a.toNat+(ps.getD k aJj).ticks)):∀ i,i<P→FixAt ps out help tk i k:=fun i hi b ho h0=>by
 have hi2:=oO V hk (a:=(i:Int)) (by rw [ho];omega)
 rw [ho] at hi2;rcases hi2.2.2 with ⟨e1,e2⟩|⟨e1,e2⟩ <;> rw [e1,←e2] at ha hb <;> simp only [Int.toNat_natCast] at ha hb <;> omega
theorem wY {P:Nat} {ps:List Psg} {out:Int} {help:Bool} {tk:Nat→Int} {k:Nat} (ho:opn out help (ps.getD k aJj)=false):∀ i,i<P→FixAt ps out help tk i k:=fun i hi b hb h0=>by
 unfold oth at hb
 rw [if_pos ho] at hb;omega
theorem mI {P:Nat} {ps:List Psg} {out:Int} {help:Bool} {tk:Nat→Int} {m:Bool} {k:Nat} (h:m=false→∀ q,q<k→∀ i,i<P→FixAt ps out help tk i q) (hk:m=false→∀ i,i<P→FixAt ps out help tk i k) :
  m=false→∀ q,q<k+1→∀ i,i<P→FixAt ps out help tk i q:=fun e q hq=>by
 by_cases e2:q=k
 ·subst e2;exact hk e
 ·exact h e q (by omega)
theorem FarI.upA {P:Nat} {ps:List Psg} {out:Int} {help:Bool} {to:Nat} {tk:Nat→Int} (I:FarI P ps out help to tk) (V:PsV P ps) (hP:P≤10) {k x y:Nat} {X:Int} {m:Bool} {Q:Prop} (hk:k<ps.length) (hx:x<P) (hy:y<P) (ho:oth out help (ps.getD k aJj) x=(y:Int)) (hc:0≤tk y∧(tk x<0∨tk y+(ps.getD k aJj).ticks<tk x)) (hp:potF P tk+b2i m≤X) :
  FarI P ps out help to (upd tk x (tk y+(ps.getD k aJj).ticks))∧potF P (upd tk x (tk y+(ps.getD k aJj).ticks))+b2i true≤X∧(true=false→Q):=by
 have h:=I.step V hP hx hy hk ho hc.1 hc.2
 have h8:b2i true=1:=rfl
 have h9:0≤b2i m:=by unfold b2i;split <;> omega
 exact ⟨h.1,by omega,fun e=>by cases e⟩
theorem Dt {x:Int} (h:0≤x):rv x=x:=by unfold rv;rw [if_neg (by omega)]
theorem wy3 (o:Int) (b:Bool):o<0∨(0≤o∧b=false)∨(0≤o∧b=true):=by
  by_cases h:o<0
  · exact .inl h
  · cases b
    · exact .inr (.inl ⟨by omega,rfl⟩)
    · exact .inr (.inr ⟨by omega,rfl⟩)
section
variable {ps:List Psg} {out:Int} {help:Bool} {d:Nat→Int} {p:Nat} {k:Nat}
theorem pJ {q:Psg} {a:Int} (h:opn out help q=true):oth out help q a=othr q a:=by unfold oth;rw [if_neg (by rw [h];simp)]
theorem Rz {q:Psg} {a:Int} (h:opn out help q=false):oth out help q a = -1:=by unfold oth;rw [if_pos h]
theorem Kd {h:oth out help (ps.getD k aJj) p<0}:stepB ps out help d p k=false:=by
 unfold stepB;rw [decide_eq_false (by omega)];rfl
theorem Sa (h:othr (ps.getD k aJj) p<0):stepB ps out help d p k=false:=Kd (h:=by
 unfold oth;split
 ·omega
 ·exact h)
theorem Sb (h:opn out help (ps.getD k aJj)=false):stepB ps out help d p k=false:=Kd (h:=by rw [Rz h];omega)
theorem Yz (ho:opn out help (ps.getD k aJj)=true) (h0:0≤othr (ps.getD k aJj) p) (hx:d (othr (ps.getD k aJj) p).toNat≤200) (hp:0≤d p∧d p≤200) (ht:1≤(ps.getD k aJj).ticks∧(ps.getD k aJj).ticks≤20)
  (h:rv (d (othr (ps.getD k aJj) p).toNat)+(ps.getD k aJj).ticks=rv (d p)):stepB ps out help d p k=true:=by
 rw [Dt hp.1] at h
 have:0≤d (othr (ps.getD k aJj) p).toNat:=by
  unfold rv at h
  split at h
  ·omega
  ·omega
 rw [Dt this] at h;unfold stepB;rw [pJ ho];simp only [Bool.and_eq_true,decide_eq_true_eq];exact ⟨h0,this,h⟩
theorem Sc (ho:opn out help (ps.getD k aJj)=true) (h0:0≤othr (ps.getD k aJj) p) (hp:0≤d p)
    (h:¬ rv (d (othr (ps.getD k aJj) p).toNat)+(ps.getD k aJj).ticks=rv (d p)):stepB ps out help d p k=false:=by
  rw [Dt hp] at h;unfold stepB;rw [pJ ho];by_cases h1:0≤d (othr (ps.getD k aJj) p).toNat
  · rw [Dt h1] at h
    rw [decide_eq_false (p:=d (othr (ps.getD k aJj) p).toNat+(ps.getD k aJj).ticks=d p) h,Bool.and_false,Bool.and_false]
  · rw [decide_eq_false h1,Bool.false_and,Bool.and_false]
end
section
variable {ps:List Psg} {out kind:Int}
end
theorem Sd {P:Nat} {ps:List Psg} {out:Int} {help:Bool} {fr to:Nat} (h:dst P ps out help to fr≤200):(wayL P ps out help fr to).length≤200:=by
 unfold wayL
 have:=Dr (ps:=ps) (out:=out) (help:=help) (d:=dst P ps out help to) (to:=to) (dst P ps out help to fr).toNat fr
 omega
end
section
theorem Se {b:Nat}:∀ k j,j<1→cput (fun _ _ => .int .i64 (-1)) b 0 (.int .i64 0) k j=lcl (fun v=>if v=b then 0 else -1) k j:=by
 intro k j hj;have:j=0:=by omega
 subst this;unfold cput lcl;by_cases e:k=b <;> simp [e]
theorem Za {L:Nat→Int} {p:Nat} {v:Int}:∀ k j,j<1→cput (lcl L) p 0 (.int .i64 v) k j=lcl (upd L p v) k j:=by
 intro k j hj;have:j=0:=by omega
 subst this;unfold cput lcl upd;by_cases e:k=p <;> simp [e]
theorem aHm {q:Nat→Nat} {n ql h v:Nat} (hn:h+n=ql):∀ k,k<n+1→(if k=n then ((v:Nat):Int) else ((q (h+k):Nat):Int))=((upd q ql v (h+k):Nat):Int):=by
 intro k hk;unfold upd;by_cases e:k=n
 ·rw [if_pos e,if_pos (by omega)]
 ·rw [if_neg e,if_neg (by omega)]
theorem Sf (N:Net) (r:RM) (mv:Nat→Nat→Mv) (nb:Nat) (pl tk:Int) (st1 st2:Value) (EA:Option Addr) (A:Nat→Option Addr) (c:Nat→Nat) (b x:Nat) (p t:Int) (w:World) (F:Nat→Prop) (S:St w F [boxM nb 168 [.int .i64 pl,st1,st2,.int .i64 tk,.slice EA N.k N.k,.int .i64 (b:Int),.int .i64 (x:Int)]] w) (hp : -100000≤p∧p≤100000) (ht:i64ok (pl*t)) (ht2:i64ok (pl*t+p)) :
    Calls Tryz.prog 104 [.pointer (some ⟨nb,0,none⟩),.int .i64 p,.int .i64 t].toArray w (Ret (fun u w'=>u = .int .i64 (pl*t+p)∧St w F [boxM nb 168 [.int .i64 pl,st1,st2,.int .i64 tk,.slice EA N.k N.k,.int .i64 (b:Int),.int .i64 (x:Int)]] w')):=by
 refine enter Tryz.func104 rfl Tryz.ntmps104 rfl (fun a H=>?_)
 skip
 refine sS H fun K1 k1=>sr 1 G<|sE ?_;intro a H
 refine k1 _ ?_;replace H:=H.keep [0,1,2] rfl;refine sS H fun K2 k2=>sr 2 G<|sf Qr rfl<|sf dP rfl<|sl S 0 aC G G G<|sr 1 G<|sd (fR G G (ht))<|sr 1 G<|sd (aH G G (ht2))<|sr 1 G<|sE ?_;intro a H
 refine k2 _ ?_;refine wp_ret ?_;refine ret1 (fn:=Tryz.f104) rfl H rfl ?_;exact ⟨rfl,(S.sel [0] G G)⟩
theorem Hm (N:Net) (r:RM) (mv:Nat→Nat→Mv) (nb:Nat) (pl tk:Int) (st1 st2:Value) (EA:Option Addr) (A:Nat→Option Addr) (c:Nat→Nat) (b x:Nat) (w:World) (F:Nat→Prop) (S:St w F [boxM nb 168 [.int .i64 pl,st1,st2,.int .i64 tk,.slice EA N.k N.k,.int .i64 (b:Int),.int .i64 (x:Int)],ownM 187 1 EA N.k N.k (hdc A N.n c),ragM 189 7 (fun q=>q<N.k) A N.n c (edgeC N r mv)] w) (W:N.Wf) (hO:Ok N r 2199023255552) (hb:b<N.k) (hx:x<N.k) (hbx:b≠x) (hk:N.k≤1000000) :
    Calls Tryz.prog 107 [.pointer (some ⟨nb,0,none⟩)].toArray w (Ret (fun u w'=>∃ LA L,u = .slice LA N.k N.k∧LevOk N r b L∧St w F [ownM 3 1 LA N.k N.k (lcl L),boxM nb 168 [.int .i64 pl,st1,st2,.int .i64 tk,.slice EA N.k N.k,.int .i64 (b:Int),.int .i64 (x:Int)],ownM 187 1 EA N.k N.k (hdc A N.n c),ragM 189 7 (fun q=>q<N.k) A N.n c (edgeC N r mv)] w')):=by
 refine enter Tryz.func107 rfl Tryz.ntmps107 rfl (fun a H=>?_)
 skip
 refine sS H fun K1 k1=>sr 1 G<|sE ?_;intro a H
 refine k1 _ ?_;refine aA fun K2 k2=>?_
 refine aK H rfl S aQ aY eF G G G G G G G G G ?_;intro A1 _ a hA1 S H
 refine ls 5 H<|sr 2 G<|sf gE rfl<|sl S 1 iC G G G<|sL iV rfl<|sE ?_;intro a H
 refine aB H G G Tryz.func119 G G (uO _ _ (-1) N.k _ ((aIr S (i:=0) rfl).congr (fun k j hk hj=>Bj hk hj)) (by omega) (by omega)) ?_;clear H a
 rintro _ _ a ⟨lb,rfl,S2⟩ H;replace S:=S.call S2;clear S2;refine ls 1 H<|sr 1 G<|sE ?_;intro a H
 refine k2 _ _ ?_;replace H:=H.keep [0,3] rfl;refine aA fun K3 k3=>?_
 refine ls 6 H<|sr 3 G<|sf rR rfl<|sl S 2 aC G G G<|si aQ aY G G (aIp S (i:=0) rfl (by omega)) (by omega)<|sE ?_;intro a H
 refine bB H S (i:=0) G G G (by omega) (by omega) aY rfl ?_
 clear H a S;intro _ a S H;replace S:=S.recell (i:=0) rfl (cell':=lcl (fun v=>if v=b then 0 else -1)) (fun k j hk hj=>Se k j hj);refine k3 _ _ ?_;replace H:=H.keep [0,3] rfl;refine aA fun K4 k4=>?_
 refine ls 4 H<|sr 2 G<|sf rR rfl<|sl S 2 aC G G G<|sE ?_;intro a H
 refine aK H rfl S aQ aY eF G G G G G G G G G ?_;intro A2 _ a hA2 S H
 replace S:=queM.of_own S (i:=0) rfl (f:=fun i=>(((fun _=>b:Nat→Nat) (0+i):Nat):Int)) (by omega) (fun k hk=>Bj hk (by omega));refine ls 1 H<|sr 1 G<|sE ?_;intro a H
 refine k4 _ _ ?_;refine wp_seq_k fun K5 k5=>?_
 refine wp_block ?_;refine loop_st (X:=(Nat→Int)×(Nat→Nat)×Nat×Nat×Option Addr×Nat) (R0:=_) [0,3] H rfl (fun ⟨L,qf,ql,h,QA,qc⟩=>[(4,.slice QA (ql-h) qc)]) (fun ⟨L,qf,ql,h,QA,qc⟩=>[ownM 3 1 (some ⟨lb,0,none⟩) N.k N.k (lcl L),queM 3 QA (ql-h) qc (fun i=>((qf (h+i):Nat):Int))]) (fun g ⟨L,qf,ql,h,QA,qc⟩=>Bfs N r b L qf ql h 0∧h≤ql∧g+h=N.k) (N.k) (fun v=>if v=b then 0 else -1,fun _=>b,1,0,_,_) ?_ (S.sel [1,0,2,3,4,5] G G) (H.keep [4,0,3] rfl) ?_
 · exact ⟨Bfs.start hb (fun _ _=>rfl) rfl,by omega,by omega⟩
 clear H S a;intro g1 x1 a w1 hp S H K6 k6;obtain ⟨L,qf,ql,h,QA,qc⟩:=x1;dsimp only at hp S H;obtain ⟨hB,hhq,hgh⟩:=hp;have hql:=hB.le;refine wp_seq_k fun K7 k7=>?_
 refine sS H fun K8 k8=>sr 1 G<|sL aQ rfl<|sr 1 G<|sE ?_;intro a H
 refine k8 _ ?_;refine condL H rfl (fun hc1=>?_) (fun hc1=>?_)
 ·skip
  refine wp_skip ?_;refine k7 _ _ ?_;refine wp_block ?_;have hqk:qf h<N.k:=(hB.mem h (by omega)).1;refine sS H fun K9 k9=>sr 1 G<|sI aQ aY G G (queM.adr S (i:=1) rfl) (by omega) (by omega)<|sd ((aE aC rfl (queM.rd S (i:=1) (k:=0) rfl (by omega)):Does _ _ _ _ (.int .i64 (qf h:Int))))<|sr 1 G<|sE ?_;intro a H
  refine k9 _ ?_;have hqle:=queM.le S (i:=1) rfl;replace H:=H.keep [0,3,4,5] rfl;refine sS H fun K10 k10=>sr 1 G<|sd (kS aQ aY rfl (lo:=1) (hi:=ql-h) (.inr ⟨_,rfl,_,rfl⟩) (.inl ⟨rfl,rfl⟩) (by omega) (by omega))<|sr 1 G<|sE ?_;intro a H
  refine k10 _ ?_;replace S:=queM.cut1 S (i:=1) rfl (by omega);replace H:=H.keep [0,3,4,5] rfl;refine sS H fun K11 k11=>sr 2 G<|sf gE rfl<|sl S 3 iC G G G<|sr 1 G<|si iV iT G G (aIp S (i:=4) rfl (by omega)) (by omega)<|slm lI rfl (aIq S (i:=4) rfl (by omega) (by omega))<|sL kB rfl<|sr 1 G<|sE ?_;intro a H
  refine k11 _ ?_;refine wp_block ?_;replace S:=queM.congr S (i:=1) rfl (f':=fun i=>((qf (h+1+i):Nat):Int)) (fun k hk=>by (try dsimp only);rw [show h+1+k=h+(k+1) by omega]);rw [show ql-h-1=ql-(h+1) by omega] at H S;refine loop_st (X:=(Nat→Int)×(Nat→Nat)×Nat×Nat×Option Addr×Nat) (R0:=_) [0,3,5,40,41] H rfl (fun ⟨L2,qf2,ql2,J,QA2,qc2⟩=>[(4,.slice QA2 (ql2-(h+1)) qc2),(42,.int .i64 (J:Int))]) (fun ⟨L2,qf2,ql2,J,QA2,qc2⟩=>[ownM 3 1 (some ⟨lb,0,none⟩) N.k N.k (lcl L2),queM 3 QA2 (ql2-(h+1)) qc2 (fun i=>((qf2 (h+1+i):Nat):Int))]) (fun g ⟨L2,qf2,ql2,J,QA2,qc2⟩=>Bfs N r b L2 qf2 ql2 h J∧h<ql2∧J≤N.n (qf h)∧g+J=N.n (qf h)∧qf2 h=qf h) (N.n (qf h)) (L,qf,ql,0,_,_) ?_ (S.sel [0,1,2,3,4,5] G G) (H.keep [4,42,0,3,5,40,41] rfl) ?_
  · exact ⟨hB,by omega,by omega,by omega,rfl⟩
  clear H S a;intro g2 x2 a w2 hp S H K12 k12;obtain ⟨L2,qf2,ql2,J,QA2,qc2⟩:=x2;dsimp only at hp S H;obtain ⟨hB2,hhq2,hJn,hgJ,hqe⟩:=hp;have hql2:=hB2.le;have hr2:=hB2.low;refine sS H fun K13 k13=>sr 1 G<|sE ?_;intro a H
  refine k13 _ ?_;refine wp_seq_k fun K14 k14=>?_
  refine condL H rfl (fun hc2=>?_) (fun hc2=>?_)
  ·skip
   refine wp_skip ?_;refine k14 _ _ ?_;refine wp_seq_k fun K15 k15=>?_
   refine wp_block ?_;have htk:=W.to_lt (qf h) hqk J (by omega);have hnl:=aJb S (i:=5) rfl hqk;have hmx:maxLen=9223372036854775807:=rfl;refine aA fun K16 k16=>?_
   refine ls 2 H<|si kB lS G G (aIy S (i:=5) rfl hqk (by omega)) (by omega)<|sd ((mV Yl lS rfl (aIv S (i:=5) rfl hqk) (i:=0) rfl (by omega) (by omega)))<|sE ?_;intro a H
   refine aM H rfl S tI ?_;intro b7 _ a hb7 hbw7 S H
   refine aI H S (i:=0) G G G G lS G G ?_
   clear H a S;intro _ a S H;refine k16 _ _ ?_;replace H:=H.keep [0,3,4,5,7,40,41,42] rfl;refine sS H fun K17 k17=>sf kV rfl<|sl S 0 aC G G G<|sr 2 G<|sg 6 3 49 55 true G G (fun hg4=>sy hg4<|sr 1 G<|sy hg4<|sf mG rfl<|sy hg4<|sl S 0 aC G G G<|sy hg4<|si aQ aY G G (aIp S (i:=1) rfl (by omega)) (by omega)<|sy hg4<|slm aC rfl (aIq S (i:=1) rfl (by omega) (by omega))<|sy hg4<|sr 1 G<|sz 6 G G G)<|sa G G G<|sE ?_;intro a H
   refine k17 _ ?_;refine aU H rfl (fun hc3=>?_) (fun hc3=>?_)
   ·skip
    try simp only [oz] at hc3
    have hLu:=(hB2.mem h (by omega)).2
    rw [hqe] at hLu;replace H:=H.keep [0,3,4,5,7,40,41,42] rfl;refine jW 9 (by kernel_rfl) (by kernel_rfl) fun K18 k18=>?_
    replace S:=S.drew;refine sF H<|sr 1 G<|sf mG rfl<|sl S 0 aC G G G<|sr 2 G<|si aQ aY G G (aIp S (i:=1) rfl (by omega)) (by omega)<|slm aC rfl (aIq S (i:=1) rfl (by omega) (by omega))<|sd (aH G G (by unfold i64ok;omega))<|si aQ aY G G (aIp S (i:=1) rfl (by omega)) (by omega)<|sE ?_;intro a H
    refine bB H S (i:=1) G G G htk (by omega) aY rfl ?_
    clear H a S;intro _ a S H;replace S:=S.recell (i:=1) rfl (cell':=lcl (upd L2 (N.to (qf h) J) (L2 (qf h)+1))) (fun k j hk hj=>Za k j hj);refine k18 _ _ ?_;replace H:=H.keep [0,3,4,5,7,40,41,42] rfl;refine cN ?_;refine ls 3 H<|sr 1 G<|sf mG rfl<|sl S 0 aC G G G<|sE ?_;intro a H
    refine aK H rfl S aQ aY eF G G G G G G G G G ?_;intro A3 _ a hA3 S H
    refine Mg H rfl S aQ aY eF lU rfl (i:=3) G G G (aIr S (i:=0) rfl) (v:=((N.to (qf h) J:Nat):Int)) rfl (by omega) (by omega) ?_;intro QA3 qc3 _ a S H
    replace S:=queM.congr S (i:=3) rfl (f':=fun i=>((upd qf2 ql2 (N.to (qf h) J) (h+1+i):Nat):Int)) (fun k hk=>aHm (by omega) k hk);rw [show ql2-(h+1)+1=ql2+1-(h+1) by omega] at H S;refine ls 1 H<|sr 1 G<|sE ?_;intro a H
    refine k15 _ _ ?_;refine sO H<|sd (aH G G (by unfold i64ok;omega))<|sr 1 G<|sE ?_;intro a H
    exact k12 (g2-1) (_,_,_,J+1,_,_) a _ (by omega) (by first|exact ⟨(by have:=hB2.visit W hhq2 (by rw [hqe];omega) (by rw [hqe];exact hc3.1) (by rw [hqe];exact hc3.2);rw [hqe] at this;exact this),by omega,by omega,by omega,by rw [bP _ _ (by omega)];exact hqe⟩|exact ⟨hB2.skip (by rw [hqe];intro h9;omega),hhq2,by omega,by omega,hqe⟩) (S.sel [2,3,4,5,6,7] G G) (H.keep [4,42,0,3,5,40,41] rfl)
   try simp only [oz] at hc3
   refine wp_skip ?_;refine k15 _ _ ?_;replace H:=H.keep [0,3,4,5,40,41,42] rfl;refine sO H<|sd (aH G G (by unfold i64ok;omega))<|sr 1 G<|sE ?_;intro a H
   exact k12 (g2-1) (_,_,_,J+1,_,_) a _ (by omega) (by first|exact ⟨(by have:=hB2.visit W hhq2 (by rw [hqe];omega) (by rw [hqe];exact hc3.1) (by rw [hqe];exact hc3.2);rw [hqe] at this;exact this),by omega,by omega,by omega,by rw [bP _ _ (by omega)];exact hqe⟩|exact ⟨hB2.skip (by rw [hqe];intro h9;omega),hhq2,by omega,by omega,hqe⟩) (S.sel [1,2,3,4,5,6] G G) (H.keep [4,42,0,3,5,40,41] rfl)
  refine wp_exit ?_;exact k6 (g1-1) (L2,qf2,ql2,h+1,QA2,qc2) a _ (by omega) (⟨hB2.next (by rw [hqe];omega),by omega,by omega⟩) (S.sel [0,1,2,3,4,5] G G) (H.keep [4,0,3] rfl)
 refine wp_exit ?_;refine k5 _ _ ?_;refine sS H fun K22 k22=>sr 2 G<|sE ?_;intro a H
 refine k22 _ ?_;refine wp_ret ?_;refine ret1 (fn:=Tryz.f107) rfl H rfl ?_;exact ⟨_,L,rfl,hB.done (by omega),(S.sel [0,3,4,5] G G)⟩
end
section
theorem wZ {N:Net} {r:RM} {mv:Nat→Nat→Mv} {p q:Nat} {v:Int}:∀ i k j,k<N.n i→j<7→upd (edgeC N r mv) p (cput (edgeC N r mv p) q (0+1) (.int .i64 v)) i k j=edgeC N (put2 r p q v) mv i k j:=by
 intro i k j _ _;rw [show (0+1:Nat)=1 from rfl,Mn]
theorem Mw {n:Nat→Nat} {p v:Nat} {x:Int} (h:x=(v:Int)):∀ k j,j<1→cput (ncl n) p 0 (.int .i64 x) k j=ncl (upd n p v) k j:=by
 intro k j hj;have:j=0:=by omega
 subst this;rw [Yp h];exact if_pos rfl
theorem PushI.same {N:Net} {L:Nat→Int} {x u:Nat} {r r1:RM} {nx nx1:Nat→Nat} {j:Nat} (I:PushI N L x u r nx 0 r1 nx1) (hu:u<N.k) (hj:j<N.n u) (h:¬ (0<r1 u j∧L (N.to u j)=L u+1)) (hr:0<r u j) (hl:L (N.to u j)=L u+1):False:=by
 have:=(I.zero rfl).1 u hu j hj
 exact h ⟨by omega,hl⟩
def PushC (N:Net) (mv:Nat→Nat→Mv) (nb:Nat) (pl tk:Int) (st1 st2:Value) (EA:Option Addr) (A:Nat→Option Addr) (c:Nat→Nat) (b x:Nat) (L:Nat→Int) (LA:Option Addr) (lc:Nat) (NA:Option Addr) (d:Int):Prop:=
 ∀ (u:Nat) (most:Int) (r:RM) (nx:Nat→Nat) (w:World) (F:Nat→Prop) (S:St w F [boxM nb 168 [.int .i64 pl,st1,st2,.int .i64 tk,.slice EA N.k N.k,.int .i64 (b:Int),.int .i64 (x:Int)],ownM 187 1 EA N.k N.k (hdc A N.n c),ragM 189 7 (fun q=>q<N.k) A N.n c (edgeC N r mv),ownM 3 1 NA N.k N.k (ncl nx)] w) (hl:InS w F 1 LA N.k (lcl L)) (hO:Ok N r 2199023255552) (hn:∀ i,i<N.k→nx i≤N.n i) (hu:u<N.k) (hm:0≤most∧most≤2199023255552) (_:d≤L u),Calls Tryz.prog 108 [.pointer (some ⟨nb,0,none⟩),.int .i64 (u:Int),.int .i64 most,.slice LA N.k lc,.slice NA N.k N.k].toArray w (Ret (fun v w'=>∃ m r' nx',v = .int .i64 m∧PushR N L x u r nx most m r' nx'∧St w F [boxM nb 168 [.int .i64 pl,st1,st2,.int .i64 tk,.slice EA N.k N.k,.int .i64 (b:Int),.int .i64 (x:Int)],ownM 187 1 EA N.k N.k (hdc A N.n c),ragM 189 7 (fun q=>q<N.k) A N.n c (edgeC N r' mv),ownM 3 1 NA N.k N.k (ncl nx')] w'))
theorem Mx (N:Net) (r:RM) (mv:Nat→Nat→Mv) (nb:Nat) (pl tk:Int) (st1 st2:Value) (EA:Option Addr) (A:Nat→Option Addr) (c:Nat→Nat) (b x:Nat) (L:Nat→Int) (LA:Option Addr) (lc:Nat) (NA:Option Addr) (d:Int) (u:Nat) (most:Int) (nx:Nat→Nat) (W:N.Wf) (hb:b<N.k) (hx:x<N.k) (hk:N.k≤1000000) (hL:∀ v,v<N.k → -1≤L v∧L v<N.k) (w:World) (F:Nat→Prop) (S:St w F [boxM nb 168 [.int .i64 pl,st1,st2,.int .i64 tk,.slice EA N.k N.k,.int .i64 (b:Int),.int .i64 (x:Int)],ownM 187 1 EA N.k N.k (hdc A N.n c),ragM 189 7 (fun q=>q<N.k) A N.n c (edgeC N r mv),ownM 3 1 NA N.k N.k (ncl nx)] w) (hl:InS w F 1 LA N.k (lcl L)) (hO:Ok N r 2199023255552) (hn:∀ i,i<N.k→nx i≤N.n i) (hu:u<N.k) (hm:0≤most∧most≤2199023255552) (hd:d≤L u+1) (ih:PushC N mv nb pl tk st1 st2 EA A c b x L LA lc NA d) :
    Calls Tryz.prog 108 [.pointer (some ⟨nb,0,none⟩),.int .i64 (u:Int),.int .i64 most,.slice LA N.k lc,.slice NA N.k N.k].toArray w (Ret (fun v w'=>∃ m r' nx',v = .int .i64 m∧PushR N L x u r nx most m r' nx'∧St w F [boxM nb 168 [.int .i64 pl,st1,st2,.int .i64 tk,.slice EA N.k N.k,.int .i64 (b:Int),.int .i64 (x:Int)],ownM 187 1 EA N.k N.k (hdc A N.n c),ragM 189 7 (fun q=>q<N.k) A N.n c (edgeC N r' mv),ownM 3 1 NA N.k N.k (ncl nx')] w')):=by
 refine enter Tryz.func108 rfl Tryz.ntmps108 rfl (fun a H=>?_)
 skip
 refine sS H fun K1 k1=>sr 1 G<|sE ?_;intro a H
 refine k1 _ ?_;refine wp_seq_k fun K2 k2=>?_
 refine sS H fun K3 k3=>sr 3 G<|sf wR rfl<|sl S 0 aC G G G<|sr 1 G<|sE ?_;intro a H
 refine k3 _ ?_;refine condE H rfl (fun hc1=>?_) (fun hc1=>?_)
 ·skip
  refine sS H fun K4 k4=>sr 2 G<|sE ?_;intro a H
  refine k4 _ ?_;refine wp_ret ?_;refine ret1 (fn:=Tryz.f108) rfl H rfl ?_;have hux:u=x:=by omega
  subst hux;exact ⟨_,r,nx,rfl,PushR.here hO hn hm.1,(S.sel [0,1,2,3] G G)⟩
 refine wp_skip ?_;refine k2 _ _ ?_;replace H:=H.keep [0,1,2,3,4] rfl;refine sS H fun K5 k5=>sr 1 G<|sE ?_;intro a H
 refine k5 _ ?_;refine wp_seq_k fun K6 k6=>?_
 refine wp_block ?_;refine loop_st (X:=Int×RM×(Nat→Nat)) (R0:=_) [0,1,2,3,4] H rfl (fun ⟨sent,r1,nx1⟩=>[(11,.int .i64 sent)]) (fun ⟨sent,r1,nx1⟩=>[ragM 189 7 (fun q=>q<N.k) A N.n c (edgeC N r1 mv),ownM 3 1 NA N.k N.k (ncl nx1)]) (fun g ⟨sent,r1,nx1⟩=>PushI N L x u r nx sent r1 nx1∧0≤sent∧sent≤most∧g+nx1 u=N.n u) (N.n u-nx u) (0,r,nx) ?_ (S.sel [2,3,0,1] G G) (H.keep [11,0,1,2,3,4] rfl) ?_
 · exact ⟨PushI.start hO hn,by omega,by omega,by have:=hn u hu;omega⟩
 clear H S a;intro g1 x1 a w1 hp S H K7 k7;obtain ⟨sent,r1,nx1⟩:=x1;dsimp only at hp S H;obtain ⟨hI,h0s,hsm,hgj⟩:=hp;have hO1:=hI.fl.ok hO;have hxn:=(hI.nxl u hu).2;refine wp_seq_k fun K8 k8=>?_
 replace H:=H.keep [0,1,2,3,4,11] rfl;replace S:=S.drew;refine sD H fun K9 k9=>sr 2 G<|si aQ aY G G (aIp S (i:=1) rfl (by omega)) (by omega)<|slm aC rfl (aIq S (i:=1) rfl (by omega) (by omega))<|sr 2 G<|sf gE rfl<|sl S 2 iC G G G<|sr 1 G<|si iV iT G G (aIp S (i:=3) rfl (by omega)) (by omega)<|slm lI rfl (aIq S (i:=3) rfl (by omega) (by omega))<|sL kB rfl<|sr 1 G<|sE ?_;intro a H
 refine k9 _ ?_;refine condL H rfl (fun hc2=>?_) (fun hc2=>?_)
 ·skip
  refine wp_skip ?_;refine k8 _ _ ?_;refine wp_seq_k fun K10 k10=>?_
  refine wp_block ?_;obtain ⟨j,hjd⟩:∃ j,j=nx1 u:=⟨_,rfl⟩;have hjn:j<N.n u:=by omega
  have htk:=W.to_lt u hu j hjn
  have hbk:=W.bk_lt u hu j hjn
  have hru0:=hO1.nn u hu j hjn;have hrl0:=hO1.le W hu hjn
  have hLu:=hL u hu;have hLt:=hL _ htk
  have hnl:=aJb S (i:=0) rfl hu
  have hmx:maxLen=9223372036854775807:=rfl
  replace H:=H.keep [0,1,2,3,4,11] rfl;replace S:=S.drew;refine sD H fun K11 k11=>sr 2 G<|sf gE rfl<|sl S 2 iC G G G<|sr 1 G<|si iV iT G G (aIp S (i:=3) rfl (by omega)) (by omega)<|slm lI rfl (aIq S (i:=3) rfl (by omega) (by omega))<|sr 2 G<|si aQ aY G G (aIp S (i:=1) rfl (by omega)) (by omega)<|sd ((aE aC rfl (aIq S (i:=1) rfl (by omega) (by omega))).to (v' := .int .i64 (j:Int)) (by rw [hjd];rfl))<|si kB lS G G (aIy S (i:=0) (p:=u) rfl hu (by omega)) (by omega)<|sr 1 G<|sE ?_;intro a H
  refine k11 _ ?_;have SR:=(S.sel [2,3] G G);refine eZ (X:=Int×RM×(Nat→Nat)) [0,1,2,3,4] H rfl (fun ⟨sent2,r2,nx2⟩=>[(11,.int .i64 sent2)]) (fun ⟨sent2,r2,nx2⟩=>[ragM 189 7 (fun q=>q<N.k) A N.n c (edgeC N r2 mv),ownM 3 1 NA N.k N.k (ncl nx2)]) (fun ⟨sent2,r2,nx2⟩=>PushI N L x u r nx sent2 r2 nx2∧0≤sent2∧sent2≤most∧nx2 u=j∧(sent2≠most→sent2=0→Dead N r L x nx→0<r u j→L (N.to u j)=L u+1→¬ Path N r L x (N.to u j))) SR (fun K13 k13=>?_) ?_
  ·skip
   replace H:=H.keep [0,1,2,3,4,11,12] rfl;replace S:=S.drew;refine sD H fun K14 k14=>sr 2 G<|sp kV rfl<|slm aC rfl (aIt S (i:=0) (p:=u) rfl hu (by omega) (by omega))<|sr 2 G<|sg 13 5 57 70 true G G (fun hg6=>sy hg6<|sr 1 G<|sy hg6<|sr 1 G<|sy hg6<|sr 1 G<|sy hg6<|sp mG rfl<|sy hg6<|slm aC rfl (aIt S (i:=0) (p:=u) rfl hu (by omega) (by omega))<|sy hg6<|si aQ aY G G (hl.adr (by omega)) (by omega)<|sy hg6<|slm aC rfl (hl.rd S (by omega) (by omega))<|sy hg6<|sr 1 G<|sy hg6<|sr 1 G<|sy hg6<|si aQ aY G G (hl.adr (by omega)) (by omega)<|sy hg6<|slm aC rfl (hl.rd S (by omega) (by omega))<|sy hg6<|sd (aH G G (by unfold i64ok;omega))<|sy hg6<|sr 1 G<|sz 13 G G G)<|sa G G G<|sE ?_;intro a H
   refine k14 _ ?_;refine aU H rfl (fun hc3=>?_) (fun hc3=>?_)
   ·skip
    try simp only [oz] at hc3
    replace H:=H.keep [0,1,2,3,4,11,12] rfl;refine jW 15 (by kernel_rfl) (by kernel_rfl) fun K15 k15=>?_
    replace S:=S.drew;refine sF H<|sr 3 G<|sp mG rfl<|slm aC rfl (aIt S (i:=0) (p:=u) rfl hu (by omega) (by omega))<|sr 2 G<|sd (aS G G (by unfold i64ok;omega))<|sr 2 G<|sp kV rfl<|slm aC rfl (aIt S (i:=0) (p:=u) rfl hu (by omega) (by omega))<|sd (nU G G)<|sr 2 G<|sE ?_;intro a H
    have S1:=(S.sel [2,3,0,1] G G)
    refine aB H G G Tryz.func108 G G (ih (N.to u j) (min (most-sent) (r1 u j)) r1 nx1 _ _ S1.startR (hl.nowR S1) hO1 (fun i hi=>(hI.nxl i hi).2) htk (by omega) (by omega)) ?_;clear H a
    rintro _ _ a ⟨m2,r2,nx2,rfl,hK,S2⟩ H;replace S:=(S.sel [2,3,0,1] rfl rfl).callR (M:=[_,_,_,_]) S2;clear S1 S2;have hru:r2 u j=r1 u j:=hK.low u hu j hjn (by omega);have hO2:=hK.fl.ok hO1;have hkm:=hK.ml;have hk0:=hK.m0;have hr2n:=hO2.nn _ htk _ hbk;have hr2l:=hO2.le W htk hbk;have hpn:put2 r2 u j (r2 u j-m2) (N.to u j) (N.back u j)=r2 (N.to u j) (N.back u j):=kG (fun h=>W.to_ne u hu j hjn h.1);have hce:put2 (put2 r2 u j (r2 u j-m2)) (N.to u j) (N.back u j) (put2 r2 u j (r2 u j-m2) (N.to u j) (N.back u j)+m2)=along N r2 u j m2:=by rw [hpn];rfl
    have hE:=hI.edge W hu hjn hc3.2 h0s hK
    refine ls 1 H<|sr 1 G<|sE ?_;intro a H
    refine k15 _ _ ?_;replace H:=H.keep [0,1,2,3,4,11,12,13] rfl;refine aA fun K16 k16=>?_
    refine ls 8 H<|sr 2 G<|sp kV rfl<|slm aC rfl (aIt S (i:=2) (p:=u) rfl hu (by omega) (by omega))<|sr 1 G<|sd (aS G G (by unfold i64ok;omega))<|sr 1 G<|sp kV rfl<|sE ?_;intro a H
    refine nZ H S (i:=2) (p:=u) G G G hu hjn (by omega) aY rfl ?_;intro _ a S H
    replace S:=aIw S (i:=2) rfl (cell':=edgeC N (put2 r2 u j (r2 u j-m2)) mv) (fun _ _=>rfl) (fun _ _=>rfl) (fun _ _=>rfl) (fun i _=>wZ i);refine k16 _ _ ?_;replace H:=H.keep [0,1,2,3,4,11,12,13] rfl;refine jW 21 (by kernel_rfl) (by kernel_rfl) fun K17 k17=>?_
    replace S:=S.drew;refine sF H<|sr 2 G<|sf gE rfl<|sl S 0 iC G G G<|sr 2 G<|sp mG rfl<|slm aC rfl (aIt S (i:=2) (p:=u) rfl hu (by omega) (by omega))<|si iV iT G G (aIp S (i:=1) rfl (by omega)) (by omega)<|slm lI rfl (aIq S (i:=1) rfl (by omega) (by omega))<|sr 2 G<|sp Qw rfl<|slm aC rfl (aIt S (i:=2) (p:=u) rfl hu (by omega) (by omega))<|si kB lS G G (aIy S (i:=2) (p:=N.to u j) rfl htk (by omega)) (by omega)<|sp kV rfl<|slm aC rfl (aIt S (i:=2) (p:=N.to u j) rfl htk hbk (by omega))<|sr 1 G<|sd (aH G G (by rw [hpn];unfold i64ok;omega))<|si kB lS G G (aIy S (i:=2) (p:=N.to u j) rfl htk (by omega)) (by omega)<|sp kV rfl<|sE ?_;intro a H
    refine nZ H S (i:=2) (p:=N.to u j) G G G htk hbk (by omega) aY rfl ?_;intro _ a S H
    replace S:=aIw S (i:=2) rfl (cell':=edgeC N (along N r2 u j m2) mv) (fun _ _=>rfl) (fun _ _=>rfl) (fun _ _=>rfl) (fun i _ k j hk hj=>by rw [wZ i k j hk hj];exact congrArg (fun r=>edgeC N r mv i k j) hce);refine k17 _ _ ?_;replace H:=H.keep [0,1,2,3,4,11,13] rfl;refine sO H<|sr 2 G<|sd (aH G G (by unfold i64ok;omega))<|sr 1 G<|sE ?_;intro a H
    exact k13 (sent+m2,along N r2 u j m2,nx2) a _ (⟨hE,by omega,by omega,by rw [hK.nlow u hu (by omega)];omega,fun h1 h2 hd h3 h4=>(by
      have h5:sent=0:=by omega
      obtain ⟨e1,e2⟩:=hI.zero h5;have h6:=hK.none (by omega) (qH W e1 (e2 hd)) (by omega);exact fun hp=>h6 (wJ W (fun i hi q hq=>(e1 i hi q hq).symm) hp htk))⟩) (S.sel [2,3,0,1] rfl rfl) (H.keep [11,0,1,2,3,4] rfl)
   try simp only [oz] at hc3
   refine wp_skip ?_;exact k13 (sent,r1,nx1) a _ (⟨hI,h0s,hsm,hjd.symm,fun h1 h2 hd h3 h4=>by subst h2;exact (hI.same hu hjn (by intro h9;omega) h3 h4).elim⟩) (S.sel [0,1,2,3] G G) (H.keep [11,0,1,2,3,4] rfl)
  clear SR H S a;intro xm a wm hp S H;obtain ⟨sent2,r2,nx2⟩:=xm;obtain ⟨hI2,h0s2,hsm2,hnj,hp2⟩:=hp;refine sS H fun K19 k19=>sr 3 G<|sE ?_;intro a H
  refine k19 _ ?_;refine condE H rfl (fun hc4=>?_) (fun hc4=>?_)
  ·skip
   refine sS H fun K20 k20=>sr 2 G<|sE ?_;intro a H
   refine k20 _ ?_;refine wp_ret ?_;refine ret1 (fn:=Tryz.f108) rfl H rfl ?_;exact ⟨_,_,_,rfl,hI2.full h0s2 (by omega),(S.sel [2,3,0,1] G G)⟩
  refine wp_skip ?_;refine k10 _ _ ?_;replace H:=H.keep [0,1,2,3,4,11] rfl;refine cN ?_;refine ls 6 H<|sr 2 G<|si aQ aY G G (aIp S (i:=1) rfl (by omega)) (by omega)<|slm aC rfl (aIq S (i:=1) rfl (by omega) (by omega))<|sd (aH G G (by unfold i64ok;omega))<|si aQ aY G G (aIp S (i:=1) rfl (by omega)) (by omega)<|sE ?_;intro a H
  refine bB H S (i:=1) G G G (by omega) (by omega) aY rfl ?_
  clear H a S;intro _ a S H;replace S:=S.recell (i:=1) rfl (cell':=ncl (upd nx2 u (j+1))) (fun k q hk hq=>Mw (by rw [hnj];omega) k q hq);exact k7 (g1-1) (sent2,r2,upd nx2 u (j+1)) a _ (by omega) (⟨hI2.skip W hu hnj hjn (fun h0 hd h1 h2=>hp2 (by omega) h0 hd h1 h2),by omega,by omega,by rw [bR];omega⟩) (S.sel [0,1,2,3] G G) (H.keep [11,0,1,2,3,4] rfl)
 refine wp_exit ?_;refine k6 _ _ ?_;refine sS H fun K22 k22=>sr 2 G<|sE ?_;intro a H
 refine k22 _ ?_;refine wp_ret ?_;refine ret1 (fn:=Tryz.f108) rfl H rfl ?_;exact ⟨_,_,_,rfl,hI.done hu (by omega) (by omega) h0s hsm,(S.sel [2,3,0,1] G G)⟩
end
section
theorem Sg (N:Net) (mv:Nat→Nat→Mv) (nb:Nat) (pl tk:Int) (st1 st2:Value) (EA:Option Addr) (A:Nat→Option Addr) (c:Nat→Nat) (b x:Nat) (L:Nat→Int) (LA:Option Addr) (lc:Nat) (NA:Option Addr) (W:N.Wf) (hb:b<N.k) (hx:x<N.k) (hk:N.k≤1000000) (hL:∀ v,v<N.k → -1≤L v∧L v<N.k):∀ n:Nat,PushC N mv nb pl tk st1 st2 EA A c b x L LA lc NA ((N.k:Int)-n):=by
  intro n;induction n with
  | zero=>intro u most r nx w F S hl hO hn hu hm hd;have:=(hL u hu).2;omega
  | succ n ih=>
    intro u most r nx w F S hl hO hn hu hm hd;exact Mx N r mv nb pl tk st1 st2 EA A c b x L LA lc NA _ u most nx W hb hx hk hL w F S hl hO hn hu hm (by omega) ih
theorem Fl.bound {N:Net} {r r':RM} {b x:Nat} {v B:Int} (h:Fl N r r' b x v) (o:Ok N r B) (hbx:b≠x):v≤resid N r (fun v=>decide (v=b)):=by
 have h1:=mD (S:=(fun v=>decide (v=b))) (h.ok o)
 rw [h.cut] at h1;unfold ind at h1;have hxb:¬ x=b:=fun e=>hbx e.symm
 simp [hxb] at h1
 omega
theorem Hn:∀ k j,j<1→[Value.int .i64 0].getD j undef=ncl (fun _=>0) k j:=by
 intro k j hj;have:j=0:=by omega
 subst this;rfl
theorem dead0 {N:Net} {r:RM} {L:Nat→Int} {x:Nat}:Dead N r L x (fun _=>0):=fun u hu j hj=>absurd hj (Nat.not_lt_zero j)
theorem Sh (N:Net) (r:RM) (mv:Nat→Nat→Mv) (nb:Nat) (pl tk:Int) (st1 st2:Value) (EA:Option Addr) (A:Nat→Option Addr) (c:Nat→Nat) (b x:Nat) (w:World) (F:Nat→Prop) (S:St w F [boxM nb 168 [.int .i64 pl,st1,st2,.int .i64 tk,.slice EA N.k N.k,.int .i64 (b:Int),.int .i64 (x:Int)],ownM 187 1 EA N.k N.k (hdc A N.n c),ragM 189 7 (fun q=>q<N.k) A N.n c (edgeC N r mv)] w) (W:N.Wf) (hO:Ok N r 2199023255552) (hb:b<N.k) (hx:x<N.k) (hbx:b≠x) (hk:N.k≤1000000) (hV:resid N r (fun v=>decide (v=b))≤1000000000) :
    Calls Tryz.prog 90 [.pointer (some ⟨nb,0,none⟩)].toArray w (Ret (fun u w'=>∃ v r',u = .int .i64 v∧Fl N r r' b x v∧0≤v∧(∃ L,LevOk N r' b L∧L x<0)∧St w F [boxM nb 168 [.int .i64 pl,st1,st2,.int .i64 tk,.slice EA N.k N.k,.int .i64 (b:Int),.int .i64 (x:Int)],ownM 187 1 EA N.k N.k (hdc A N.n c),ragM 189 7 (fun q=>q<N.k) A N.n c (edgeC N r' mv)] w')):=by
 refine enter Tryz.func90 rfl Tryz.ntmps90 rfl (fun a H=>?_)
 skip
 refine sS H fun K1 k1=>sr 1 G<|sE ?_;intro a H
 refine k1 _ ?_;refine sS H fun K2 k2=>sr 1 G<|sE ?_;intro a H
 refine k2 _ ?_;refine wp_block ?_;refine loop_st (X:=Int×RM) (R0:=_) [0] H rfl (fun ⟨sum,r1⟩=>[(3,.int .i64 sum)]) (fun ⟨sum,r1⟩=>[ragM 189 7 (fun q=>q<N.k) A N.n c (edgeC N r1 mv)]) (fun g ⟨sum,r1⟩=>Fl N r r1 b x sum∧0≤sum∧(g:Int)+sum=resid N r (fun v=>decide (v=b))) ((resid N r (fun v=>decide (v=b))).toNat) (0,r) ?_ (S.sel [2,0,1] G G) (H.keep [3,0] rfl) ?_
 · exact ⟨Fl.zero hO,by omega,by have:=mD (S:=(fun v=>decide (v=b))) hO;omega⟩
 clear H S a;intro g1 x1 a w1 hp S H K3 k3;obtain ⟨sum,r1⟩:=x1;dsimp only at hp S H;obtain ⟨hF,h0,hg⟩:=hp;have hO1:=hF.ok hO;have hFb0:=hF.bound hO hbx;refine wp_block ?_;refine aA fun K4 k4=>?_
 refine ls 1 H<|sr 1 G<|sE ?_;intro a H
 have S1:=(S.sel [1,2,0] G G)
 refine aB H G G Tryz.func107 G G (Hm N r1 mv nb pl tk st1 st2 EA A c b x _ _ S1.startR W hO1 hb hx hbx hk) ?_;clear H a
 rintro _ _ a ⟨LA,L,rfl,hLv,S2⟩ H;replace S:=(S.sel [1,2,0] rfl rfl).callR (M:=[_,_,_]) S2;clear S1 S2;refine ls 1 H<|sr 1 G<|sE ?_;intro a H
 refine k4 _ _ ?_;refine wp_seq_k fun K5 k5=>?_
 replace H:=H.keep [0,3,4] rfl;refine sS H fun K6 k6=>sr 3 G<|sf wR rfl<|sl S 1 aC G G G<|si aQ aY G G (aIp S (i:=0) rfl (by omega)) (by omega)<|slm aC rfl (aIq S (i:=0) rfl (by omega) (by omega))<|sr 1 G<|sE ?_;intro a H
 refine k6 _ ?_;refine condL H rfl (fun hc1=>?_) (fun hc1=>?_)
 ·skip
  replace H:=H.keep [3] rfl;refine sS H fun K7 k7=>sr 2 G<|sE ?_;intro a H
  refine k7 _ ?_;refine wp_ret ?_;refine ret1 (fn:=Tryz.f90) rfl H rfl ?_;exact ⟨_,_,rfl,hF,h0,⟨L,hLv,by omega⟩,(S.sel [1,2,3] G G)⟩
 refine wp_skip ?_;refine k5 _ _ ?_;replace H:=H.keep [0,3,4] rfl;replace S:=S.drew;refine one_wq [(0,true),(1,true),(2,true),(3,true),(4,true),(5,true),(6,true),(7,true),(8,true),(9,true),(10,true),(11,true),(12,false),(13,false),(14,true),(15,true)] (by kernel_rfl) (by kernel_rfl) (S.sel [0,1,2] G G) ?_;refine qF H<|qr 4 G<|qd G (fun _ S=>(aF rR rfl))<|qd G (fun _ S=>aE aC rfl (aIo S (i:=1) G G))<|qr 3 G<|qd G (fun _ S=>(aF gE rfl))<|qd G (fun _ S=>aE iC rfl (aIo S (i:=1) G G))<|qd G (fun _ S=>dF iV rfl)<|qK ?_;intro a H
 refine bD rfl ?_
 refine eU (n:=_) H rfl S aQ aY eF lU rfl (by decide) G G (by omega) (by omega) ?_;intro A1 _ a hA1 S H
 replace S:=S.recell (i:=0) rfl (cell':=ncl (fun _=>0)) (fun k j hk hj=>Hn k j hj);refine wpList_nil (And.intro (S.sel [1,2,3] rfl rfl) ?_);refine bD rfl ?_;have S1:=(S.sel [2,3,4,0] rfl rfl);refine aB H rfl rfl Tryz.func108 rfl rfl ((by have:=Sg N mv nb pl tk st1 st2 EA A c b x L LA N.k _ W hb hx hk hLv.rng N.k b 1099511627776 r1 (fun _=>0) _ _ S1.startR (aJe S (i:=1) rfl [2,3,4,0] rfl rfl) hO1 (fun i hi=>Nat.zero_le _) hb (by omega) (by rw [hLv.b0];omega);exact this)) ?_;clear H a;rintro _ _ a ⟨m2,r2,nx2,rfl,hK,S2⟩ H;replace S:=(S.sel [2,3,4,0,1] rfl rfl).callR (M:=[_,_,_,_]) S2;clear S1 S2;have hm0:=hK.m0;have hm1:m2≠0:=fun h=>hK.none h dead0 (by omega) (Ba hLv hx (by omega))
 have hF2:=hF.more hK.fl
 have hFb:=hF2.bound hO hbx
 refine wpList_nil (And.intro (S.sel [4,0,1] G G) ?_);refine qF H<|qd G (fun _ S=>aH G G (by unfold i64ok;omega))<|qr 1 G<|qK ?_;intro a H
 refine bY ?_
 exact k3 ((resid N r (fun v=>decide (v=b))-(sum+m2)).toNat) (sum+m2,r2) a _ (by omega) (⟨hF2,by omega,by omega⟩) (S.sel [2,0,1] G G) (H.keep [3,0] rfl)
end
section
theorem seven {p:Nat→Prop} (h0:p 0) (h1:p 1) (h2:p 2) (h3:p 3) (h4:p 4) (h5:p 5) (h6:p 6):∀ j,j<7→p j:=by
 intro j hj;match j,hj with
 | 0,_=>exact h0
 | 1,_=>exact h1
 | 2,_=>exact h2
 | 3,_=>exact h3
 | 4,_=>exact h4
 | 5,_=>exact h5
 | 6,_=>exact h6
theorem xA {T:Tab} {f:Nat} {e:Ent} (q:Nat):upd (tlen T) f (tlen T f+1) q=tlen (upd T f (T f++[e])) q:=by
 unfold tlen upd
 split <;> simp
theorem Du {T:Tab} {f:Nat} {e:Ent}:((tlen (upd T f (T f++[e])) f:Nat):Int)=((T f).length:Int)+1:=by
 unfold tlen
 rw [bR,List.length_append];simp
theorem Ke {T:Tab} {f t:Nat} {l:List Ent} (h:f≠t):tlen (upd T f l) t=tlen T t:=by unfold tlen;rw [bP _ _ (fun e=>h e.symm)]
theorem Si {T:Tab} {f t:Nat} {room:Int} {mv:Mv} (h:f≠t):joinT T f t room mv=upd (upd T f (T f++[⟨t,room,(T t).length,mv⟩])) t ((upd T f (T f++[⟨t,room,(T t).length,mv⟩])) t++[⟨f,0,(T f).length,Mv.none⟩]):=by
 unfold joinT
 rw [bP (i:=t) _ _ (fun e=>h e.symm)]
theorem xB {T:Tab} {f:Nat} {e:Ent} {vs:List Value} (h:∀ j,j<7→vs.getD j undef=e.cell j):∀ i k j,k<upd (tlen T) f (tlen T f+1) i→j<7 →
    upd (tcell T) f (capp (tlen T f) (tcell T f) (fun k' j=>([vs].getD k' []).getD j undef)) i k j=tcell (upd T f (T f++[e])) i k j:=by
  intro i k j hk hj;by_cases hi:i=f
  · subst hi
    rw [bR] at hk ⊢;unfold capp tcell;rw [bR];unfold tlen at hk ⊢;by_cases h1:k<(T i).length
    · rw [if_pos h1,List.getD_eq_getElem?_getD,List.getD_eq_getElem?_getD,List.getElem?_append_left h1]
    · have h2:k=(T i).length:=by omega
      subst h2;rw [if_neg h1,Nat.sub_self];rw [List.getD_eq_getElem?_getD (l:=T i++[e]),List.getElem?_append_right (Nat.le_refl _),Nat.sub_self];exact h j hj
  · rw [bP _ _ hi] at hk ⊢
    unfold tcell
    rw [bP _ _ hi]
theorem Sj {T:Tab} {f:Nat} {e:Ent} {A:Nat→Option Addr} {c:Nat→Nat} {A1:Option Addr} {c1:Nat}:∀ k j,j<1→cput (hdc A (tlen T) c) f 0 (.slice A1 (tlen T f+1) c1) k j=hdc (upd A f A1) (tlen (upd T f (T f++[e]))) (upd c f c1) k j:=by
 intro k j hj;have:j=0:=by omega
 subst this;unfold cput hdc;rw [←xA];by_cases h:k=f
 ·subst h;simp [bR]
 ·simp [bP _ _ h,h]
theorem Dv {l:List Int} {x:Int} {k:Nat} (hk:k<l.length) (h:(l.take k).any (fun y=>decide (x=y))=false) (hx:¬ x=l.getD k 0):(l.take (k+1)).any (fun y=>decide (x=y))=false:=by
 rw [List.take_succ_eq_append_getElem hk,List.any_append,h];rw [List.getD_eq_getElem?_getD,List.getElem?_eq_getElem hk] at hx;simpa using hx
theorem Sk {l:List Int} {x:Int} {k:Nat} (hk:k<l.length) (hx:x=l.getD k 0):hasI l x=true:=by
 rw [List.getD_eq_getElem?_getD,List.getElem?_eq_getElem hk] at hx;unfold hasI;rw [List.any_eq_true];exact ⟨l[k],List.getElem_mem hk,by simpa using hx⟩
theorem rV (T:Tab) (k nb:Nat) (pl tk:Int) (st1 st2:Value) (EA:Option Addr) (A:Nat→Option Addr) (c:Nat→Nat) (b x:Nat) (f t:Nat) (room m1 m2 m3 m4:Int) (w:World) (F:Nat→Prop) (S:St w F [boxM nb 168 [.int .i64 pl,st1,st2,.int .i64 tk,.slice EA k k,.int .i64 (b:Int),.int .i64 (x:Int)],ownM 187 1 EA k k (hdc A (tlen T) c),ragM 189 7 (fun q=>q<k) A (tlen T) c (tcell T)] w) (hf:f<k) (ht:t<k) (hft:f≠t) (hlen:∀ i,i<k→(T i).length≤1000000) :
    Calls Tryz.prog 103 [.pointer (some ⟨nb,0,none⟩),.int .i64 (f:Int),.int .i64 (t:Int),.int .i64 room,.agg [.int .i64 m1,.int .i64 m2,.int .i64 m3,.int .i64 m4].toArray].toArray w (Ret (fun u w'=>u = .tuple #[]∧∃ A' c',St w F [boxM nb 168 [.int .i64 pl,st1,st2,.int .i64 tk,.slice EA k k,.int .i64 (b:Int),.int .i64 (x:Int)],ownM 187 1 EA k k (hdc A' (tlen (joinT T f t room ⟨m1,m2,m3,m4⟩)) c'),ragM 189 7 (fun q=>q<k) A' (tlen (joinT T f t room ⟨m1,m2,m3,m4⟩)) c' (tcell (joinT T f t room ⟨m1,m2,m3,m4⟩))] w')):=by
 refine enter Tryz.func103 rfl Tryz.ntmps103 rfl (fun a H=>?_)
 skip
 refine aA fun K1 k1=>?_
 refine aO H rfl S G G ?_;intro b9 _ a hb9 hbw9 S H
 refine k1 _ _ ?_;replace H:=H.keep [0,1,2,3,9] rfl;replace S:=S.drew;refine lQ 27 (.p 0 (.p 1 (.p 2 (.q 3 (.p 4 (.p 5 (.p 6 (.p 7 (.q 8 (.p 9 (.p 10 (.q 11 (.p 12 (.p 13 (.p 14 (.p 15 (.p 16 (.q 17 (.p 18 (.p 19 (.q 20 (.p 21 (.q 22 (.p 23 (.e 24 (.e 25 (.p 26 (.e 27 .nil)))))))))))))))))))))))))))) (by kernel_rfl) (by kernel_rfl) (S.sel [0,1,2] G G) fun K2 k2=>?_
 refine aR H G G (fun _=>aJ rfl) ?_;intro a H
 refine aR H G G (fun _=>cG rfl) ?_;intro a H
 refine aR H G G (fun _=>(aF gE rfl)) ?_;intro a H
 refine aG H G G (fun _ S=>aE iC rfl (aIo S (i:=1) G G)) ?_;intro a H
 refine aR H G G (fun _=>aJ rfl) ?_;intro a H
 refine aR H G G (fun _=>aJ rfl) ?_;intro a H
 refine aR H G G (fun _=>cG rfl) ?_;intro a H
 refine aR H G G (fun _=>(aF gE rfl)) ?_;intro a H
 refine aG H G G (fun _ S=>aE iC rfl (aIo S (i:=1) G G)) ?_;intro a H
 refine aR H G G (fun _=>aJ rfl) ?_;intro a H
 refine aR H G G (fun _=>aW iV iT G G (aIp S (i:=2) rfl (by omega)) (by omega)) ?_;intro a H
 refine aG H G G (fun _ S=>aE lI rfl (aIq S (i:=2) rfl (by omega) (by omega))) ?_;intro a H
 refine aR H G G (fun _=>aJ rfl) ?_;intro a H
 refine aR H G G (fun _=>aJ rfl) ?_;intro a H
 refine aR H G G (fun _=>aJ rfl) ?_;intro a H
 refine aR H G G (fun _=>cG rfl) ?_;intro a H
 refine aR H G G (fun _=>(aF gE rfl)) ?_;intro a H
 refine aG H G G (fun _ S=>aE iC rfl (aIo S (i:=1) G G)) ?_;intro a H
 refine aR H G G (fun _=>aJ rfl) ?_;intro a H
 refine aR H G G (fun _=>aW iV iT G G (aIp S (i:=2) rfl (by omega)) (by omega)) ?_;intro a H
 refine aG H G G (fun _ S=>aE lI rfl (aIq S (i:=2) rfl (by omega) (by omega))) ?_;intro a H
 refine aR H G G (fun _=>dF kB rfl) ?_;intro a H
 refine aG H G G (fun _ S=>(aD uU wN rfl S (i:=0) G G)) ?_;intro a H
 refine aR H G G (fun _=>aN Rn G G) ?_;intro a H
 refine bA rfl ?_
 refine aK H rfl S kB lS tI G G G G G G G G G ?_;intro A1 _ a hA1 S H
 refine wpList_nil (And.intro (Or.inr (S.sel [1,2,3] G G)) ?_);refine bA rfl ?_;replace S:=aIv S (i:=4) rfl hf;refine aT H rfl S kB lS tI Ri G G (i:=0) G G G (aIr S (i:=0+1) rfl) (gQ (seven G G G G G G G)) (by have:=hlen f hf;have h9:tlen T f=(T f).length:=rfl;omega) (by have:=hlen f hf;have h9:tlen T f=(T f).length:=rfl;omega) ?_;intro Af cf _ a S H;replace S:=aIz S (i:=4) (p:=f) rfl hf;replace S:=aIw S (i:=4) rfl (n':=tlen (upd T f (T f++[⟨t,room,(T t).length,⟨m1,m2,m3,m4⟩⟩]))) (cell':=tcell (upd T f (T f++[⟨t,room,(T t).length,⟨m1,m2,m3,m4⟩⟩]))) (fun _ _=>rfl) (fun q _=>xA q) (fun _ _=>rfl) (fun i _=>xB (seven G G G G G G G) i);refine wpList_nil (And.intro (Or.inr (S.sel [1,2,3] G G)) ?_);refine aR H G G (fun _=>aW iV iT G G (aIp S (i:=3) rfl (by omega)) (by omega)) ?_;intro a H;refine bA rfl ?_;refine bB H S (i:=3) G G G (by omega) (by omega) iT rfl ?_;clear H a S;intro _ a S H;replace S:=S.recell (i:=3) rfl (cell':=hdc (upd A f Af) (tlen (upd T f (T f++[⟨t,room,(T t).length,⟨m1,m2,m3,m4⟩⟩]))) (upd c f cf)) (fun k j hk hj=>Sj k j hj);refine wpList_nil (And.intro (Or.inl rfl) ?_);refine dI ?_;refine k2 _ _ ?_;replace H:=H.keep [0,1,2] rfl;replace S:=S.drew;refine kR 27 (.p 0 (.p 1 (.p 2 (.q 3 (.p 4 (.p 5 (.p 6 (.p 7 (.q 8 (.p 9 (.p 10 (.q 11 (.p 12 (.p 13 (.p 14 (.p 15 (.q 16 (.p 17 (.p 18 (.q 19 (.p 20 (.p 21 (.p 22 (.p 23 (.e 24 (.e 25 (.p 26 (.e 27 .nil)))))))))))))))))))))))))))) (by kernel_rfl) (by kernel_rfl) (S.sel [0,1,2,3] G G) ?_;refine aR H G G (fun _=>aJ rfl) ?_;intro a H;refine aR H G G (fun _=>cG rfl) ?_;intro a H;refine aR H G G (fun _=>(aF gE rfl)) ?_;intro a H;refine aG H G G (fun _ S=>aE iC rfl (aIo S (i:=2) G G)) ?_;intro a H;refine aR H G G (fun _=>aJ rfl) ?_;intro a H;refine aR H G G (fun _=>aJ rfl) ?_;intro a H;refine aR H G G (fun _=>cG rfl) ?_;intro a H;refine aR H G G (fun _=>(aF gE rfl)) ?_;intro a H;refine aG H G G (fun _ S=>aE iC rfl (aIo S (i:=2) G G)) ?_;intro a H;refine aR H G G (fun _=>aJ rfl) ?_;intro a H;refine aR H G G (fun _=>aW iV iT G G (aIp S (i:=3) rfl (by omega)) (by omega)) ?_;intro a H;refine aG H G G (fun _ S=>aE lI rfl (aIq S (i:=3) rfl (by omega) (by omega))) ?_;intro a H;refine aR H G G (fun _=>aJ rfl) ?_;intro a H;refine aR H G G (fun _=>aJ rfl) ?_;intro a H;refine aR H G G (fun _=>cG rfl) ?_;intro a H;refine aR H G G (fun _=>(aF gE rfl)) ?_;intro a H;refine aG H G G (fun _ S=>aE iC rfl (aIo S (i:=2) G G)) ?_;intro a H;refine aR H G G (fun _=>aJ rfl) ?_;intro a H;refine aR H G G (fun _=>aW iV iT G G (aIp S (i:=3) rfl (by omega)) (by omega)) ?_;intro a H;refine aG H G G (fun _ S=>aE lI rfl (aIq S (i:=3) rfl (by omega) (by omega))) ?_;intro a H;refine aR H G G (fun _=>dF kB rfl) ?_;intro a H;refine aR H G G (fun _=>(aS G G (by rw [Du];have:=hlen f hf;unfold i64ok;omega)).to (v' := .int .i64 ((T f).length:Int)) (by rw [Du];congr 1;omega)) ?_;intro a H;refine aR H G G (fun _=>aN Hf G G) ?_;intro a H;refine aR H G G (fun _=>aN Rn G G) ?_;intro a H;refine bA rfl ?_;refine aK H rfl S kB lS tI G G G G G G G G G ?_;intro A2 _ a hA2 S H;refine wpList_nil (And.intro (Or.inr (S.sel [1,2,3,4] G G)) ?_);refine bA rfl ?_;replace S:=aIv S (i:=5) rfl ht;refine aT H rfl S kB lS tI Ri G G (i:=0) G G G (aIr S (i:=0+1) rfl) (gQ (seven G G G G G G G)) (by have:=hlen t ht;rw [Ke hft];have h9:tlen T t=(T t).length:=rfl;omega) (by have:=hlen t ht;rw [Ke hft];have h9:tlen T t=(T t).length:=rfl;omega) ?_;intro At ct _ a S H;replace S:=aIz S (i:=5) (p:=t) rfl ht;replace S:=aIw S (i:=5) rfl (n':=tlen (upd (upd T f (T f++[⟨t,room,(T t).length,⟨m1,m2,m3,m4⟩⟩])) t ((upd T f (T f++[⟨t,room,(T t).length,⟨m1,m2,m3,m4⟩⟩])) t++[⟨f,0,(T f).length,Mv.none⟩]))) (cell':=tcell (upd (upd T f (T f++[⟨t,room,(T t).length,⟨m1,m2,m3,m4⟩⟩])) t ((upd T f (T f++[⟨t,room,(T t).length,⟨m1,m2,m3,m4⟩⟩])) t++[⟨f,0,(T f).length,Mv.none⟩]))) (fun _ _=>rfl) (fun q _=>xA q) (fun _ _=>rfl) (fun i _=>xB (seven G G G G G G G) i);refine wpList_nil (And.intro (Or.inr (S.sel [1,2,3,4] G G)) ?_);refine aR H G G (fun _=>aW iV iT G G (aIp S (i:=4) rfl (by omega)) (by omega)) ?_;intro a H;refine bA rfl ?_;refine bB H S (i:=4) G G G (by omega) (by omega) iT rfl ?_;clear H a S;intro _ a S H;replace S:=S.recell (i:=4) rfl (cell':=hdc (upd (upd A f Af) t At) (tlen (upd (upd T f (T f++[⟨t,room,(T t).length,⟨m1,m2,m3,m4⟩⟩])) t ((upd T f (T f++[⟨t,room,(T t).length,⟨m1,m2,m3,m4⟩⟩])) t++[⟨f,0,(T f).length,Mv.none⟩]))) (upd (upd c f cf) t ct)) (fun k j hk hj=>Sj k j hj);refine wpList_nil (And.intro (Or.inl rfl) ?_);refine dI ?_;refine ret0 (fn:=Tryz.f103) rfl H ?_;rw [Si hft];exact ⟨rfl,_,_,(S.sel [3,4,5] G G)⟩
theorem Bq (l:List Int) (A:Option Addr) (cp:Nat) (x:Int) (w:World) (hl:InS w noF 1 A l.length (icl l)) (hn:l.length≤9223372036854775807) :
    Calls Tryz.prog 117 [.slice A l.length cp,.int .i64 x].toArray w (Ret (fun u w'=>∃ n:Int,u = .int .i64 n∧decide (0≤n)=hasI l x∧St w noF [] w')):=by
 refine enter Tryz.func117 rfl Tryz.ntmps117 rfl (fun a H=>?_)
 have S:=St.start w
 refine sS H fun K1 k1=>sr 1 G<|sE ?_;intro a H
 refine k1 _ ?_;refine wp_seq_k fun K2 k2=>?_
 refine sS H fun K3 k3=>sr 1 G<|sL aQ rfl<|sr 1 G<|sE ?_;intro a H
 refine k3 _ ?_;refine wp_block ?_;refine loop_st (X:=Nat) (R0:=_) [0,1,7] H rfl (fun k=>[(8,.int .i64 (k:Int))]) (fun k=>[]) (fun g k=>k≤l.length∧g+k=l.length∧(l.take k).any (fun y=>decide (x=y))=false) (l.length) 0 ?_ (S.sel [] G G) (H.keep [8,0,1,7] rfl) ?_
 · exact ⟨by omega,by omega,rfl⟩
 clear H S a;intro g1 x1 a w1 hp S H K4 k4;obtain ⟨k,rfl⟩:∃ y,y=x1:=⟨_,rfl⟩;refine sS H fun K5 k5=>sr 1 G<|sE ?_;intro a H
 refine k5 _ ?_;refine wp_seq_k fun K6 k6=>?_
 refine condL H rfl (fun hc1=>?_) (fun hc1=>?_)
 ·skip
  refine wp_skip ?_;refine k6 _ _ ?_;refine wp_seq_k fun K7 k7=>?_
  refine wp_block ?_;refine sS H fun K8 k8=>sr 2 G<|sE ?_;intro a H
  refine k8 _ ?_;refine sS H fun K9 k9=>sr 3 G<|si aQ aY G G (hl.adr (by omega)) (by omega)<|slm aC rfl (hl.rd S (by omega) (by omega))<|sr 1 G<|sE ?_;intro a H
  refine k9 _ ?_;refine condE H rfl (fun hc2=>?_) (fun hc2=>?_)
  ·skip
   replace H:=H.keep [5] rfl;refine sS H fun K10 k10=>sr 2 G<|sE ?_;intro a H
   refine k10 _ ?_;refine wp_ret ?_;refine ret1 (fn:=Tryz.f117) rfl H rfl ?_;exact ⟨_,rfl,by rw [Sk (k:=k) (by omega) hc2];exact decide_eq_true (by omega),(S.sel [] G G)⟩
  refine wp_skip ?_;refine k7 _ _ ?_;refine sO H<|sd (aH G G (by unfold i64ok;omega))<|sr 1 G<|sE ?_;intro a H
  exact k4 (g1-1) (k+1) a _ (by omega) (⟨by omega,by omega,Dv (by omega) hp.2.2 hc2⟩) (S.sel [] G G) (H.keep [8,0,1,7] rfl)
 refine wp_exit ?_;refine k2 _ _ ?_;refine sS H fun K12 k12=>sr 1 G<|sE ?_;intro a H
 refine k12 _ ?_;refine wp_ret ?_;refine ret1 (fn:=Tryz.f117) rfl H rfl ?_;exact ⟨_,rfl,by unfold hasI;rw [←List.take_of_length_le (l:=l) (i:=k) (by omega),hp.2.2];rfl,(S.sel [] G G)⟩
theorem gG (l:List Int) (A:Option Addr) (cp:Nat) (x:Int) (w:World) (hl:InS w noF 1 A l.length (icl l)) (hn:l.length≤9223372036854775807) :
    Calls Tryz.prog 105 [.slice A l.length cp,.int .i64 x].toArray w (Ret (fun u w'=>u = .bool (hasI l x)∧St w noF [] w')):=by
 refine enter Tryz.func105 rfl Tryz.ntmps105 rfl (fun a H=>?_)
 have S:=St.start w
 refine sS H fun K1 k1=>sr 1 G<|sE ?_;intro a H
 refine k1 _ ?_;refine aA fun K2 k2=>?_
 refine ls 2 H<|sr 2 G<|sE ?_;intro a H
 refine aB H G G Tryz.func117 G G (Bq l A cp x _ (hl.now S) hn) ?_;clear H a
 rintro _ _ a ⟨n,rfl,hn2,S2⟩ H;replace S:=S.call S2;clear S2;refine ls 2 H<|sr 2 G<|sE ?_;intro a H
 refine k2 _ _ ?_;refine wp_ret ?_;refine ret1 (fn:=Tryz.f105) rfl H rfl ?_;exact ⟨congrArg Value.bool hn2,(S.sel [] G G)⟩
end
section
theorem yW (pl:Int) (ps:List Psg) (PA:Option Addr) (pc:Nat) (xs:List Int) (XA:Option Addr) (xc:Nat) (out:Int) (w:World) :
    Calls Tryz.prog 106 [.agg [.int .i64 pl,.slice PA ps.length pc,.slice XA xs.length xc].toArray,.int .i64 out].toArray w (Ret (fun u w'=>∃ b2 b3,u = .func (.func 118) #[] #[.pointer (some ⟨b2,0,none⟩),.pointer (some ⟨b3,0,none⟩)]∧St w noF [boxM b2 25 [.int .i64 pl,.slice PA ps.length pc,.slice XA xs.length xc],boxM b3 3 [.int .i64 out]] w')):=by
 refine enter Tryz.func106 rfl Tryz.ntmps106 rfl (fun a H=>?_)
 have S:=St.start w
 refine aA fun K1 k1=>?_
 refine aO H rfl S G G ?_;intro b2 _ a hb2 hbw2 S H
 refine aO H rfl S G G ?_;intro b3 _ a hb3 hbw3 S H
 refine ls 1 H<|sr 1 G<|sE ?_;intro a H
 refine k1 _ _ ?_;refine sS H fun K2 k2=>sr 2 G<|sE ?_;intro a H
 refine k2 _ ?_;refine wp_ret ?_;refine ret1 (fn:=Tryz.f106) rfl H rfl ?_;exact ⟨_,_,rfl,(S.sel [1,0] G G)⟩
theorem Ho (pl:Int) (ps:List Psg) (PA:Option Addr) (pc:Nat) (xs:List Int) (XA:Option Addr) (xc:Nat) (out:Int) (b2 b3 l:Nat) (Jm:Nat→Mem→Prop) (m:Mem) (w:World) (F:Nat→Prop) (h0:Jm 0 m) (S:St w F [m,boxM b2 25 [.int .i64 pl,.slice PA ps.length pc,.slice XA xs.length xc],boxM b3 3 [.int .i64 out]] w) (hps:InS w F 7 PA ps.length (pcell ps)) (hpn:ps.length≤9223372036854775807) (hxs:InS w F 1 XA xs.length (icl xs)) (hxn:xs.length≤9223372036854775807) (hmv:∀ k,k<ps.length→(ps.getD k aJj).kind=3→0≤(ps.getD k aJj).mach∧(ps.getD k aJj).mach≤11) (hout:0≤out) (hr:∀ i m' x w1,i<(hds out xs ps).length→Jm i m'→St w F [m',x] w1→Round Tryz.prog l (.agg (Hd.cells ((hds out xs ps).getD i aJp)).toArray) Jm w F i x w1) :
    Calls Tryz.prog 118 [.func (.yield l) #[] #[],.pointer (some ⟨b2,0,none⟩),.pointer (some ⟨b3,0,none⟩)].toArray w (Ret (fun u w'=>∃ m',Jm (hds out xs ps).length m'∧St w F [m',boxM b2 25 [.int .i64 pl,.slice PA ps.length pc,.slice XA xs.length xc],boxM b3 3 [.int .i64 out]] w')):=by
 refine enter Tryz.func118 rfl Tryz.ntmps118 rfl (fun a H=>?_)
 skip
 refine sS H fun K1 k1=>sf dZ rfl<|sl S 1 fF G G G<|sL eT rfl<|sr 1 G<|sE ?_;intro a H
 refine k1 _ ?_;refine wp_block ?_;refine loop_st (X:=Nat×Mem) (R0:=_) [0,1,2,9,10] H rfl (fun ⟨k,m⟩=>[(11,.int .i64 (k:Int))]) (fun ⟨k,m⟩=>[m]) (fun g ⟨k,m⟩=>k≤ps.length∧g+k=ps.length∧Jm (hdsTo out xs ps k).length m) (ps.length) (0,m) ?_ (S.sel [0,1,2] G G) (H.keep [11,0,1,2,9,10] rfl) ?_
 · exact ⟨by omega,by omega,h0⟩
 clear H S a;intro g1 x1 a w1 hp S H K2 k2;obtain ⟨k,m⟩:=x1;dsimp only at hp S H;obtain ⟨hkl,hgk,hJ⟩:=hp;refine sS H fun K3 k3=>sr 1 G<|sE ?_;intro a H
 refine k3 _ ?_;refine wp_seq_k fun K4 k4=>?_
 refine condL H rfl (fun hc1=>?_) (fun hc1=>?_)
 ·skip
  refine wp_skip ?_;refine k4 _ _ ?_;refine wp_seq_k fun K5 k5=>?_
  refine wp_block ?_;refine aA fun K6 k6=>?_
  refine ls 3 H<|sr 1 G<|si eT dH G G (hps.adr (by omega)) (by omega)<|sd ((aV fV dH rfl S hps (by omega) (by omega)))<|sE ?_;intro a H
  refine aM H rfl S kW ?_;intro b5 _ a hb5 hbw5 S H
  refine ls 1 H<|sr 1 G<|sE ?_;intro a H
  refine aI H S (i:=0) G G G G dH G G ?_
  clear H a S;intro _ a S H;refine k6 _ _ ?_;replace H:=H.keep [0,1,2,4,5,9,10,11] rfl;refine sS H fun K7 k7=>sf iW rfl<|sl S 0 aC G G G<|sr 2 G<|sE ?_;intro a H
  refine k7 _ ?_;have SR:=(S.sel [0,1,2,3] G G);refine eZ (X:=Int×Bool) [0,1,2,4,5,9,10,11] H rfl (fun ⟨tk,bk⟩=>[(6,.int .i64 tk),(7,.bool bk)]) (fun ⟨tk,bk⟩=>[]) (fun ⟨tk,bk⟩=>¬ (ps.getD k aJj).kind=4∧tk=eR out (ps.getD k aJj)∧bk=kC out (ps.getD k aJj)) SR (fun K9 k9=>?_) ?_
  ·skip
   refine wp_block ?_;refine sS H fun K10 k10=>sf fC rfl<|sl S 0 aC G G G<|sr 2 G<|sE ?_;intro a H
   refine k10 _ ?_;refine condE H rfl (fun hc2=>?_) (fun hc2=>?_)
   ·skip
    refine wp_exit ?_;refine k5 _ _ ?_;replace H:=H.keep [0,1,2,9,10,11] rfl;refine sO H<|sd (aH G G (by unfold i64ok;omega))<|sr 1 G<|sE ?_;intro a H
    exact k2 (g1-1) (k+1,_) a _ (by omega) (by first|exact ⟨by omega,by omega,(oK (out:=out) (xs:=xs) hc2).symm ▸ hJ⟩|exact ⟨by omega,by omega,by rw [kJ hk4,hqB];exact hJ2⟩|exact ⟨by omega,by omega,by rw [kJ hk4,hqB];exact hJ⟩) (S.sel [1,2,3] G G) (H.keep [11,0,1,2,9,10] rfl)
   replace H:=H.keep [0,1,2,4,5,6,7,9,10,11] rfl
   refine sS H fun K12 k12=>sf fC rfl<|sl S 0 aC G G G<|sr 2 G<|sg 6 3 26 32 true G G (fun hg4=>by
       have hq4:=hg4;try simp only [oz] at hq4
       have hmk:=hmv k (by omega) hq4
       exact sy hg4<|sl S 3 aC G G G<|sy hg4<|sf fD rfl<|sy hg4<|sl S 0 aC G G G<|sy hg4<|sd (lZ G G (by omega) (by omega))<|sy hg4<|sd (kK G G)<|sy hg4<|sr 1 G<|sz 6 G G G)<|sa G G G<|sr 1 G<|sE ?_;intro a H
   refine k12 _ ?_;refine aU H rfl (fun hc3=>?_) (fun hc3=>?_)
   ·skip
    try simp only [oz] at hc3
    replace H:=H.keep [0,1,2,4,5,6,9,10,11] rfl;refine sO H<|sr 1 G<|sE ?_;intro a H
    exact k9 ((ps.getD k aJj).ticks,false) a _ (⟨hc2,by unfold eR bitI;rw [if_neg (by omega)],Rq hc3⟩) (S.sel [0,1,2,3] G G) (H.keep [6,7,0,1,2,4,5,9,10,11] rfl)
   try simp only [oz] at hc3
   refine sS H fun K14 k14=>sf fC rfl<|sl S 0 aC G G G<|sr 2 G<|sE ?_;intro a H
   refine k14 _ ?_;refine condE H rfl (fun hc4=>?_) (fun hc4=>?_)
   ·skip
    refine sO H<|sf kI rfl<|sl S 0 aC G G G<|sr 1 G<|sE ?_;intro a H
    exact k9 ((ps.getD k aJj).still,true) a _ (⟨hc2,by unfold eR bitI;rw [if_pos (by omega)],Do hc3⟩) (S.sel [0,1,2,3] G G) (H.keep [6,7,0,1,2,4,5,9,10,11] rfl)
   refine wp_skip ?_;exact k9 ((ps.getD k aJj).ticks,true) a _ (⟨hc2,by unfold eR;rw [if_neg (by omega)],Do hc3⟩) (S.sel [0,1,2,3] G G) (H.keep [6,7,0,1,2,4,5,9,10,11] rfl)
  clear SR H S a;intro xm a wm hp S H;obtain ⟨tk,bk⟩:=xm;obtain ⟨hk4,rfl,rfl⟩:=hp;have SR:=(S.sel [0,2,3] rfl rfl);refine eZ (X:=Nat×Mem) [0,1,2,4,5,6,7,9,10,11] H rfl (fun ⟨q,m⟩=>[]) (fun ⟨q,m⟩=>[m]) (fun ⟨q,m⟩=>Jm q m∧q=(hdsTo out xs ps k).length+qA xs (ps.getD k aJj)) SR (fun K17 k17=>?_) ?_
  ·skip
   cases hcA:hasI xs (ps.getD k aJj).a
   ·skip
    replace H:=H.keep [0,1,2,4,5,6,7,9,10,11] rfl;refine Qi fun K18 k18=>?_
    refine uS 17 ?_
    refine ls 4 H<|sf gW rfl<|sl S 2 dQ G G G<|sf fK rfl<|sl S 0 aC G G G<|sE ?_;intro a H
    refine aB H G G Tryz.func105 G G (gG xs XA xc _ _ (hxs.now S) hxn) ?_;clear H a
    rintro _ _ a ⟨rfl,S2⟩ H;replace S:=S.call S2;clear S2;first|rw [hcA] at H|rw [hcB] at H
    refine ls 12 H<|sr 2 G<|sy G<|sr 1 G<|sy G<|sr 1 G<|sy G<|sf fK rfl<|sy G<|sl S 0 aC G G G<|sy G<|sf fA rfl<|sy G<|sl S 0 aC G G G<|sy G<|sr 1 G<|sy G<|sf rP rfl<|sy G<|sl S 0 aC G G G<|sy G<|sd (aN Rl G G)<|sE ?_;intro a H
    refine wpList_nil ?_;refine Qj H rfl rfl rfl ?_;have SY:=(St.pack (Ms:=[_,_,_]) (R:=[_]) (S.sel [0,2,3,1] rfl rfl)).sel [1,0] rfl rfl;have hhd:=Mo (out:=out) (xs:=xs) (show k<ps.length by omega) hk4 hcA;refine Df H rfl rfl (v := .agg (Hd.cells ((hds out xs ps).getD ((hdsTo out xs ps k).length) aJp)).toArray) (by rw [hhd.1];rfl) (hr _ _ _ _ hhd.2 hJ SY) (fun _ _ h=>h.1) ?_;clear H a;rintro _ a ⟨_,m2,hJ2,S2⟩ H;replace S:=St.unpack (S2.sel [1,0] rfl rfl);clear S2 SY;refine uS 2 ?_;refine ls 2 H<|sy G<|sr 1 G<|sa rfl rfl rfl<|sE ?_;intro a H
    refine wpList_nil ?_;refine k18 _ _ ?_;refine aU H rfl (fun hc5=>?_) (fun hc5=>?_)
    ·skip
     try simp only [oz] at hc5
     exfalso;simp at hc5
    try simp only [oz] at hc5
    refine wp_skip ?_;exact k17 ((hdsTo out xs ps k).length+1,_) a _ (⟨hJ2,by unfold qA;rw [if_neg (by rw [hcA];simp)]⟩) (S.sel [3,0,1,2] G G) (H.keep [0,1,2,4,5,6,7,9,10,11] rfl)
   replace H:=H.keep [0,1,2,4,5,6,7,9,10,11] rfl;refine aA fun K19 k19=>?_
   refine ls 4 H<|sf gW rfl<|sl S 2 dQ G G G<|sf fK rfl<|sl S 0 aC G G G<|sE ?_;intro a H
   refine aB H G G Tryz.func105 G G (gG xs XA xc _ _ (hxs.now S) hxn) ?_;clear H a
   rintro _ _ a ⟨rfl,S2⟩ H;replace S:=S.call S2;clear S2;first|rw [hcA] at H|rw [hcB] at H
   refine ls 15 H<|sr 2 G<|sn G G G<|sn G G G<|sn G G G<|sn G G G<|sn G G G<|sn G G G<|sn G G G<|sn G G G<|sn G G G<|sn G G G<|sn G G G<|sn G G G<|sd ((bH G G G))<|sE ?_;intro a H
   refine k19 _ _ ?_;refine aU H rfl (fun hc6=>?_) (fun hc6=>?_)
   ·skip
    try simp only [oz] at hc6
    exfalso;simp at hc6
   try simp only [oz] at hc6
   refine wp_skip ?_;exact k17 ((hdsTo out xs ps k).length,_) a _ (⟨hJ,by unfold qA;rw [if_pos hcA];rfl⟩) (S.sel [1,0,2,3] G G) (H.keep [0,1,2,4,5,6,7,9,10,11] rfl)
  clear SR H S a;intro xm a wm hp S H;obtain ⟨q,m⟩:=xm;obtain ⟨hJ,rfl⟩:=hp;rcases bk3 (kC out (ps.getD k aJj)) (hasI xs (ps.getD k aJj).b) with hbk|⟨hbk,hcB⟩|⟨hbk,hcB⟩
  ·skip
   rw [hbk] at H;have hqB:qB out xs (ps.getD k aJj)=0:=by unfold qB;rw [hbk];rfl
   replace H:=H.keep [0,1,2,4,5,6,7,9,10,11] rfl;refine aA fun K20 k20=>?_
   refine ls 23 H<|sr 2 G<|sn G G G<|sn G G G<|sn G G G<|sn G G G<|sn G G G<|sn G G G<|sd ((bH G G G))<|sr 1 G<|sn G G G<|sn G G G<|sn G G G<|sn G G G<|sn G G G<|sn G G G<|sn G G G<|sn G G G<|sn G G G<|sn G G G<|sn G G G<|sn G G G<|sd ((bH G G G))<|sE ?_;intro a H
   refine k20 _ _ ?_;refine aU H rfl (fun hc7=>?_) (fun hc7=>?_)
   ·skip
    try simp only [oz] at hc7
    exfalso;simp at hc7
   try simp only [oz] at hc7
   refine wp_skip ?_;refine k5 _ _ ?_;replace H:=H.keep [0,1,2,9,10,11] rfl;refine sO H<|sd (aH G G (by unfold i64ok;omega))<|sr 1 G<|sE ?_;intro a H
   exact k2 (g1-1) (k+1,_) a _ (by omega) (by first|exact ⟨by omega,by omega,(oK (out:=out) (xs:=xs) hc2).symm ▸ hJ⟩|exact ⟨by omega,by omega,by rw [kJ hk4,hqB];exact hJ2⟩|exact ⟨by omega,by omega,by rw [kJ hk4,hqB];exact hJ⟩) (S.sel [0,2,3] G G) (H.keep [11,0,1,2,9,10] rfl)
  ·skip
   rw [hbk] at H;have hqB:qB out xs (ps.getD k aJj)=0:=by unfold qB;rw [hbk,hcB];rfl
   replace H:=H.keep [0,1,2,4,5,6,7,9,10,11] rfl;refine aA fun K22 k22=>?_
   refine ls 6 H<|sr 2 G<|sy G<|sf gW rfl<|sy G<|sl S 2 dQ G G G<|sy G<|sf fA rfl<|sy G<|sl S 1 aC G G G<|sE ?_;intro a H
   refine cD H G G ?_
   refine aB H G G Tryz.func105 G G (gG xs XA xc _ _ (hxs.now S) hxn) ?_;clear H a
   rintro _ _ a ⟨rfl,S2⟩ H;replace S:=S.call S2;clear S2;first|rw [hcA] at H|rw [hcB] at H
   refine ls 16 H<|sy G<|sr 1 G<|sa G G G<|sr 1 G<|sn G G G<|sn G G G<|sn G G G<|sn G G G<|sn G G G<|sn G G G<|sn G G G<|sn G G G<|sn G G G<|sn G G G<|sn G G G<|sn G G G<|sd ((bH G G G))<|sE ?_;intro a H
   refine k22 _ _ ?_;refine aU H rfl (fun hc8=>?_) (fun hc8=>?_)
   ·skip
    try simp only [oz] at hc8
    exfalso;simp at hc8
   try simp only [oz] at hc8
   refine wp_skip ?_;refine k5 _ _ ?_;replace H:=H.keep [0,1,2,9,10,11] rfl;refine sO H<|sd (aH G G (by unfold i64ok;omega))<|sr 1 G<|sE ?_;intro a H
   exact k2 (g1-1) (k+1,_) a _ (by omega) (by first|exact ⟨by omega,by omega,(oK (out:=out) (xs:=xs) hc2).symm ▸ hJ⟩|exact ⟨by omega,by omega,by rw [kJ hk4,hqB];exact hJ2⟩|exact ⟨by omega,by omega,by rw [kJ hk4,hqB];exact hJ⟩) (S.sel [0,2,3] G G) (H.keep [11,0,1,2,9,10] rfl)
  rw [hbk] at H;have hqB:qB out xs (ps.getD k aJj)=1:=by unfold qB;rw [hbk,hcB];rfl
  replace H:=H.keep [0,1,2,4,5,6,7,9,10,11] rfl;refine Qi fun K24 k24=>?_
  refine uS 20 ?_
  refine ls 6 H<|sr 2 G<|sy G<|sf gW rfl<|sy G<|sl S 2 dQ G G G<|sy G<|sf fA rfl<|sy G<|sl S 1 aC G G G<|sE ?_;intro a H
  refine cD H G G ?_
  refine aB H G G Tryz.func105 G G (gG xs XA xc _ _ (hxs.now S) hxn) ?_;clear H a
  rintro _ _ a ⟨rfl,S2⟩ H;replace S:=S.call S2;clear S2;first|rw [hcA] at H|rw [hcB] at H
  refine ls 13 H<|sy G<|sr 1 G<|sa G G G<|sr 1 G<|sy G<|sr 1 G<|sy G<|sr 1 G<|sy G<|sf fA rfl<|sy G<|sl S 1 aC G G G<|sy G<|sf fK rfl<|sy G<|sl S 1 aC G G G<|sy G<|sr 1 G<|sy G<|sf rP rfl<|sy G<|sl S 1 aC G G G<|sy G<|sd (aN Rl G G)<|sE ?_;intro a H
  refine wpList_nil ?_;refine Qj H rfl rfl rfl ?_;have SY:=(St.pack (Ms:=[_,_,_]) (R:=[_]) (S.sel [1,2,3,0] rfl rfl)).sel [1,0] rfl rfl;have hhd:=Hi (out:=out) (xs:=xs) (show k<ps.length by omega) hk4 (by rw [hbk,hcB];rfl);refine Df H rfl rfl (v := .agg (Hd.cells ((hds out xs ps).getD ((hdsTo out xs ps k).length+qA xs (ps.getD k aJj)) aJp)).toArray) (by rw [hhd.1];rfl) (hr _ _ _ _ hhd.2 hJ SY) (fun _ _ h=>h.1) ?_;clear H a;rintro _ a ⟨_,m2,hJ2,S2⟩ H;replace S:=St.unpack (S2.sel [1,0] rfl rfl);clear S2 SY;refine uS 2 ?_;refine ls 2 H<|sy G<|sr 1 G<|sa rfl rfl rfl<|sE ?_;intro a H
  refine wpList_nil ?_;refine k24 _ _ ?_;refine aU H rfl (fun hc9=>?_) (fun hc9=>?_)
  ·skip
   try simp only [oz] at hc9
   exfalso;simp at hc9
  try simp only [oz] at hc9
  refine wp_skip ?_;refine k5 _ _ ?_;replace H:=H.keep [0,1,2,9,10,11] rfl;refine sO H<|sd (aH G G (by unfold i64ok;omega))<|sr 1 G<|sE ?_;intro a H
  exact k2 (g1-1) (k+1,_) a _ (by omega) (by first|exact ⟨by omega,by omega,(oK (out:=out) (xs:=xs) hc2).symm ▸ hJ⟩|exact ⟨by omega,by omega,by rw [kJ hk4,hqB];exact hJ2⟩|exact ⟨by omega,by omega,by rw [kJ hk4,hqB];exact hJ⟩) (S.sel [3,1,2] G G) (H.keep [11,0,1,2,9,10] rfl)
 refine wp_exit ?_;refine ret0 (fn:=Tryz.f118) rfl H ?_;have hkn:k=ps.length:=by omega
 subst hkn;exact ⟨_,hJ,(S.sel [0,1,2] G G)⟩
end
section
theorem mJ (P T:Nat) (ps:List Psg) (PA:Option Addr) (pc:Nat) (xs:List Int) (XA:Option Addr) (xc:Nat) (b31:Nat) (EA:Option Addr) (p t:Nat) (w:World) (F:Nat→Prop) (S:St w F [boxM b31 168 [.int .i64 (P:Int),.slice PA ps.length pc,.slice XA xs.length xc,.int .i64 (T:Int),.slice EA ((P*(T+1))+2) ((P*(T+1))+2),.int .i64 (((P*(T+1)):Nat):Int),.int .i64 (((P*(T+1))+1:Nat):Int)]] w) (hp:p≤100000) (ht:t≤100000) (hP:P≤1000) :
  Calls Tryz.prog 104 [.pointer (some ⟨b31,0,none⟩),.int .i64 (p:Int),.int .i64 (t:Int)].toArray w (Ret fun u w'=>u = .int .i64 ((nd P t p:Nat):Int)∧St w F [boxM b31 168 [.int .i64 (P:Int),.slice PA ps.length pc,.slice XA xs.length xc,.int .i64 (T:Int),.slice EA ((P*(T+1))+2) ((P*(T+1))+2),.int .i64 (((P*(T+1)):Nat):Int),.int .i64 (((P*(T+1))+1:Nat):Int)]] w'):=by
 have hb:P*t≤1000*100000:=Nat.mul_le_mul hP ht
 have hb2:((P*t:Nat):Int)=(P:Int)*(t:Int):=Int.natCast_mul P t
 have h:=Sf ⟨(P*(T+1))+2,fun _=>0,fun _ _=>0,fun _ _=>0⟩ (fun _ _=>0) (fun _ _=>aJo) b31 (P:Int) (T:Int) _ _ EA (fun _=>none) (fun _=>0) (P*(T+1)) ((P*(T+1))+1) (p:Int) (t:Int) w F S (by omega) (by unfold i64ok;omega) (by unfold i64ok;omega)
 refine tJ h fun v w' h=>⟨h.1.trans ?_,h.2⟩
 unfold nd
 rw [Int.natCast_add,hb2]
def JG (P T:Nat) (J:List Jn) (n:Nat):Prop:=(∀ j ∈ J,JOk P T j)∧J.length≤n
theorem JG.snoc {P T n:Nat} {J:List Jn} {j:Jn} (h:JG P T J n) (hj:JOk P T j):JG P T (J++[j]) (n+1):=
 ⟨fun x hx=>by
  rcases List.mem_append.1 hx with hx|hx
  ·exact h.1 x hx
  ·rw [List.mem_singleton.1 hx];exact hj,by have:=h.2;simp;omega⟩
theorem JG.len {P T n:Nat} {J:List Jn} (h:JG P T J n) (hn:n≤1000000):∀ i,i<(P*(T+1))+2→(joins J i).length≤1000000:=fun i _=>Nat.le_trans (Mp J (fun j hj=>(h.1 j hj).1) i) (Nat.le_trans h.2 hn)
theorem JG.places {P T p:Nat} {pe xs:List Int} (hp:p≤P):JG P T (bF P T pe xs p) (p*(2*T+2)):=⟨qM hp,uF p⟩
theorem xC {P p t:Nat} {A:List Jn} {b:Jn}:A++(b::dL P p (t+1))=(A++(b::dL P p t))++[jWait P p t]:=by unfold dL;rw [jI];simp
theorem xD {P T p t:Nat} {A B:List Jn} {b:Jn}:A++(b::(B++fG P T p (t+1)))=(A++(b::(B++fG P T p t)))++[jExit P T p t]:=by unfold fG;rw [jI];simp
theorem xE {P t:Nat} {h:Hd} {A:List Jn}:A++fW P h (t+1)=(A++fW P h t)++[jHead P h t]:=by unfold fW;rw [jI];simp
theorem Sl {P T p:Nat} {A:List Jn} {b:Jn}:A++(b::dL P p T)=A++(b::(dL P p T++fG P T p 0)):=by rw [show fG P T p 0=[] from rfl,List.append_nil]
theorem Sm {P:Nat} {h:Hd} {A:List Jn}:A=A++fW P h 0:=(List.append_nil A).symm
theorem aEd {P T:Nat} {hs:List Hd} {A:List Jn}:A=A++eJ P T hs 0:=(List.append_nil A).symm
theorem Sn {P T p:Nat} {pe xs:List Int} (h:hasI xs p=false):bF P T pe xs p++(jBeg P T pe p::dL P p T)=bF P T pe xs (p+1):=by
 rw [bF,kD,if_neg (by rw [h];simp),List.append_nil]
theorem zN {P T p:Nat} {pe xs:List Int} (h:hasI xs p=true):bF P T pe xs p++(jBeg P T pe p::(dL P p T++fG P T p (T+1)))=bF P T pe xs (p+1):=by
 rw [bF,kD,if_pos h]
theorem zO (P T:Nat) (ps:List Psg) (PA:Option Addr) (pc:Nat) (xs:List Int) (XA:Option Addr) (xc:Nat) (b31:Nat) (EA:Option Addr) (p:Int) (t:Nat) (w:World) (F:Nat→Prop) (S:St w F [boxM b31 168 [.int .i64 (P:Int),.slice PA ps.length pc,.slice XA xs.length xc,.int .i64 (T:Int),.slice EA ((P*(T+1))+2) ((P*(T+1))+2),.int .i64 (((P*(T+1)):Nat):Int),.int .i64 (((P*(T+1))+1:Nat):Int)]] w) (hp:0≤p∧p≤100000) (ht:t≤100000) (hP:P≤1000) :
  Calls Tryz.prog 104 [.pointer (some ⟨b31,0,none⟩),.int .i64 p,.int .i64 (t:Int)].toArray w (Ret fun u w'=>u = .int .i64 ((nd P t p.toNat:Nat):Int)∧St w F [boxM b31 168 [.int .i64 (P:Int),.slice PA ps.length pc,.slice XA xs.length xc,.int .i64 (T:Int),.slice EA ((P*(T+1))+2) ((P*(T+1))+2),.int .i64 (((P*(T+1)):Nat):Int),.int .i64 (((P*(T+1))+1:Nat):Int)]] w'):=by
 have h:=mJ P T ps PA pc xs XA xc b31 EA p.toNat t w F S (by omega) ht hP
 rw [Int.toNat_of_nonneg hp.1] at h;exact h
theorem So:∀ k j,j<1→[Value.slice none 0 0].getD j undef=hdc (fun _=>none) (tlen (joins [])) (fun _=>0) k j:=by
 intro k j hj;have:j=0:=by omega
 subst this;rfl
theorem Sp (P T:Nat) (ps:List Psg) (PA:Option Addr) (pc:Nat) (xs:List Int) (XA:Option Addr) (xc:Nat) (out:Int) (pe:List Int) (BA:Option Addr) (bc:Nat) (w:World) (hps:InS w noF 7 PA ps.length (pcell ps)) (hpn:ps.length≤9223372036854775807) (hxs:InS w noF 1 XA xs.length (icl xs)) (hxn:xs.length≤9223372036854775807) (hmv:∀ k,k<ps.length→(ps.getD k aJj).kind=3→0≤(ps.getD k aJj).mach∧(ps.getD k aJj).mach≤11) (hout:0≤out) (hpe:InS w noF 1 BA pe.length (icl pe)) (hpl:pe.length=P) (hP:1≤P∧P≤10) (hT:T≤60) (hpn8:ps.length≤24) (hhd:∀ i,i<(hds out xs ps).length→HdOk P ((hds out xs ps).getD i aJp)) :
    Calls Tryz.prog 89 [.agg [.int .i64 (P:Int),.slice PA ps.length pc,.slice XA xs.length xc].toArray,.int .i64 out,.slice BA pe.length bc,.int .i64 (T:Int)].toArray w (Ret (fun u w'=>∃ b31 EA A' c',u = .pointer (some ⟨b31,0,none⟩)∧St w noF [boxM b31 168 [.int .i64 (P:Int),.slice PA ps.length pc,.slice XA xs.length xc,.int .i64 (T:Int),.slice EA ((P*(T+1))+2) ((P*(T+1))+2),.int .i64 (((P*(T+1)):Nat):Int),.int .i64 (((P*(T+1))+1:Nat):Int)],ownM 187 1 EA ((P*(T+1))+2) ((P*(T+1))+2) (hdc A' (tlen (joins (jAll P T pe xs (hds out xs ps)))) c'),ragM 189 7 (fun q=>q<(P*(T+1))+2) A' (tlen (joins (jAll P T pe xs (hds out xs ps)))) c' (tcell (joins (jAll P T pe xs (hds out xs ps))))] w')):=by
 have hC:P*(T+1)≤10*61:=Nat.mul_le_mul (by omega) (by omega)
 have hC2:((P*(T+1):Nat):Int)=(P:Int)*((T:Int)+1):=by rw [Int.natCast_mul];rfl
 refine aDr Tryz.func89 rfl Tryz.ntmps89 rfl (fun a H=>?_)
 have S:=St.start w
 refine aA fun K1 k1=>?_
 refine aO H rfl S G G ?_;intro b4 _ a hb4 hbw4 S H
 refine aO H rfl S G G ?_;intro b7 _ a hb7 hbw7 S H
 refine ls 1 H<|sr 1 G<|sE ?_;intro a H
 refine k1 _ _ ?_;refine sS H fun K2 k2=>sf dP rfl<|sl S 1 aC G G G<|sl S 0 aC G G G<|sd (aH G G (by unfold i64ok;omega))<|sd ((fR G G (by rw [←hC2];unfold i64ok;omega)).to (v' := .int .i64 ((P*(T+1):Nat):Int)) (by rw [hC2]))<|sr 1 G<|sE ?_;intro a H
 refine k2 _ ?_;have SR:=(S.sel [0,1] G G);refine eZ (X:=Nat×Nat×Option Addr) [1,2,4,7] H rfl (fun ⟨b10,b31,EA⟩=>[(10,.pointer (some ⟨b10,0,none⟩))]) (fun ⟨b10,b31,EA⟩=>[boxM b10 148 [.pointer (some ⟨b31,0,none⟩)],boxM b31 168 [.int .i64 (P:Int),.slice PA ps.length pc,.slice XA xs.length xc,.int .i64 (T:Int),.slice EA ((P*(T+1))+2) ((P*(T+1))+2),.int .i64 (((P*(T+1)):Nat):Int),.int .i64 (((P*(T+1))+1:Nat):Int)],ownM 187 1 EA ((P*(T+1))+2) ((P*(T+1))+2) (hdc (fun _=>none) (tlen (joins [])) (fun _=>0))]) (fun ⟨b10,b31,EA⟩=>True) SR (fun K3 k3=>?_) ?_
 ·skip
  replace H:=H.keep [1,2,4,7,9] rfl;replace S:=S.drew;refine kR 999 (.q 0 (.q 1 (.q 2 (.q 3 (.q 5 (.q 6 (.q 7 (.b2 4 (.q 8 (.b2 9 (.e 10 (.e 11 .nil)) 10 (.e 9 (.e 11 .nil)))) 10 (.e 4 (.q 8 (.e 9 (.e 11 .nil)))))))))))) (by kernel_rfl) (by kernel_rfl) (S.sel [0,1] G G) ?_;refine aG H G G (fun _ S=>(aD cE cV rfl S (i:=1) G G)) ?_;intro a H;refine aG H G G (fun _ S=>aE aC rfl (aIo S (i:=0) G G)) ?_;intro a H;refine aG H G G (fun _ S=>aJ rfl) ?_;intro a H;refine aG H G G (fun _ S=>(aH G G (by unfold i64ok;omega)).to (v' := .int .i64 ((P*(T+1)+2:Nat):Int)) rfl) ?_;intro a H;refine aG H G G (fun _ S=>aJ rfl) ?_;intro a H;refine aG H G G (fun _ S=>aJ rfl) ?_;intro a H;refine aG H G G (fun _ S=>(aH G G (by unfold i64ok;omega)).to (v' := .int .i64 ((P*(T+1)+1:Nat):Int)) rfl) ?_;intro a H;refine nR G G ?_ ?_
  ·skip
   refine eU (n:=P*(T+1)+2) H rfl S iV iT Rg Rh rfl (by decide) G G (by omega) (by omega) ?_;intro A1 _ a hA1 S H
   replace S:=S.recell (i:=0) rfl (cell':=hdc (fun _=>none) (tlen (joins [])) (fun _=>0)) (fun k j _ hj=>So k j hj);refine wpList_nil (And.intro (Or.inr (S.sel [1,2] G G)) ?_);refine aG H G G (fun _ S=>aN Rk G G) ?_;intro a H;refine nR G G ?_ ?_
   ·skip
    refine aO H rfl S G G ?_;intro b31 _ a hb31 hbw31 S H
    refine wpList_nil (And.intro (Or.inr (S.sel [2,3] G G)) ?_);refine bA rfl ?_;refine aM H rfl S Hb ?_;intro b10 _ a hb10 hbw10 S H;refine wpList_nil (And.intro (Or.inr (S.sel [3,4] G G)) ?_);refine bA rfl ?_;refine aI H S (i:=0) G G G G Ha G G ?_;clear H a S;intro _ a S H;refine wpList_nil (And.intro (Or.inr (S.sel [3,4] G G)) ?_);refine dI ?_;exact k3 (b10,b31,_) a _ (trivial) (S.sel [0,1,2,3,4] G G) (H.keep [10,1,2,4,7] rfl)
   ·skip
    refine aM H rfl S Hb ?_;intro b10 _ a hb10 hbw10 S H
    refine wpList_nil (And.intro (Or.inr (S.sel [2,3] G G)) ?_);refine bA rfl ?_;refine aO H rfl S G G ?_;intro b31 _ a hb31 hbw31 S H;refine wpList_nil (And.intro (Or.inr (S.sel [3,4] G G)) ?_);refine bA rfl ?_;refine aI H S (i:=1) G G G G Ha G G ?_;clear H a S;intro _ a S H;refine wpList_nil (And.intro (Or.inr (S.sel [3,4] G G)) ?_);refine dI ?_;exact k3 (b10,b31,_) a _ (trivial) (S.sel [1,0,2,3,4] G G) (H.keep [10,1,2,4,7] rfl)
  ·skip
   refine aM H rfl S Hb ?_;intro b10 _ a hb10 hbw10 S H
   refine wpList_nil (And.intro (Or.inr (S.sel [1,2] G G)) ?_);refine bA rfl ?_;refine eU (n:=P*(T+1)+2) H rfl S iV iT Rg Rh rfl (by decide) G G (by omega) (by omega) ?_;intro A2 _ a hA2 S H;replace S:=S.recell (i:=0) rfl (cell':=hdc (fun _=>none) (tlen (joins [])) (fun _=>0)) (fun k j _ hj=>So k j hj);refine wpList_nil (And.intro (Or.inr (S.sel [2,3] G G)) ?_);refine aG H G G (fun _ S=>aN Rk G G) ?_;intro a H;refine bA rfl ?_;refine aO H rfl S G G ?_;intro b31 _ a hb31 hbw31 S H;refine wpList_nil (And.intro (Or.inr (S.sel [3,4] G G)) ?_);refine bA rfl ?_;refine aI H S (i:=2) G G G G Ha G G ?_;clear H a S;intro _ a S H;refine wpList_nil (And.intro (Or.inr (S.sel [3,4] G G)) ?_);refine dI ?_;exact k3 (b10,b31,_) a _ (trivial) (S.sel [2,0,1,3,4] G G) (H.keep [10,1,2,4,7] rfl)
 clear SR H S a;intro xm a wm hp S H;obtain ⟨b10,b31,EA⟩:=xm;replace H:=H.keep [1,2,4,7,10] rfl;refine aA fun K5 k5=>?_
 refine ls 1 H<|sd (aN Hf G G)<|sE ?_;intro a H
 refine aM H rfl S Rc ?_;intro b11 _ a hb11 hbw11 S H
 refine aI H S (i:=0) G G G G wN G G ?_
 clear H a S;intro _ a S H;refine k5 _ _ ?_;refine wp_seq_k fun K6 k6=>?_
 refine sS H fun K7 k7=>sf dP rfl<|sl S 5 aC G G G<|sr 1 G<|sE ?_;intro a H
 refine k7 _ ?_;refine wp_block ?_;replace S:=aJd S 189 7 (fun q=>q<P*(T+1)+2) (tcell (joins []));refine loop_st (X:=Nat×(Nat→Option Addr)×(Nat→Nat)) (R0:=_) [1,2,4,7,10,11,34] H rfl (fun ⟨p,A',c'⟩=>[(35,.int .i64 (p:Int))]) (fun ⟨p,A',c'⟩=>[ownM 187 1 EA ((P*(T+1))+2) ((P*(T+1))+2) (hdc A' (tlen (joins (bF P T pe xs p))) c'),ragM 189 7 (fun q=>q<(P*(T+1))+2) A' (tlen (joins (bF P T pe xs p))) c' (tcell (joins (bF P T pe xs p)))]) (fun g ⟨p,A',c'⟩=>p≤P∧g+p=P) (P) (0,_,_) ?_ (S.sel [4,0,1,2,3,5,6] G G) (H.keep [35,1,2,4,7,10,11,34] rfl) ?_
 · exact ⟨by omega,by omega⟩
 clear H S a;intro g1 x1 a w1 hp S H K8 k8;obtain ⟨p,A',c'⟩:=x1;dsimp only at hp S H;refine sS H fun K9 k9=>sr 1 G<|sE ?_;intro a H
 refine k9 _ ?_;refine wp_seq_k fun K10 k10=>?_
 refine condL H rfl (fun hc1=>?_) (fun hc1=>?_)
 ·skip
  refine wp_skip ?_;refine k10 _ _ ?_;refine wp_seq_k fun K11 k11=>?_
  refine wp_block ?_;refine sS H fun K12 k12=>sr 2 G<|sE ?_;intro a H
  refine k12 _ ?_;have hpP:p<P:=by omega
  have hb1:p*(2*T+2)≤10*122:=Nat.mul_le_mul (by omega) (by omega)
  have hG:=JG.places (T:=T) (pe:=pe) (xs:=xs) (Nat.le_of_lt hpP)
  have hlen9:=hG.len (by omega)
  replace H:=H.keep [1,2,4,7,10,11,12,34,35] rfl;replace S:=S.drew;refine cQ [(0,true),(1,true),(2,true),(3,true),(4,true),(5,true),(6,true),(8,true),(9,true),(10,true),(11,true),(12,true),(7,false),(13,false)] (by kernel_rfl) (by kernel_rfl) (S.sel [2,3,4,5,6] G G) fun K13 k13=>?_
  refine qF H<|qd G (fun _ S=>aE gV rfl (aIo S (i:=1) G G))<|qd G (fun _ S=>aE gV rfl (aIo S (i:=1) G G))<|qr 1 G<|qd G (fun _ S=>(aF rR rfl))<|qd G (fun _ S=>aE aC rfl (aIo S (i:=2) G G))<|qd G (fun _ S=>aE gV rfl (aIo S (i:=1) G G))<|qr 3 G<|qd G (fun _ S=>aW aQ aY G G (hpe.adr (by omega)) (by omega))<|qd G (fun _ S=>aE aC rfl (hpe.rd S (by omega) (by omega)))<|qd G (fun _ S=>(aD uU wN rfl S (i:=0) G G))<|qK ?_;intro a H
  refine bD rfl ?_
  have S1:=(S.sel [4] G G)
  refine aB H G G Tryz.func104 G G (mJ P T ps PA pc xs XA xc b31 EA p 0 _ _ S1.startR (by omega) (by omega) (by omega)) ?_;clear H a
  rintro _ _ a ⟨rfl,S2⟩ H;replace S:=(S.sel [4,0,1,2,3,5,6] rfl rfl).callR (M:=[_]) S2;clear S1 S2;refine wpList_nil (And.intro (S.sel [3,4,0,5,6] rfl rfl) ?_);refine bD rfl ?_;have S1:=(S.sel [0,1,2] rfl rfl);refine aB H rfl rfl Tryz.func103 rfl rfl (rV (joins (bF P T pe xs p)) ((P*(T+1))+2) b31 (P:Int) (T:Int) _ _ EA A' c' (P*(T+1)) ((P*(T+1))+1) (P*(T+1)) (nd P 0 p) (pe.getD p 0) (-1) 0 0 0 _ _ S1.startR ((rT (T:=T) (pe:=pe) hpP)).2.1 ((rT (T:=T) (pe:=pe) hpP)).2.2 ((rT (T:=T) (pe:=pe) hpP)).1 hlen9) ?_;clear H a;rintro _ _ a ⟨rfl,A2,c2,S2⟩ H;replace S:=(S.sel [0,1,2,3,4,5,6] rfl rfl).callR (M:=[_,_,_]) S2;clear S1 S2;have e9:joinT (joins (bF P T pe xs p)) (P*(T+1)) (nd P 0 p) (pe.getD p 0) ⟨-1,0,0,0⟩=joins ((bF P T pe xs p)++[jBeg P T pe p]):=(fL (bF P T pe xs p) (jBeg P T pe p)).symm;rw [e9] at S;refine wpList_nil (And.intro (S.sel [3,4,0,5,6] rfl rfl) ?_);refine bY ?_;refine k13 _ _ ?_;refine wp_seq_k fun K14 k14=>?_
  replace H:=H.keep [1,2,4,7,10,11,12,34,35] rfl;refine sS H fun K15 k15=>sl S 5 aC G G G<|sr 1 G<|sE ?_;intro a H
  refine k15 _ ?_;refine wp_block ?_;refine loop_st (X:=Nat×(Nat→Option Addr)×(Nat→Nat)) (R0:=_) [1,2,4,7,10,11,12,34,35,52] H rfl (fun ⟨t,A',c'⟩=>[(53,.int .i64 (t:Int))]) (fun ⟨t,A',c'⟩=>[ownM 187 1 EA ((P*(T+1))+2) ((P*(T+1))+2) (hdc A' (tlen (joins ((bF P T pe xs p)++(jBeg P T pe p::dL P p t)))) c'),ragM 189 7 (fun q=>q<(P*(T+1))+2) A' (tlen (joins ((bF P T pe xs p)++(jBeg P T pe p::dL P p t)))) c' (tcell (joins ((bF P T pe xs p)++(jBeg P T pe p::dL P p t))))]) (fun g ⟨t,A',c'⟩=>t≤T∧g+t=T∧JG P T ((bF P T pe xs p)++(jBeg P T pe p::dL P p t)) (p*(2*T+2)+1+t)) (T) (0,_,_) ?_ (S.sel [1,2,0,3,4,5,6] G G) (H.keep [53,1,2,4,7,10,11,12,34,35,52] rfl) ?_
  · exact ⟨by omega,by omega,hG.snoc (rT hpP)⟩
  clear H S a;intro g2 x2 a w2 hp S H K16 k16;obtain ⟨t,A',c'⟩:=x2;dsimp only at hp S H;obtain ⟨htl,hgt,hG2⟩:=hp;refine sS H fun K17 k17=>sr 1 G<|sE ?_;intro a H
  refine k17 _ ?_;refine wp_seq_k fun K18 k18=>?_
  refine condL H rfl (fun hc2=>?_) (fun hc2=>?_)
  ·skip
   refine wp_skip ?_;refine k18 _ _ ?_;refine wp_seq_k fun K19 k19=>?_
   refine wp_block ?_;refine sS H fun K20 k20=>sr 2 G<|sE ?_;intro a H
   refine k20 _ ?_;have htT:t<T:=by omega
   have hlen9:=hG2.len (by omega)
   replace H:=H.keep [1,2,4,7,10,11,12,13,34,35,52,53] rfl;replace S:=S.drew;refine one_wq [(0,true),(1,true),(2,true),(3,true),(5,true),(6,true),(7,true),(8,true),(10,true),(4,false),(9,false),(11,false)] (by kernel_rfl) (by kernel_rfl) (S.sel [2,3,4,5,6] G G) ?_;refine qF H<|qd G (fun _ S=>aE gV rfl (aIo S (i:=2) G G))<|qd G (fun _ S=>aE gV rfl (aIo S (i:=2) G G))<|qr 2 G<|qd G (fun _ S=>aE gV rfl (aIo S (i:=2) G G))<|qr 2 G<|qd G (fun _ S=>aH G G (by unfold i64ok;omega))<|qd G (fun _ S=>(aD uU wN rfl S (i:=1) G G))<|qK ?_;intro a H
   refine bD rfl ?_
   have S1:=(S.sel [2] G G)
   refine aB H G G Tryz.func104 G G (mJ P T ps PA pc xs XA xc b31 EA p t _ _ S1.startR (by omega) (by omega) (by omega)) ?_;clear H a
   rintro _ _ a ⟨rfl,S2⟩ H;replace S:=(S.sel [2,0,1,3,4,5,6] rfl rfl).callR (M:=[_]) S2;clear S1 S2;refine wpList_nil (And.intro (S.sel [0,3,4,5,6] rfl rfl) ?_);refine bD rfl ?_;have S1:=(S.sel [0] rfl rfl);refine aB H rfl rfl Tryz.func104 rfl rfl (mJ P T ps PA pc xs XA xc b31 EA p (t+1) _ _ S1.startR (by omega) (by omega) (by omega)) ?_;clear H a;rintro _ _ a ⟨rfl,S2⟩ H;replace S:=(S.sel [0,1,2,3,4,5,6] rfl rfl).callR (M:=[_]) S2;clear S1 S2;refine wpList_nil (And.intro (S.sel [0,3,4,5,6] rfl rfl) ?_);refine bD rfl ?_;have S1:=(S.sel [0,1,2] rfl rfl);refine aB H rfl rfl Tryz.func103 rfl rfl (rV (joins ((bF P T pe xs p)++(jBeg P T pe p::dL P p t))) ((P*(T+1))+2) b31 (P:Int) (T:Int) _ _ EA A' c' (P*(T+1)) ((P*(T+1))+1) (nd P t p) (nd P (t+1) p) 1099511627776 (-1) 0 0 0 _ _ S1.startR ((oL hpP htT)).2.1 ((oL hpP htT)).2.2 ((oL hpP htT)).1 hlen9) ?_;clear H a;rintro _ _ a ⟨rfl,A2,c2,S2⟩ H;replace S:=(S.sel [0,1,2,3,4,5,6] rfl rfl).callR (M:=[_,_,_]) S2;clear S1 S2;have e9:joinT (joins ((bF P T pe xs p)++(jBeg P T pe p::dL P p t))) (nd P t p) (nd P (t+1) p) 1099511627776 ⟨-1,0,0,0⟩=joins (((bF P T pe xs p)++(jBeg P T pe p::dL P p t))++[jWait P p t]):=(fL ((bF P T pe xs p)++(jBeg P T pe p::dL P p t)) (jWait P p t)).symm;rw [e9] at S;refine wpList_nil (And.intro (S.sel [0,3,4,5,6] rfl rfl) ?_);refine bY ?_;refine k19 _ _ ?_;replace H:=H.keep [1,2,4,7,10,11,12,34,35,52,53] rfl;refine sO H<|sd (aH rfl rfl (by unfold i64ok;omega))<|sr 1 G<|sE ?_;intro a H
   rw [←xC] at S;exact k16 (g2-1) (t+1,_,_) a _ (by omega) (⟨by omega,by omega,by rw [xC];exact hG2.snoc (oL hpP htT)⟩) (S.sel [1,2,0,3,4,5,6] G G) (H.keep [53,1,2,4,7,10,11,12,34,35,52] rfl)
  refine wp_exit ?_;refine k14 _ _ ?_;refine aA fun K23 k23=>?_
  refine ls 3 H<|sf gW rfl<|sl S 6 dQ G G G<|sr 1 G<|sE ?_;intro a H
  refine aB H G G Tryz.func105 G G (gG xs XA xc _ _ (hxs.now S) hxn) ?_;clear H a
  rintro _ _ a ⟨rfl,S2⟩ H;replace S:=S.call S2;clear S2;refine k23 _ _ ?_;refine aU H rfl (fun hc3=>?_) (fun hc3=>?_)
  ·skip
   try simp only [oz] at hc3
   have hTt:t=T:=by omega
   rw [hTt] at S hG2;rw [Sl] at S;refine sS H fun K24 k24=>sl S 5 aC G G G<|sd (aH G G (by unfold i64ok;omega))<|sr 1 G<|sE ?_;intro a H
   refine k24 _ ?_;refine wp_block ?_;refine loop_st (X:=Nat×(Nat→Option Addr)×(Nat→Nat)) (R0:=_) [1,2,4,7,10,11,12,34,35,74] H rfl (fun ⟨t,A',c'⟩=>[(75,.int .i64 (t:Int))]) (fun ⟨t,A',c'⟩=>[ownM 187 1 EA ((P*(T+1))+2) ((P*(T+1))+2) (hdc A' (tlen (joins ((bF P T pe xs p)++(jBeg P T pe p::(dL P p T++fG P T p t))))) c'),ragM 189 7 (fun q=>q<(P*(T+1))+2) A' (tlen (joins ((bF P T pe xs p)++(jBeg P T pe p::(dL P p T++fG P T p t))))) c' (tcell (joins ((bF P T pe xs p)++(jBeg P T pe p::(dL P p T++fG P T p t)))))]) (fun g ⟨t,A',c'⟩=>t≤T+1∧g+t=T+1∧JG P T ((bF P T pe xs p)++(jBeg P T pe p::(dL P p T++fG P T p t))) (p*(2*T+2)+1+T+t)) (T+1) (0,_,_) ?_ (S.sel [0,1,2,3,4,5,6] G G) (H.keep [75,1,2,4,7,10,11,12,34,35,74] rfl) ?_
   · exact ⟨by omega,by omega,by rw [←Sl];exact hG2⟩
   clear H S a;intro g3 x3 a w3 hp S H K25 k25;obtain ⟨t,A',c'⟩:=x3;dsimp only at hp S H;obtain ⟨htl,hgt,hG2⟩:=hp;refine sS H fun K26 k26=>sr 1 G<|sE ?_;intro a H
   refine k26 _ ?_;refine wp_seq_k fun K27 k27=>?_
   refine condL H rfl (fun hc4=>?_) (fun hc4=>?_)
   ·skip
    refine wp_skip ?_;refine k27 _ _ ?_;refine wp_seq_k fun K28 k28=>?_
    refine wp_block ?_;refine sS H fun K29 k29=>sr 2 G<|sE ?_;intro a H
    refine k29 _ ?_;have htT:t≤T:=by omega
    have hlen9:=hG2.len (by omega)
    replace H:=H.keep [1,2,4,7,10,11,12,14,34,35,74,75] rfl;replace S:=S.drew;refine one_wq [(0,true),(1,true),(2,true),(3,true),(5,true),(6,true),(7,true),(8,true),(9,true),(4,false),(10,false)] (by kernel_rfl) (by kernel_rfl) (S.sel [2,3,4,5,6] G G) ?_;refine qF H<|qd G (fun _ S=>aE gV rfl (aIo S (i:=2) G G))<|qd G (fun _ S=>aE gV rfl (aIo S (i:=2) G G))<|qr 2 G<|qd G (fun _ S=>aE gV rfl (aIo S (i:=2) G G))<|qr 1 G<|qd G (fun _ S=>(aF wR rfl))<|qd G (fun _ S=>aE aC rfl (aIo S (i:=0) G G))<|qd G (fun _ S=>(aD uU wN rfl S (i:=1) G G))<|qK ?_;intro a H
    refine bD rfl ?_
    have S1:=(S.sel [2] G G)
    refine aB H G G Tryz.func104 G G (mJ P T ps PA pc xs XA xc b31 EA p t _ _ S1.startR (by omega) (by omega) (by omega)) ?_;clear H a
    rintro _ _ a ⟨rfl,S2⟩ H;replace S:=(S.sel [2,0,1,3,4,5,6] rfl rfl).callR (M:=[_]) S2;clear S1 S2;refine wpList_nil (And.intro (S.sel [0,3,4,5,6] rfl rfl) ?_);refine bD rfl ?_;have S1:=(S.sel [0,1,2] rfl rfl);refine aB H rfl rfl Tryz.func103 rfl rfl (rV (joins ((bF P T pe xs p)++(jBeg P T pe p::(dL P p T++fG P T p t)))) ((P*(T+1))+2) b31 (P:Int) (T:Int) _ _ EA A' c' (P*(T+1)) ((P*(T+1))+1) (nd P t p) ((P*(T+1))+1) 1099511627776 (-1) 0 0 0 _ _ S1.startR ((oM hpP htT)).2.1 ((oM hpP htT)).2.2 ((oM hpP htT)).1 hlen9) ?_;clear H a;rintro _ _ a ⟨rfl,A2,c2,S2⟩ H;replace S:=(S.sel [0,1,2,3,4,5,6] rfl rfl).callR (M:=[_,_,_]) S2;clear S1 S2;have e9:joinT (joins ((bF P T pe xs p)++(jBeg P T pe p::(dL P p T++fG P T p t)))) (nd P t p) ((P*(T+1))+1) 1099511627776 ⟨-1,0,0,0⟩=joins (((bF P T pe xs p)++(jBeg P T pe p::(dL P p T++fG P T p t)))++[jExit P T p t]):=(fL ((bF P T pe xs p)++(jBeg P T pe p::(dL P p T++fG P T p t))) (jExit P T p t)).symm;rw [e9] at S;refine wpList_nil (And.intro (S.sel [0,3,4,5,6] rfl rfl) ?_);refine bY ?_;refine k28 _ _ ?_;replace H:=H.keep [1,2,4,7,10,11,12,34,35,74,75] rfl;refine sO H<|sd (aH rfl rfl (by unfold i64ok;omega))<|sr 1 G<|sE ?_;intro a H
    rw [←xD] at S;exact k25 (g3-1) (t+1,_,_) a _ (by omega) (⟨by omega,by omega,by rw [xD];exact hG2.snoc (oM hpP htT)⟩) (S.sel [1,2,0,3,4,5,6] G G) (H.keep [75,1,2,4,7,10,11,12,34,35,74] rfl)
   refine wp_exit ?_;refine k11 _ _ ?_;refine sO H<|sd (aH G G (by unfold i64ok;omega))<|sr 1 G<|sE ?_;intro a H
   first|(rw [show t=T+1 by omega,zN hc3] at S)|skip
   exact k8 (g1-1) (p+1,_,_) a _ (by omega) (⟨by omega,by omega⟩) (S.sel [0,1,3,4,2,5,6] G G) (H.keep [35,1,2,4,7,10,11,34] rfl)
  try simp only [oz] at hc3
  have hTt:t=T:=by omega
  rw [hTt] at S;rw [Sn hc3] at S;refine wp_skip ?_;refine k11 _ _ ?_;refine sO H<|sd (aH G G (by unfold i64ok;omega))<|sr 1 G<|sE ?_;intro a H
  first|(rw [show t=T+1 by omega,zN hc3] at S)|skip
  exact k8 (g1-1) (p+1,_,_) a _ (by omega) (⟨by omega,by omega⟩) (S.sel [0,1,3,4,2,5,6] G G) (H.keep [35,1,2,4,7,10,11,34] rfl)
 refine wp_exit ?_;refine k6 _ _ ?_;refine wp_seq_k fun K34 k34=>?_
 refine aA fun K35 k35=>?_
 refine ls 2 H<|sd ((aD cE cV rfl S (i:=6) G G))<|sr 1 G<|sE ?_;intro a H
 refine aB H G G Tryz.func106 G G (yW (P:Int) ps PA pc xs XA xc out _) ?_;clear H a
 rintro _ _ a ⟨b2,b3,rfl,S2⟩ H;replace S:=S.call S2;clear S2;refine k35 _ _ ?_;refine wp_block ?_;replace H:=H.keep [7,10,93] rfl;have hpP:p=P:=by omega
 rw [hpP] at S;rw [aEd (P:=P) (T:=T) (hs:=hds out xs ps) (A:=bF P T pe xs P)] at S;have SB:=St.pack (Ms:=[_,_,_,_,_]) (R:=[_,_,_,_]) (S.sel [7,5,6,2,3,0,1,4,8] G G);refine Qh (cnt:=(hds out xs ps).length) H SB rfl Tryz.func118 G G G G G Re (fun i=>Hd.cells ((hds out xs ps).getD i aJp)) (fun _=>rfl) aDu (fun _=>rfl) (fun i M=>∃ A' c',M=bun [boxM b7 3 [.int .i64 (T:Int)],boxM b10 148 [.pointer (some ⟨b31,0,none⟩)],boxM b31 168 [.int .i64 (P:Int),.slice PA ps.length pc,.slice XA xs.length xc,.int .i64 (T:Int),.slice EA ((P*(T+1))+2) ((P*(T+1))+2),.int .i64 (((P*(T+1)):Nat):Int),.int .i64 (((P*(T+1))+1:Nat):Int)],ownM 187 1 EA ((P*(T+1))+2) ((P*(T+1))+2) (hdc A' (tlen (joins (bF P T pe xs P++eJ P T (hds out xs ps) i))) c'),ragM 189 7 (fun q=>q<(P*(T+1))+2) A' (tlen (joins (bF P T pe xs P++eJ P T (hds out xs ps) i))) c' (tcell (joins (bF P T pe xs P++eJ P T (hds out xs ps) i)))]) (⟨_,_,rfl⟩) (fun _ _=>True) ?_ ?_ ?_
 ·intro ly Jm M w9 hJ9 S hr9
  have S1:=(S.sel [0,1,2] G G)
  refine tJ (Ho (P:Int) ps PA pc xs XA xc out b2 b3 ly Jm M w9 _ hJ9 S1.startR (hps.nowR S1) hpn (hxs.nowR S1) hxn hmv hout (fun i m' x w1 hi hJ SX=>hr9 i m' x _ _ w1 hi hJ trivial SX)) ?_
  rintro _ _ ⟨m',hJ',S2⟩;exact ⟨m',hJ',((S.sel [0,1,2,3,4] rfl rfl).callR (M:=[_,_,_]) S2).sel [0,1,2,3,4] rfl rfl⟩
 ·intro ly i m9 x9 w00 F00 w9 a b15 hi9 hJ9 hIn9 S H
  obtain ⟨A',c',rfl⟩:=hJ9;have hH9:=hhd i hi9;unfold HdOk at hH9;have hcn:=aEb (out:=out) (xs:=xs) (ps:=ps) ps.length;have hb2:i*(T+1)≤48*61:=Nat.mul_le_mul (by unfold hds at hi9;omega) (by omega);have hb3:P*(2*T+2)≤10*122:=Nat.mul_le_mul (by omega) (by omega);replace S:=St.unpack (S.sel [1,0,2] rfl rfl);refine Rd.wp_block ?_;refine Rd.sS H fun K36 k36=>sr 1 G<|sE ?_;intro a H
  refine k36 _ ?_;refine Rd.wp_block ?_;rw [Sm (P:=P) (h:=((hds out xs ps).getD i aJp)) (A:=(bF P T pe xs P++eJ P T (hds out xs ps) i))] at S;refine Rd.loop_st (X:=Nat×(Nat→Option Addr)×(Nat→Nat)) (R0:=_) [7,10,15] H rfl (fun ⟨t,A',c'⟩=>[(16,.int .i64 (t:Int))]) (fun ⟨t,A',c'⟩=>[ownM 187 1 EA ((P*(T+1))+2) ((P*(T+1))+2) (hdc A' (tlen (joins ((bF P T pe xs P++eJ P T (hds out xs ps) i)++fW P ((hds out xs ps).getD i aJp) t))) c'),ragM 189 7 (fun q=>q<(P*(T+1))+2) A' (tlen (joins ((bF P T pe xs P++eJ P T (hds out xs ps) i)++fW P ((hds out xs ps).getD i aJp) t))) c' (tcell (joins ((bF P T pe xs P++eJ P T (hds out xs ps) i)++fW P ((hds out xs ps).getD i aJp) t)))]) (fun g ⟨t,A',c'⟩=>t≤T+1-((hds out xs ps).getD i aJp).ticks.toNat∧g+t=T+1-((hds out xs ps).getD i aJp).ticks.toNat∧JG P T ((bF P T pe xs P++eJ P T (hds out xs ps) i)++fW P ((hds out xs ps).getD i aJp) t) (P*(2*T+2)+i*(T+1)+t)) (T+1-((hds out xs ps).getD i aJp).ticks.toNat) (0,_,_) ?_ (S.sel [3,4,0,1,2,5,6] G G) (H.keep [16,7,10,15] rfl) ?_
  · exact ⟨by omega,by omega,by rw [←Sm];exact ⟨fun j hj=>(List.mem_append.1 hj).elim (fun h=>qM (Nat.le_refl _) j h) (fun h=>zJ hhd (Nat.le_of_lt hi9) j h),by rw [List.length_append,Nat.add_zero];exact Nat.add_le_add (uF P) (Hj i)⟩⟩
  clear H S a;intro g4 x4 a w4 hp S H K37 k37;obtain ⟨t,A',c'⟩:=x4;dsimp only at hp S H;obtain ⟨htl,hgt,hG2⟩:=hp;refine Rd.wp_seq_k fun K38 k38=>?_
  refine Rd.sS H fun K39 k39=>sr 1 G<|sf Dj rfl<|sl S 5 aC G G G<|sd (aH G G (by unfold i64ok;omega))<|sl S 2 aC G G G<|sr 1 G<|sE ?_;intro a H
  refine k39 _ ?_;refine Rd.condG H rfl (fun hc5=>?_) (fun hc5=>?_)
  ·skip
   refine Rd.wp_skip ?_
   refine k38 _ _ ?_;refine Rd.wp_seq_k fun K40 k40=>?_
   refine Rd.wp_block ?_
   have htT:t+((hds out xs ps).getD i aJp).ticks.toNat≤T:=by omega
   have hlen9:=hG2.len (by omega)
   replace H:=H.keep [7,10,15,16] rfl;replace S:=S.drew;refine Rd.one_wq [(0,true),(1,true),(2,true),(3,true),(4,true),(6,true),(7,true),(8,true),(9,true),(10,true),(11,true),(12,true),(14,true),(15,true),(16,true),(17,true),(18,true),(19,true),(20,true),(21,true),(5,false),(13,false),(22,false)] (by kernel_rfl) (by kernel_rfl) (S.sel [2,3,4,5,6] G G) ?_;refine qF H<|qd G (fun _ S=>aE gV rfl (aIo S (i:=1) G G))<|qd G (fun _ S=>aE gV rfl (aIo S (i:=1) G G))<|qd G (fun _ S=>(aF Di rfl))<|qd G (fun _ S=>aE aC rfl (aIo S (i:=3) G G))<|qr 1 G<|qd G (fun _ S=>aE gV rfl (aIo S (i:=1) G G))<|qd G (fun _ S=>(aF Qu rfl))<|qd G (fun _ S=>aE aC rfl (aIo S (i:=3) G G))<|qr 1 G<|qd G (fun _ S=>(aF Dj rfl))<|qd G (fun _ S=>aE aC rfl (aIo S (i:=3) G G))<|qd G (fun _ S=>(aH G G (by unfold i64ok;omega)).to (v' := .int .i64 ((t+((hds out xs ps).getD i aJp).ticks.toNat:Nat):Int)) (by congr 1;omega))<|qd G (fun _ S=>(aF Qv rfl))<|qd G (fun _ S=>aE aC rfl (aIo S (i:=3) G G))<|qd G (fun _ S=>(aF Qt rfl))<|qd G (fun _ S=>aE aC rfl (aIo S (i:=3) G G))<|qd G (fun _ S=>(aF Di rfl))<|qd G (fun _ S=>aE aC rfl (aIo S (i:=3) G G))<|qr 1 G<|qd G (fun _ S=>aN Hf G G)<|qK ?_;intro a H
   refine bD rfl ?_
   have S1:=(S.sel [4] G G)
   refine aB H G G Tryz.func104 G G (zO P T ps PA pc xs XA xc b31 EA ((hds out xs ps).getD i aJp).fr t _ _ S1.startR (by omega) (by omega) (by omega)) ?_;clear H a
   rintro _ _ a ⟨rfl,S2⟩ H;replace S:=(S.sel [4,0,1,2,3,5,6] rfl rfl).callR (M:=[_]) S2;clear S1 S2;refine wpList_nil (And.intro (S.sel [3,4,0,5,6] rfl rfl) ?_);refine bD rfl ?_;have S1:=(S.sel [0] rfl rfl);refine aB H rfl rfl Tryz.func104 rfl rfl (zO P T ps PA pc xs XA xc b31 EA ((hds out xs ps).getD i aJp).to (t+((hds out xs ps).getD i aJp).ticks.toNat) _ _ S1.startR (by omega) (by omega) (by omega)) ?_;clear H a;rintro _ _ a ⟨rfl,S2⟩ H;replace S:=(S.sel [0,1,2,3,4,5,6] rfl rfl).callR (M:=[_]) S2;clear S1 S2;refine wpList_nil (And.intro (S.sel [3,4,0,5,6] rfl rfl) ?_);refine bD rfl ?_;have S1:=(S.sel [0,1,2] rfl rfl);refine aB H rfl rfl Tryz.func103 rfl rfl (rV (joins ((bF P T pe xs P++eJ P T (hds out xs ps) i)++fW P ((hds out xs ps).getD i aJp) t)) ((P*(T+1))+2) b31 (P:Int) (T:Int) _ _ EA A' c' (P*(T+1)) ((P*(T+1))+1) (nd P t ((hds out xs ps).getD i aJp).fr.toNat) (nd P (t+((hds out xs ps).getD i aJp).ticks.toNat) ((hds out xs ps).getD i aJp).to.toNat) ((hds out xs ps).getD i aJp).wide ((hds out xs ps).getD i aJp).pas ((hds out xs ps).getD i aJp).fr (t:Int) 0 _ _ S1.startR ((oN (T:=T) (show ((hds out xs ps).getD i aJp).fr.toNat<P by omega) (show ((hds out xs ps).getD i aJp).to.toNat<P by omega) (show 1≤((hds out xs ps).getD i aJp).ticks.toNat by omega) htT)).2.1 ((oN (T:=T) (show ((hds out xs ps).getD i aJp).fr.toNat<P by omega) (show ((hds out xs ps).getD i aJp).to.toNat<P by omega) (show 1≤((hds out xs ps).getD i aJp).ticks.toNat by omega) htT)).2.2 ((oN (T:=T) (show ((hds out xs ps).getD i aJp).fr.toNat<P by omega) (show ((hds out xs ps).getD i aJp).to.toNat<P by omega) (show 1≤((hds out xs ps).getD i aJp).ticks.toNat by omega) htT)).1 hlen9) ?_;clear H a;rintro _ _ a ⟨rfl,A2,c2,S2⟩ H;replace S:=(S.sel [0,1,2,3,4,5,6] rfl rfl).callR (M:=[_,_,_]) S2;clear S1 S2;have e9:joinT (joins ((bF P T pe xs P++eJ P T (hds out xs ps) i)++fW P ((hds out xs ps).getD i aJp) t)) (nd P t ((hds out xs ps).getD i aJp).fr.toNat) (nd P (t+((hds out xs ps).getD i aJp).ticks.toNat) ((hds out xs ps).getD i aJp).to.toNat) ((hds out xs ps).getD i aJp).wide ⟨((hds out xs ps).getD i aJp).pas,((hds out xs ps).getD i aJp).fr,(t:Int),0⟩=joins (((bF P T pe xs P++eJ P T (hds out xs ps) i)++fW P ((hds out xs ps).getD i aJp) t)++[jHead P ((hds out xs ps).getD i aJp) t]):=(fL ((bF P T pe xs P++eJ P T (hds out xs ps) i)++fW P ((hds out xs ps).getD i aJp) t) (jHead P ((hds out xs ps).getD i aJp) t)).symm;rw [e9] at S;refine wpList_nil (And.intro (S.sel [3,4,0,5,6] rfl rfl) ?_);refine bY ?_;refine k40 _ _ ?_;replace H:=H.keep [7,10,15,16] rfl;refine Rd.sO H<|sr 1 G<|sd (aH rfl rfl (by unfold i64ok;omega))<|sr 1 G<|sE ?_;intro a H
   rw [←xE] at S;exact k37 (g4-1) (t+1,_,_) a _ (by omega) (⟨by omega,by omega,by rw [xE];exact hG2.snoc (oN (by omega) (by omega) (by omega) (by omega))⟩) (S.sel [1,2,3,4,0,5,6] G G) (H.keep [16,7,10,15] rfl)
  refine Rd.wp_exit ?_
  rw [show t=T+1-((hds out xs ps).getD i aJp).ticks.toNat by omega,List.append_assoc] at S;exact ⟨_,⟨_,_,rfl⟩,St.pack (Ms:=[_,_,_,_,_]) (R:=[_]) (S.sel [2,3,4,0,1,6] G G)⟩
 intro D m9 w9 a hJ9 S H;obtain ⟨A',c',rfl⟩:=hJ9;replace S:=St.unpack (S.sel [1,0,2,3,4,5] rfl rfl);refine k34 _ _ ?_;refine sS H fun K43 k43=>sl S 1 gV rfl rfl rfl<|sr 1 G<|sE ?_;intro a H
 refine k43 _ ?_;refine wp_ret ?_;refine retC1 (fn:=Tryz.f89) rfl H S (i:=5) G G (fun _ S=>?_);exact ⟨_,_,_,_,rfl,(S.sel [2,3,4] G G)⟩
end
section
theorem cW (n lo hi:Int) (w:World) :
    Calls Tryz.prog 65 [.int .i64 n,.int .i64 lo,.int .i64 hi].toArray w (Ret (fun v w'=>v = .bool (decide (lo≤n)&&decide (n≤hi))∧w'=w)):=by
 refine enter Tryz.func65 rfl Tryz.ntmps65 rfl (fun a H=>?_)
 have S:=St.start w
 refine sS H fun K1 k1=>sr 1 G<|sE ?_;intro a H
 refine k1 _ ?_;replace H:=H.keep [0,1,2] rfl;refine sS H fun K2 k2=>sr 4 G<|sg 3 3 10 13 true G G (fun hg4=>sy hg4<|sr 1 G<|sy hg4<|sr 1 G<|sy hg4<|sr 1 G<|sz 3 G G G)<|sa G G G<|sr 1 G<|sE ?_;intro a H
 refine k2 _ ?_;refine wp_ret ?_;refine ret1 (fn:=Tryz.f65) rfl H rfl ?_;exact ⟨rfl,rfl⟩
theorem Br (p1 p2 p3 p4 p5 p6 p7 pl:Int) (w:World) (hpl : -1000≤pl∧pl≤1000) :
    Calls Tryz.prog 78 [.agg [.int .i64 p1,.int .i64 p2,.int .i64 p3,.int .i64 p4,.int .i64 p5,.int .i64 p6,.int .i64 p7].toArray,.int .i64 pl].toArray w (Ret (fun v w'=>v = .bool (psgOk pl (⟨p1,p2,p3,p4,p5,p6,p7⟩:Psg))∧St w noF [] w')):=by
 refine enter Tryz.func78 rfl Tryz.ntmps78 rfl (fun a H=>?_)
 have S:=St.start w
 refine aA fun K1 k1=>?_
 refine aO H rfl S G G ?_;intro b2 _ a hb2 hbw2 S H
 refine ls 1 H<|sr 1 G<|sE ?_;intro a H
 refine k1 _ _ ?_;refine wp_seq_k fun K2 k2=>?_
 replace H:=H.keep [1,2] rfl;refine sS H fun K3 k3=>sf fK rfl<|sl S 0 aC G G G<|sr 1 G<|sd (aS G G (by unfold i64ok;omega))<|sc rfl Tryz.func65 G G (cW _ _ _ _)<|sr 2 G<|sg 6 6 11 17 false G G (fun hg7=>sy hg7<|sf fA rfl<|sy hg7<|sl S 0 aC G G G<|sy hg7<|sr 1 G<|sy hg7<|sd (aS G G (by unfold i64ok;omega))<|sy hg7<|sc rfl Tryz.func65 G G (cW _ _ _ _)<|sy hg7<|sr 1 G<|sz 6 G G G)<|so G G G<|sr 1 G<|sg 5 14 19 24 false G G (fun hg15=>sy hg15<|sf fK rfl<|sy hg15<|sl S 0 aC G G G<|sy hg15<|sf fA rfl<|sy hg15<|sl S 0 aC G G G<|sy hg15<|sr 1 G<|sz 5 G G G)<|so G G G<|sr 1 G<|sg 4 21 26 30 false G G (fun hg22=>sy hg22<|sf iW rfl<|sy hg22<|sl S 0 aC G G G<|sy hg22<|sc rfl Tryz.func65 G G (cW _ _ _ _)<|sy hg22<|sr 1 G<|sz 4 G G G)<|so G G G<|sr 1 G<|sg 4 27 32 36 false G G (fun hg28=>sy hg28<|sf rP rfl<|sy hg28<|sl S 0 aC G G G<|sy hg28<|sc rfl Tryz.func65 G G (cW _ _ _ _)<|sy hg28<|sr 1 G<|sz 4 G G G)<|so G G G<|sE ?_;intro a H
 refine k3 _ ?_;refine aU H rfl (fun hc1=>?_) (fun hc1=>?_)
 ·skip
  try simp only [oz] at hc1
  replace H:=H.keep [] rfl;refine sS H fun K4 k4=>sr 1 G<|sE ?_;intro a H
  refine k4 _ ?_;refine wp_ret ?_;refine ret1 (fn:=Tryz.f78) rfl H rfl ?_;refine ⟨congrArg Value.bool ?_,(S.sel [] G G)⟩;exact (gZ (by first|omega|(dsimp only;omega))).symm
 try simp only [oz] at hc1
 refine wp_skip ?_;refine k2 _ _ ?_;refine wp_seq_k fun K5 k5=>?_
 refine sS H fun K6 k6=>sf fC rfl<|sl S 0 aC G G G<|sE ?_;intro a H
 refine k6 _ ?_;refine wp_block ?_;have SR:=(S.sel [0] G G);refine eZ (X:=Bool) [2,39] H rfl (fun q=>[(40,.bool q)]) (fun q=>[]) (fun q=>q=decide (p3=1∨p3=2∨p3=5)) SR (fun K8 k8=>?_) ?_
 ·skip
  refine sS H fun K9 k9=>sr 2 G<|sE ?_;intro a H
  refine k9 _ ?_;refine condE H rfl (fun hc2=>?_) (fun hc2=>?_)
  ·skip
   refine wp_skip ?_;exact k8 _ a _ (decide_eq_decide.2 (by omega)) (S.sel [0] G G) (H.keep [40,2,39] rfl)
  refine sS H fun K10 k10=>sr 2 G<|sE ?_;intro a H
  refine k10 _ ?_;refine condE H rfl (fun hc3=>?_) (fun hc3=>?_)
  ·skip
   refine wp_skip ?_;exact k8 _ a _ (decide_eq_decide.2 (by omega)) (S.sel [0] G G) (H.keep [40,2,39] rfl)
  refine sO H<|sr 2 G<|sE ?_;intro a H
  exact k8 _ a _ (decide_eq_decide.2 (by omega)) (S.sel [0] G G) (H.keep [40,2,39] rfl)
 clear SR H S a;intro xm a wm hp S H;obtain ⟨q,rfl⟩:∃ y,y=xm:=⟨_,rfl⟩;subst hp;refine aU H rfl (fun hc4=>?_) (fun hc4=>?_)
 ·skip
  simp only [o7,o8] at hc4
  replace H:=H.keep [2] rfl;refine sS H fun K12 k12=>sf fD rfl<|sl S 0 aC G G G<|sr 2 G<|sg 3 3 47 50 true G G (fun hg4=>sy hg4<|sf kI rfl<|sy hg4<|sl S 0 aC G G G<|sy hg4<|sr 1 G<|sz 3 G G G)<|sa G G G<|sr 1 G<|sE ?_;intro a H
  refine k12 _ ?_;refine wp_ret ?_;refine ret1 (fn:=Tryz.f78) rfl H rfl ?_;refine ⟨congrArg Value.bool ?_,(S.sel [] G G)⟩;unfold psgOk;rw [←Bool.decide_and];exact decide_eq_decide.2 (by first|omega|(dsimp only;omega))
 simp only [o7,o8] at hc4
 replace H:=H.keep [2,39] rfl;refine sS H fun K13 k13=>sr 2 G<|sE ?_;intro a H
 refine k13 _ ?_;refine condE H rfl (fun hc5=>?_) (fun hc5=>?_)
 ·skip
  replace H:=H.keep [2] rfl;refine sS H fun K14 k14=>sf fD rfl<|sl S 0 aC G G G<|sc rfl Tryz.func65 G G (cW _ _ _ _)<|sr 1 G<|sg 3 3 57 60 true G G (fun hg4=>sy hg4<|sf kI rfl<|sy hg4<|sl S 0 aC G G G<|sy hg4<|sc rfl Tryz.func65 G G (cW _ _ _ _)<|sz 3 G G G)<|sa G G G<|sr 1 G<|sE ?_;intro a H
  refine k14 _ ?_;refine wp_ret ?_;refine ret1 (fn:=Tryz.f78) rfl H rfl ?_;refine ⟨congrArg Value.bool ?_,(S.sel [] G G)⟩;unfold psgOk;simp only [←Bool.decide_and];exact decide_eq_decide.2 (by first|omega|(dsimp only;omega))
 replace H:=H.keep [2,39] rfl;refine sS H fun K15 k15=>sr 2 G<|sE ?_;intro a H
 refine k15 _ ?_;refine condE H rfl (fun hc6=>?_) (fun hc6=>?_)
 ·skip
  replace H:=H.keep [2] rfl;refine sS H fun K16 k16=>sf fD rfl<|sl S 0 aC G G G<|sc rfl Tryz.func65 G G (cW _ _ _ _)<|sr 1 G<|sg 3 3 67 70 true G G (fun hg4=>sy hg4<|sf kI rfl<|sy hg4<|sl S 0 aC G G G<|sy hg4<|sr 1 G<|sz 3 G G G)<|sa G G G<|sr 1 G<|sE ?_;intro a H
  refine k16 _ ?_;refine wp_ret ?_;refine ret1 (fn:=Tryz.f78) rfl H rfl ?_;refine ⟨congrArg Value.bool ?_,(S.sel [] G G)⟩;unfold psgOk;simp only [←Bool.decide_and];exact decide_eq_decide.2 (by first|omega|(dsimp only;omega))
 refine wp_skip ?_;refine k5 _ _ ?_;replace H:=H.keep [] rfl;refine sS H fun K17 k17=>sr 1 G<|sE ?_;intro a H
 refine k17 _ ?_;refine wp_ret ?_;refine ret1 (fn:=Tryz.f78) rfl H rfl ?_;refine ⟨congrArg Value.bool ?_,(S.sel [] G G)⟩;exact (gZ (by first|omega|(dsimp only;omega))).symm
theorem qO (pl:Int) (ps:List Psg) (PA:Option Addr) (pc:Nat) (xs:List Int) (XA:Option Addr) (xc:Nat) (w:World) (hps:InS w noF 7 PA ps.length (pcell ps)) (hpn:ps.length≤9223372036854775807) (hxs:InS w noF 1 XA xs.length (icl xs)) (hxn:xs.length≤9223372036854775807) :
    Calls Tryz.prog 62 [.agg [.int .i64 pl,.slice PA ps.length pc,.slice XA xs.length xc].toArray].toArray w (Ret (fun v w'=>v = .int .i64 (stE pl ps xs)∧St w noF [] w')):=by
 refine enter Tryz.func62 rfl Tryz.ntmps62 rfl (fun a H=>?_)
 have S:=St.start w
 refine aA fun K1 k1=>?_
 refine aO H rfl S G G ?_;intro b1 _ a hb1 hbw1 S H
 refine ls 1 H<|sr 1 G<|sE ?_;intro a H
 refine k1 _ _ ?_;refine wp_seq_k fun K2 k2=>?_
 replace H:=H.keep [1] rfl;refine sS H fun K3 k3=>sf dP rfl<|sl S 0 aC G G G<|sc rfl Tryz.func65 G G (cW _ _ _ _)<|sr 2 G<|sg 4 4 13 17 false G G (fun hg5=>sy hg5<|sf dZ rfl<|sy hg5<|sl S 0 fF G G G<|sy hg5<|sL eT rfl<|sy hg5<|sr 1 G<|sz 4 G G G)<|so G G G<|sE ?_;intro a H
 refine k3 _ ?_;refine aU H rfl (fun hc1=>?_) (fun hc1=>?_)
 ·skip
  try simp only [oz] at hc1
  replace H:=H.keep [] rfl;refine sS H fun K4 k4=>sr 1 G<|sE ?_;intro a H
  refine k4 _ ?_;refine wp_ret ?_;refine ret1 (fn:=Tryz.f62) rfl H rfl ?_;exact ⟨congrArg _ (Jx (by omega)).symm,(S.sel [] G G)⟩
 try simp only [oz] at hc1
 refine wp_skip ?_;refine k2 _ _ ?_;refine aA fun K5 k5=>?_
 refine Az (fun n:Int => .int .i64 n) H rfl S ?_;intro b19 _ a hb19 S H
 refine ls 1 H<|sr 1 G<|sE ?_;intro a H
 refine k5 _ _ ?_;refine wp_seq_k fun K6 k6=>?_
 refine sS H fun K7 k7=>sf dZ rfl<|sl S 1 fF G G G<|sL eT rfl<|sr 1 G<|sE ?_;intro a H
 refine k7 _ ?_;refine wp_block ?_;refine loop_st (X:=Nat×List (Int×Value)) (R0:=_) [1,3,21,22] H rfl (fun ⟨k,l⟩=>[(23,.int .i64 (k:Int))]) (fun ⟨k,l⟩=>[mapM (fun n:Int => .int .i64 n) b19 l]) (fun g ⟨k,l⟩=>k≤ps.length∧g+k=ps.length∧allN (pasOk pl ps) k=true∧CntMap ps k l) (ps.length) (0,[]) ?_ (S.sel [0,1] G G) (H.keep [23,1,3,21,22] rfl) ?_
 · exact ⟨by omega,by omega,rfl,CntMap.nil ps⟩
 clear H S a;intro g1 x1 a w1 hp S H K8 k8;obtain ⟨k,l⟩:=x1;dsimp only at hp S H;obtain ⟨hkl,hgk,hA,hM⟩:=hp;refine sS H fun K9 k9=>sr 1 G<|sE ?_;intro a H
 refine k9 _ ?_;refine wp_seq_k fun K10 k10=>?_
 refine condL H rfl (fun hc2=>?_) (fun hc2=>?_)
 ·skip
  refine wp_skip ?_;refine k10 _ _ ?_;refine wp_seq_k fun K11 k11=>?_
  refine wp_block ?_;refine aA fun K12 k12=>?_
  refine ls 2 H<|si eT dH G G (hps.adr (by omega)) (by omega)<|sd ((aV fV dH rfl S hps (by omega) (by omega)))<|sE ?_;intro a H
  refine aM H rfl S kW ?_;intro b5 _ a hb5 hbw5 S H
  refine aI H S (i:=0) G G G G dH G G ?_
  clear H a S;intro _ a S H;refine k12 _ _ ?_;refine wp_seq_k fun K13 k13=>?_
  replace H:=H.keep [1,3,5,21,22,23] rfl;refine aA fun K14 k14=>?_
  refine ls 3 H<|sd ((aD fV dH rfl S (i:=0) G G))<|sf dP rfl<|sl S 2 aC G G G<|sE ?_;intro a H
  refine aB H G G Tryz.func78 G G (Br _ _ _ _ _ _ _ pl _ (by omega)) ?_;clear H a
  rintro _ _ a ⟨rfl,S2⟩ H;replace S:=S.call S2;clear S2;refine ls 1 H<|sr 1 G<|sE ?_;intro a H
  refine k14 _ _ ?_;refine aU H rfl (fun hc3=>?_) (fun hc3=>?_)
  ·skip
   try simp only [oz] at hc3
   refine sS H fun K15 k15=>sr 1 G<|sE ?_;intro a H
   refine k15 _ ?_;refine wp_ret ?_;refine ret1 (fn:=Tryz.f62) rfl H rfl ?_;exact ⟨congrArg _ (nG (k:=k) (by omega) (by unfold pasOk;rw [hc3];rfl)).symm,(S.sel [] G G)⟩
  try simp only [oz] at hc3
  refine wp_skip ?_;refine k13 _ _ ?_;have hcn:=Ys (ps:=ps) (m:=dE ps k) k;have hc0:=Jw (ps:=ps) (m:=dE ps k) (k:=k);have hcs:cntM ps (dE ps k) (k+1)=cntM ps (dE ps k) k+1:=by unfold cntM;rw [sm,if_pos rfl]
  replace H:=H.keep [1,3,5,21,22,23] rfl;refine aA fun K16 k16=>?_
  refine ls 5 H<|sr 1 G<|sf fD rfl<|sl S 0 aC G G G<|sd ((uE (k:=dE ps k) S (i:=1) rfl Hg (gU Tryz.underlying3) aHi G G).to (hM _))<|sd (aH G G (by unfold i64ok;omega))<|sE ?_;intro a H
  refine wH (k:=dE ps k) H S (i:=1) rfl Hg (gU Tryz.underlying3) G G G ?_;intro _ a S H
  refine k16 _ _ ?_;replace H:=H.keep [1,3,5,21,22,23] rfl;refine aA fun K17 k17=>?_
  refine ls 4 H<|sf fD rfl<|sl S 0 aC G G G<|sr 2 G<|sE ?_;intro a H
  apply dV (i:=3) (g:=40) (t:=45) (b:=true) 5 H S G G (by kernel_rfl) (by kernel_rfl) G G
  case h1=>
   intro hg4;refine ls 5 H<|sy hg4<|sr 1 G<|sy hg4<|sf fD rfl<|sy hg4<|sl S 0 aC G G G<|sy hg4<|sd ((uE (k:=dE ps k) S (i:=1) rfl Hg (gU Tryz.underlying3) aHi G G).to (hM.step _))<|sy hg4<|sr 1 G<|sE ?_;intro a H
   exact wpList_nil ⟨H.strip 5 G G,(S.sel [0,1,2] G G)⟩
  clear H a S;intro a _ H S;refine ls 1 H<|sa G G G<|sE ?_;intro a H
  refine k17 _ _ ?_;refine aU H rfl (fun hc4=>?_) (fun hc4=>?_)
  ·skip
   try simp only [oz] at hc4
   replace H:=H.keep [] rfl;refine sS H fun K18 k18=>sr 1 G<|sE ?_;intro a H
   refine k18 _ ?_;refine wp_ret ?_;refine ret1 (fn:=Tryz.f62) rfl H rfl ?_;exact ⟨congrArg _ (nG (k:=k) (by omega) (by unfold pasOk;rw [decide_eq_false (by unfold dE at *;omega),Bool.and_false])).symm,(S.sel [] G G)⟩
  try simp only [oz] at hc4
  refine wp_skip ?_;refine k11 _ _ ?_;refine sO H<|sd (aH G G (by unfold i64ok;omega))<|sr 1 G<|sE ?_;intro a H
  exact k8 (g1-1) (k+1,_) a _ (by omega) (⟨by omega,by omega,dD hA (by unfold pasOk;rw [Bool.and_eq_true];refine ⟨hc3,decide_eq_true ?_⟩;unfold dE at *;omega),hM.step⟩) (S.sel [1,2] G G) (H.keep [23,1,3,21,22] rfl)
 refine wp_exit ?_;refine k6 _ _ ?_;refine sS H fun K20 k20=>sr 1 G<|sE ?_;intro a H
 refine k20 _ ?_;refine wp_seq_k fun K21 k21=>?_
 refine sS H fun K22 k22=>sf gW rfl<|sl S 1 dQ G G G<|sL aQ rfl<|sr 1 G<|sE ?_;intro a H
 refine k22 _ ?_;refine wp_block ?_;refine loop_st (X:=Nat) (R0:=_) [1,49,50] H rfl (fun k2=>[(6,.int .i64 (if k2=0 then -1 else xs.getD (k2-1) 0)),(51,.int .i64 (k2:Int))]) (fun k2=>[]) (fun g k2=>k2≤xs.length∧g+k2=xs.length∧allN (exOk pl xs) k2=true) (xs.length) 0 ?_ (S.sel [0,1] G G) (H.keep [6,51,1,49,50] rfl) ?_
 · exact ⟨by omega,by omega,rfl⟩
 clear H S a;intro g2 x2 a w2 hp S H K23 k23;obtain ⟨k2,rfl⟩:∃ y,y=x2:=⟨_,rfl⟩
 have hxb:k2≠0→0≤xs.getD (k2-1) 0∧xs.getD (k2-1) 0<pl:=fun h0=>by
   have:=bS.1 hp.2.2 (k2-1) (by omega)
   unfold exOk at this
   simp only [decide_eq_true_eq] at this
   omega
 refine sS H fun K24 k24=>sr 1 G<|sE ?_;intro a H
 refine k24 _ ?_;refine wp_seq_k fun K25 k25=>?_
 refine condL H rfl (fun hc5=>?_) (fun hc5=>?_)
 ·skip
  refine wp_skip ?_;refine k25 _ _ ?_;refine wp_seq_k fun K26 k26=>?_
  refine wp_block ?_;refine sS H fun K27 k27=>si aQ aY G G (hxs.adr (by omega)) (by omega)<|slm aC rfl (hxs.rd S (by omega) (by omega))<|sr 1 G<|sE ?_;intro a H
  refine k27 _ ?_;refine wp_seq_k fun K28 k28=>?_
  replace H:=H.keep [1,6,8,49,50,51] rfl;refine sS H fun K29 k29=>sr 2 G<|sd (aH G G (by unfold i64ok;omega))<|sf dP rfl<|sl S 1 aC G G G<|sd (aS G G (by unfold i64ok;omega))<|sc rfl Tryz.func65 G G (cW _ _ _ _)<|sr 1 G<|sE ?_;intro a H
  refine k29 _ ?_;refine aU H rfl (fun hc6=>?_) (fun hc6=>?_)
  ·skip
   try simp only [oz] at hc6
   refine sS H fun K30 k30=>sr 1 G<|sE ?_;intro a H
   refine k30 _ ?_;refine wp_ret ?_;refine ret1 (fn:=Tryz.f62) rfl H rfl ?_;exact ⟨congrArg _ (aDg (k:=k2) (by omega) (by unfold exOk;rw [decide_eq_false_iff_not];rcases Nat.eq_zero_or_pos k2 with h0|h0 <;> first|(rw [if_pos h0] at hc6;omega)|(rw [if_neg (Nat.ne_of_gt h0)] at hc6;omega))).symm,(S.sel [] rfl rfl)⟩
  try simp only [oz] at hc6
  refine wp_skip ?_;refine k28 _ _ ?_;replace H:=H.keep [1,8,49,50,51] rfl;refine sO H<|sr 2 G<|sE ?_;intro a H
  refine k26 _ _ ?_;refine sO H<|sd (aH G G (by unfold i64ok;omega))<|sr 1 G<|sE ?_;intro a H
  exact k23 (g2-1) (k2+1) a _ (by omega) (⟨by omega,by omega,dD hp.2.2 (by unfold exOk;rw [decide_eq_true_eq];rcases Nat.eq_zero_or_pos k2 with h0|h0 <;> first|(rw [if_pos h0] at hc6;omega)|(rw [if_neg (Nat.ne_of_gt h0)] at hc6;omega))⟩) (S.sel [0,1] rfl rfl) (H.keep [6,51,1,49,50] rfl)
 refine wp_exit ?_;refine k21 _ _ ?_;refine sS H fun K33 k33=>sr 1 G<|sE ?_;intro a H
 refine k33 _ ?_;refine wp_ret ?_;refine ret1 (fn:=Tryz.f62) rfl H rfl ?_;have hk9:k=ps.length:=by omega
 have hk8:k2=xs.length:=by omega
 exact ⟨congrArg _ (aDh (by omega) (hk9 ▸ hA) (hk8 ▸ hp.2.2)).symm,(S.sel [] G G)⟩
theorem xF (pl:Int) (ps:List Psg) (PA:Option Addr) (pc:Nat) (xs:List Int) (XA:Option Addr) (xc:Nat) (pe:List Int) (BA:Option Addr) (bc:Nat) (w:World) (hpe:InS w noF 1 BA pe.length (icl pe)) (hpen:pe.length≤9223372036854775807) :
    Calls Tryz.prog 79 [.agg [.int .i64 pl,.slice PA ps.length pc,.slice XA xs.length xc].toArray,.slice BA pe.length bc].toArray w (Ret (fun v w'=>v = .bool (fQ pl pe)∧St w noF [] w')):=by
 refine enter Tryz.func79 rfl Tryz.ntmps79 rfl (fun a H=>?_)
 have S:=St.start w
 refine aA fun K1 k1=>?_
 refine aO H rfl S G G ?_;intro b2 _ a hb2 hbw2 S H
 refine ls 1 H<|sr 1 G<|sE ?_;intro a H
 refine k1 _ _ ?_;refine wp_seq_k fun K2 k2=>?_
 refine sS H fun K3 k3=>sr 1 G<|sL aQ rfl<|sr 1 G<|sE ?_;intro a H
 refine k3 _ ?_;refine wp_block ?_;refine loop_st (X:=Nat) (R0:=_) [1,2,7,8] H rfl (fun k=>[(9,.int .i64 (k:Int))]) (fun k=>[]) (fun g k=>k≤pe.length∧g+k=pe.length∧allN (fun k=>decide (0≤pe.getD k 0∧pe.getD k 0≤1000)) k=true) (pe.length) 0 ?_ (S.sel [0] G G) (H.keep [9,1,2,7,8] rfl) ?_
 · exact ⟨by omega,by omega,rfl⟩
 clear H S a;intro g1 x1 a w1 hp S H K4 k4;obtain ⟨k,rfl⟩:∃ y,y=x1:=⟨_,rfl⟩;refine sS H fun K5 k5=>sr 1 G<|sE ?_;intro a H
 refine k5 _ ?_;refine wp_seq_k fun K6 k6=>?_
 refine condL H rfl (fun hc1=>?_) (fun hc1=>?_)
 ·skip
  refine wp_skip ?_;refine k6 _ _ ?_;refine wp_seq_k fun K7 k7=>?_
  refine wp_block ?_;refine sS H fun K8 k8=>si aQ aY G G (hpe.adr (by omega)) (by omega)<|slm aC rfl (hpe.rd S (by omega) (by omega))<|sr 1 G<|sE ?_;intro a H
  refine k8 _ ?_;refine sS H fun K9 k9=>sr 1 G<|sc rfl Tryz.func65 G G (cW _ _ _ _)<|sr 1 G<|sE ?_;intro a H
  refine k9 _ ?_;refine aU H rfl (fun hc2=>?_) (fun hc2=>?_)
  ·skip
   try simp only [oz] at hc2
   refine sS H fun K10 k10=>sr 1 G<|sE ?_;intro a H
   refine k10 _ ?_;refine wp_ret ?_;refine ret1 (fn:=Tryz.f79) rfl H rfl ?_;refine ⟨congrArg Value.bool ?_,(S.sel [] G G)⟩;unfold fQ;rw [iG (k:=k) (by omega) (by rw [decide_eq_false_iff_not];omega)];rfl
  try simp only [oz] at hc2
  refine wp_skip ?_;refine k7 _ _ ?_;replace H:=H.keep [1,2,7,8,9] rfl;refine sO H<|sd (aH G G (by unfold i64ok;omega))<|sr 1 G<|sE ?_;intro a H
  exact k4 (g1-1) (k+1) a _ (by omega) (⟨by omega,by omega,dD hp.2.2 (by rw [decide_eq_true_eq];omega)⟩) (S.sel [0] G G) (H.keep [9,1,2,7,8] rfl)
 refine wp_exit ?_;refine k2 _ _ ?_;refine sS H fun K12 k12=>sr 1 G<|sL aQ rfl<|sf dP rfl<|sl S 0 aC G G G<|sr 2 G<|sE ?_;intro a H
 refine k12 _ ?_;refine wp_ret ?_;refine ret1 (fn:=Tryz.f79) rfl H rfl ?_;refine ⟨congrArg Value.bool ?_,(S.sel [] G G)⟩;unfold fQ;rw [show pe.length=k by omega,hp.2.2,Bool.true_and]
theorem Bs (pl:Int) (ps:List Psg) (PA:Option Addr) (pc:Nat) (xs:List Int) (XA:Option Addr) (xc:Nat) (out:Int) (pe:List Int) (BA:Option Addr) (bc:Nat) (T:Int) (w:World) (hps:InS w noF 7 PA ps.length (pcell ps)) (hpn:ps.length≤9223372036854775807) (hxs:InS w noF 1 XA xs.length (icl xs)) (hxn:xs.length≤9223372036854775807) (hpe:InS w noF 1 BA pe.length (icl pe)) (hpen:pe.length≤9223372036854775807) :
    Calls Tryz.prog 88 [.agg [.int .i64 pl,.slice PA ps.length pc,.slice XA xs.length xc].toArray,.int .i64 out,.slice BA pe.length bc,.int .i64 T].toArray w (Ret (fun v w'=>v = .int .i64 (dY pl ps xs out pe T)∧St w noF [] w')):=by
 refine enter Tryz.func88 rfl Tryz.ntmps88 rfl (fun a H=>?_)
 have S:=St.start w
 refine aA fun K1 k1=>?_
 refine aO H rfl S G G ?_;intro b4 _ a hb4 hbw4 S H
 refine ls 1 H<|sr 1 G<|sE ?_;intro a H
 refine k1 _ _ ?_;refine wp_seq_k fun K2 k2=>?_
 refine aA fun K3 k3=>?_
 refine ls 1 H<|sd ((aD cE cV rfl S (i:=0) G G))<|sE ?_;intro a H
 refine aB H G G Tryz.func62 G G (qO pl ps PA pc xs XA xc _ (hps.now S) hpn (hxs.now S) hxn) ?_;clear H a
 rintro _ _ a ⟨rfl,S2⟩ H;replace S:=S.call S2;clear S2;refine ls 1 H<|sr 1 G<|sE ?_;intro a H
 refine k3 _ _ ?_;refine sS H fun K4 k4=>sr 2 G<|sE ?_;intro a H
 refine k4 _ ?_;refine condN H rfl (fun hc1=>?_) (fun hc1=>?_)
 ·skip
  refine sS H fun K5 k5=>sr 2 G<|sE ?_;intro a H
  refine k5 _ ?_;refine wp_ret ?_;refine ret1 (fn:=Tryz.f88) rfl H rfl ?_;refine ⟨?_,(S.sel [] G G)⟩;unfold dY;rw [if_pos hc1]
 refine wp_skip ?_;refine k2 _ _ ?_;refine wp_seq_k fun K6 k6=>?_
 replace H:=H.keep [1,2,3,4] rfl;refine aA fun K7 k7=>?_
 refine ls 1 H<|sr 1 G<|sE ?_;intro a H
 refine aB H G G Tryz.func65 G G (cW _ _ _ _) ?_;clear H a
 rintro _ _ a ⟨rfl,rfl⟩ H;refine ls 2 H<|sr 2 G<|sE ?_;intro a H
 apply dV (i:=3) (g:=18) (t:=22) (b:=false) 4 H S G G (by kernel_rfl) (by kernel_rfl) G G
 case h1=>
  intro hg4;refine ls 2 H<|sy hg4<|sd ((aD cE cV rfl S (i:=0) G G))<|sy hg4<|sr 1 G<|sE ?_;intro a H
  refine eV H G G (by assumption) ?_
  refine aB H G G Tryz.func79 G G (xF pl ps PA pc xs XA xc pe BA bc _ (hpe.now S) hpen) ?_
  rintro _ _ a ⟨rfl,S2⟩ H;replace S:=S.call S2;clear S2;refine ls 1 H<|sy hg4<|sr 1 G<|sE ?_;intro a H
  exact wpList_nil ⟨H.strip 4 G G,(S.sel [0] G G)⟩
 clear H a S;intro a _ H S;refine ls 6 H<|so G G G<|sr 1 G<|sg 3 9 24 27 false G G (fun hg10=>sy hg10<|sr 1 G<|sy hg10<|sc rfl Tryz.func65 G G (cW _ _ _ _)<|sy hg10<|sr 1 G<|sz 3 G G G)<|so G G G<|sE ?_;intro a H
 refine k7 _ _ ?_;refine aU H rfl (fun hc2=>?_) (fun hc2=>?_)
 ·skip
  try simp only [oz] at hc2
  replace H:=H.keep [] rfl;refine sS H fun K8 k8=>sr 1 G<|sE ?_;intro a H
  refine k8 _ ?_;refine wp_ret ?_;refine ret1 (fn:=Tryz.f88) rfl H rfl ?_;refine ⟨?_,(S.sel [] rfl rfl)⟩;unfold dY;rw [if_neg (by omega),if_neg (by simp only [Bool.and_eq_true,decide_eq_true_eq];rcases hc2 with (h|h)|h <;> first|(intro h9;omega)|(rw [h];simp))]
 try simp only [oz] at hc2
 refine wp_skip ?_;refine k6 _ _ ?_;refine sS H fun K9 k9=>sr 1 G<|sE ?_;intro a H
 refine k9 _ ?_;refine wp_ret ?_;refine ret1 (fn:=Tryz.f88) rfl H rfl ?_;refine ⟨?_,(S.sel [] G G)⟩;unfold dY;rw [if_neg (by omega),if_pos (by simp only [Bool.and_eq_true,decide_eq_true_eq];exact ⟨⟨by omega,hc2.1.2⟩,by omega⟩)]
end
section
theorem StV.mch {P:Nat} {ps:List Psg} {xs:List Int} (h:StV P ps xs) (k:Nat) (hk:k<ps.length):(ps.getD k aJj).kind=4→0≤(ps.getD k aJj).mach∧(ps.getD k aJj).mach≤11:=fun h4=>by
 have:=bW.1 (h.pas k hk)
 omega
theorem Sq {k:Nat}:∀ q j,j<1→cput (lcl fun i=>if i<k then -1 else 0) k 0 (.int .i64 (-1)) q j=lcl (fun i=>if i<k+1 then -1 else 0) q j:=by
  intro q j hj;have:j=0:=by omega
  subst this;unfold cput lcl;dsimp only;by_cases e:q=k
  · subst e;rw [if_pos ⟨rfl,rfl⟩,if_pos (by omega)]
  · rw [if_neg (fun h=>e h.1)]
    by_cases h:q<k
    · rw [if_pos h,if_pos (by omega)]
    · rw [if_neg h,if_neg (by omega)]
theorem Sr {P k to:Nat} (hk:k=P):∀ q j,q<P→j<1→cput (lcl fun i=>if i<k then -1 else 0) to 0 (.int .i64 0) q j=lcl (tk0 to) q j:=by
 intro q j hq hj;have:j=0:=by omega
 subst this;unfold cput lcl tk0;dsimp only;by_cases e:q=to
 ·subst e;rw [if_pos ⟨rfl,rfl⟩,if_pos rfl]
 ·rw [if_neg (fun h=>e h.1),if_pos (by omega),if_neg e]
theorem Zb {L:Nat→Int} {p:Nat} {v:Int}:∀ k j,j<1→cput (lcl L) p 0 (.int .i64 v) k j=lcl (upd L p v) k j:=by
 intro k j hj;have:j=0:=by omega
 subst this;unfold cput lcl upd;by_cases e:k=p <;> simp [e]
theorem aHn {m:Bool} (h:m=true):b2i m=1:=by subst h;rfl
theorem aEe {P f:Nat} {ps:List Psg} {out:Int} {help:Bool} {tk:Nat→Int} {m:Bool} (e:P=f) (h:m=false→∀ i,i<f→∀ k,k<ps.length→FixAt ps out help tk i k):m=false→∀ i,i<P→∀ k,k<ps.length→FixAt ps out help tk i k:=by subst e;exact h
theorem aHo (m:Nat):(0:Int)≤2^(m:Int).toNat:=Int.pow_nonneg (by omega)
theorem Zc {m:Nat} (h:m<12):(0:Int)≤2^(m:Int).toNat∧(2:Int)^(m:Int).toNat≤2048:=by
 refine ⟨aHo m,?_⟩
 have h2:2^m≤2^11:=Nat.pow_le_pow_right (by omega) (by omega)
 have h3:((2^m:Nat):Int)≤((2^11:Nat):Int):=Int.ofNat_le.2 h2
 push_cast at h3
 exact h3
theorem aEf:∀ k j,j<1→[Value.int .i64 0].getD j undef=lcl (fun i=>if i<0 then -1 else 0) k j:=by
 intro k j hj;have:j=0:=by omega
 subst this;rfl
theorem xG (pl:Int) (ps:List Psg) (PA:Option Addr) (pc:Nat) (xs:List Int) (XA:Option Addr) (xc:Nat) (l:List Int) (LA:Option Addr) (lc:Nat) (w:World) (hl:InS w noF 1 LA l.length (icl l)) (hln:l.length≤9223372036854775807) (hpl : -1000≤pl∧pl≤1000) :
    Calls Tryz.prog 64 [.agg [.int .i64 pl,.slice PA ps.length pc,.slice XA xs.length xc].toArray,.slice LA l.length lc].toArray w (Ret (fun v w'=>v = .bool (plOk pl l)∧St w noF [] w')):=by
 refine enter Tryz.func64 rfl Tryz.ntmps64 rfl (fun a H=>?_)
 have S:=St.start w
 refine aA fun K1 k1=>?_
 refine aO H rfl S G G ?_;intro b2 _ a hb2 hbw2 S H
 refine ls 1 H<|sr 1 G<|sE ?_;intro a H
 refine k1 _ _ ?_;refine wp_seq_k fun K2 k2=>?_
 refine sS H fun K3 k3=>sr 1 G<|sL aQ rfl<|sr 1 G<|sE ?_;intro a H
 refine k3 _ ?_;refine wp_block ?_;refine loop_st (X:=Nat) (R0:=_) [2,7,8] H rfl (fun k=>[(9,.int .i64 (k:Int))]) (fun k=>[]) (fun g k=>k≤l.length∧g+k=l.length∧allN (fun k=>decide (0≤l.getD k 0∧l.getD k 0≤pl-1)) k=true) (l.length) 0 ?_ (S.sel [0] G G) (H.keep [9,2,7,8] rfl) ?_
 · exact ⟨by omega,by omega,rfl⟩
 clear H S a;intro g1 x1 a w1 hp S H K4 k4;obtain ⟨k,rfl⟩:∃ y,y=x1:=⟨_,rfl⟩;refine sS H fun K5 k5=>sr 1 G<|sE ?_;intro a H
 refine k5 _ ?_;refine wp_seq_k fun K6 k6=>?_
 refine condL H rfl (fun hc1=>?_) (fun hc1=>?_)
 ·skip
  refine wp_skip ?_;refine k6 _ _ ?_;refine wp_seq_k fun K7 k7=>?_
  refine wp_block ?_;refine sS H fun K8 k8=>si aQ aY G G (hl.adr (by omega)) (by omega)<|slm aC rfl (hl.rd S (by omega) (by omega))<|sr 1 G<|sE ?_;intro a H
  refine k8 _ ?_;replace H:=H.keep [2,6,7,8,9] rfl;refine sS H fun K9 k9=>sr 1 G<|sf dP rfl<|sl S 0 aC G G G<|sd (aS G G (by unfold i64ok;omega))<|sc rfl Tryz.func65 G G (cW _ _ _ _)<|sr 1 G<|sE ?_;intro a H
  refine k9 _ ?_;refine aU H rfl (fun hc2=>?_) (fun hc2=>?_)
  ·skip
   try simp only [oz] at hc2
   refine sS H fun K10 k10=>sr 1 G<|sE ?_;intro a H
   refine k10 _ ?_;refine wp_ret ?_;refine ret1 (fn:=Tryz.f64) rfl H rfl ?_;exact ⟨congrArg Value.bool (wV (k:=k) (by omega) (by omega)).symm,(S.sel [] G G)⟩
  try simp only [oz] at hc2
  refine wp_skip ?_;refine k7 _ _ ?_;refine sO H<|sd (aH G G (by unfold i64ok;omega))<|sr 1 G<|sE ?_;intro a H
  exact k4 (g1-1) (k+1) a _ (by omega) (⟨by omega,by omega,dD hp.2.2 (by rw [decide_eq_true_eq];omega)⟩) (S.sel [0] G G) (H.keep [9,2,7,8] rfl)
 refine wp_exit ?_;refine k2 _ _ ?_;replace H:=H.keep [] rfl;refine sS H fun K12 k12=>sr 1 G<|sE ?_;intro a H
 refine k12 _ ?_;refine wp_ret ?_;refine ret1 (fn:=Tryz.f64) rfl H rfl ?_;refine ⟨congrArg Value.bool ?_,(S.sel [] G G)⟩;unfold plOk;rw [show l.length=k by omega,hp.2.2]
theorem uH (P:Nat) (ps:List Psg) (PA:Option Addr) (pc:Nat) (xs:List Int) (XA:Option Addr) (xc:Nat) (out:Int) (help:Bool) (p:Psg) (f:Int) (w:World) (hm:p.kind=4→0≤p.mach∧p.mach≤11) (hou:0≤out) :
    Calls Tryz.prog 87 [.agg [.int .i64 (P:Int),.slice PA ps.length pc,.slice XA xs.length xc,.int .i64 out,.bool help].toArray,.agg [.int .i64 p.a,.int .i64 p.b,.int .i64 p.kind,.int .i64 p.ticks,.int .i64 p.wide,.int .i64 p.mach,.int .i64 p.still].toArray,.int .i64 f].toArray w (Ret (fun v w'=>v = .int .i64 (oth out help p f)∧St w noF [] w')):=by
 refine enter Tryz.func87 rfl Tryz.ntmps87 rfl (fun a H=>?_)
 have S:=St.start w
 refine aA fun K1 k1=>?_
 refine aO H rfl S G G ?_;intro b3 _ a hb3 hbw3 S H
 refine aO H rfl S G G ?_;intro b4 _ a hb4 hbw4 S H
 refine ls 1 H<|sr 1 G<|sE ?_;intro a H
 refine k1 _ _ ?_;replace H:=H.keep [2,3,4] rfl
 refine sS H fun K2 k2=>sf fC rfl<|sl S 0 aC G G G<|sr 2 G<|sg 12 3 11 23 false G G (fun hg4=>by
     have hq4:=hg4;try simp only [oz] at hq4
     exact sy hg4<|sf fC rfl<|sy hg4<|sl S 0 aC G G G<|sy hg4<|sr 1 G<|sy hg4<|sr 1 G<|sg 7 7 15 22 true G G (fun hg8=>by
          have hq8:=hg8;try simp only [oz] at hq8
          exact sy hg8<|sf Qo rfl<|sy hg8<|sl S 1 aC G G G<|sy hg8<|sf fD rfl<|sy hg8<|sl S 0 aC G G G<|sy hg8<|sd (lZ G G (by omega) (by omega))<|sy hg8<|sd (kK G G)<|sy hg8<|sr 1 G<|sz 7 G G G)<|sy hg4<|sa G G G<|sz 6 G G G)<|so G G G<|sr 1 G<|sg 7 17 25 32 false G G (fun hg18=>by
     have hq18:=hg18;try simp only [oz] at hq18
     exact sy hg18<|sf fC rfl<|sy hg18<|sl S 0 aC G G G<|sy hg18<|sr 1 G<|sy hg18<|sr 1 G<|sg 2 21 29 31 true G G (fun hg22=>by
          have hq22:=hg22;try simp only [oz] at hq22
          exact sy hg22<|sf Qp rfl<|sy hg22<|sl S 1 jF G G G<|sz 2 G G G)<|sy hg18<|sa G G G<|sz 6 G G G)<|so G G G<|sr 1 G<|sE ?_;intro a H
 refine k2 _ ?_;refine wp_seq_k fun K3 k3=>?_
 refine wp_block ?_;replace H:=H.keep [2,4,7] rfl;refine sS H fun K4 k4=>sr 3 G<|sE ?_;intro a H
 refine k4 _ ?_;refine aU H rfl (fun hc1=>?_) (fun hc1=>?_)
 ·skip
  try simp only [oz] at hc1
  refine sS H fun K5 k5=>sr 1 G<|sE ?_;intro a H
  refine k5 _ ?_;refine wp_ret ?_;refine ret1 (fn:=Tryz.f87) rfl H rfl ?_;refine ⟨congrArg (Value.int .i64) ?_,(S.sel [] G G)⟩;unfold oth;rw [if_pos (aHj hc1)]
 try simp only [oz] at hc1
 refine sS H fun K6 k6=>sf fK rfl<|sl S 0 aC G G G<|sr 3 G<|sE ?_;intro a H
 refine k6 _ ?_;refine condE H rfl (fun hc2=>?_) (fun hc2=>?_)
 ·skip
  replace H:=H.keep [4] rfl;refine sS H fun K7 k7=>sf fA rfl<|sl S 0 aC G G G<|sr 1 G<|sE ?_;intro a H
  refine k7 _ ?_;refine wp_ret ?_;refine ret1 (fn:=Tryz.f87) rfl H rfl ?_;refine ⟨congrArg (Value.int .i64) ?_,(S.sel [] G G)⟩;unfold oth othr;rw [if_neg (by rw [Rv hc1];simp),if_pos hc2]
 refine sS H fun K8 k8=>sf fA rfl<|sl S 0 aC G G G<|sr 3 G<|sE ?_;intro a H
 refine k8 _ ?_;refine condE H rfl (fun hc3=>?_) (fun hc3=>?_)
 ·skip
  replace H:=H.keep [4] rfl;refine sS H fun K9 k9=>sf fK rfl<|sl S 0 aC G G G<|sr 1 G<|sE ?_;intro a H
  refine k9 _ ?_;refine wp_ret ?_;refine ret1 (fn:=Tryz.f87) rfl H rfl ?_;refine ⟨congrArg (Value.int .i64) ?_,(S.sel [] G G)⟩;unfold oth othr;rw [if_neg (by rw [Rv hc1];simp),if_neg hc2,if_pos hc3]
 refine wp_skip ?_;refine k3 _ _ ?_;refine sS H fun K10 k10=>sr 1 G<|sE ?_;intro a H
 refine k10 _ ?_;refine wp_ret ?_;refine ret1 (fn:=Tryz.f87) rfl H rfl ?_;refine ⟨congrArg (Value.int .i64) ?_,(S.sel [] G G)⟩;unfold oth othr;rw [if_neg (by rw [Rv hc1];simp),if_neg hc2,if_neg hc3]
theorem zP (P:Nat) (ps:List Psg) (PA:Option Addr) (pc:Nat) (xs:List Int) (XA:Option Addr) (xc:Nat) (out:Int) (help:Bool) (to:Int) (w:World) (hps:InS w noF 7 PA ps.length (pcell ps)) (hpn:ps.length≤9223372036854775807) (hxs:InS w noF 1 XA xs.length (icl xs)) (hxn:xs.length≤9223372036854775807) (hV:StV P ps xs) (hou:0≤out) (hto:0≤to∧to<P) :
    Calls Tryz.prog 80 [.agg [.int .i64 (P:Int),.slice PA ps.length pc,.slice XA xs.length xc,.int .i64 out,.bool help].toArray,.int .i64 to].toArray w (Ret (fun v w'=>∃ A c,v = .slice A P c∧FarOk P ps out help to.toNat (dst P ps out help to.toNat)∧St w noF [ownM 3 1 A P c (lcl (dst P ps out help to.toNat))] w')):=by
 have hP10:=hV.size
 refine enter Tryz.func80 rfl Tryz.ntmps80 rfl (fun a H=>?_)
 have S:=St.start w
 refine aA fun K1 k1=>?_
 refine aO H rfl S G G ?_;intro b2 _ a hb2 hbw2 S H
 refine ls 1 H<|sr 1 G<|sE ?_;intro a H
 refine k1 _ _ ?_;refine aA fun K2 k2=>?_
 refine ls 3 H<|sf wO rfl<|sf dP rfl<|sl S 0 aC G G G<|sE ?_;intro a H
 refine eU (n:=_) H rfl S aQ aY eF lU rfl (by decide) G G (by omega) (by omega) ?_;intro A1 _ a hA1 S H
 replace S:=S.recell (i:=0) rfl (cell':=lcl (fun i=>if i<0 then -1 else 0)) (fun k j hk hj=>aEf k j hj);refine ls 1 H<|sr 1 G<|sE ?_;intro a H
 refine k2 _ _ ?_;refine wp_seq_k fun K3 k3=>?_
 replace H:=H.keep [1,2,5] rfl;refine sS H fun K4 k4=>sr 1 G<|sL aQ rfl<|sr 1 G<|sE ?_;intro a H
 refine k4 _ ?_;refine wp_block ?_;refine loop_st (X:=Nat) (R0:=_) [1,2,5,18] H rfl (fun k=>[(19,.int .i64 (k:Int))]) (fun k=>[ownM 3 1 A1 P P (lcl (fun i=>if i<k then -1 else 0))]) (fun g k=>k≤P∧g+k=P) (P) 0 ?_ (S.sel [0,1] G G) (H.keep [19,1,2,5,18] rfl) ?_
 · exact ⟨by omega,by omega⟩
 clear H S a;intro g1 x1 a w1 hp S H K5 k5;obtain ⟨k,rfl⟩:∃ y,y=x1:=⟨_,rfl⟩;refine sS H fun K6 k6=>sr 1 G<|sE ?_;intro a H
 refine k6 _ ?_;refine wp_seq_k fun K7 k7=>?_
 refine condL H rfl (fun hc1=>?_) (fun hc1=>?_)
 ·skip
  refine wp_skip ?_;refine k7 _ _ ?_;refine wp_seq_k fun K8 k8=>?_
  refine wp_block ?_;refine sS H fun K9 k9=>sr 2 G<|sE ?_;intro a H
  refine k9 _ ?_;refine cN ?_;refine ls 3 H<|sr 2 G<|si aQ aY G G (aIp S (i:=0) rfl (by omega)) (by omega)<|sE ?_;intro a H
  refine bB H S (i:=0) G G G (by omega) (by omega) aY rfl ?_
  clear H a S;intro _ a S H;replace S:=S.recell (i:=0) rfl (cell':=lcl (fun i=>if i<k+1 then -1 else 0)) (fun q j hq hj=>Sq q j hj);refine k8 _ _ ?_;refine sO H<|sd (aH G G (by unfold i64ok;omega))<|sr 1 G<|sE ?_;intro a H
  exact k5 (g1-1) (k+1) a _ (by omega) (⟨by omega,by omega⟩) (S.sel [0,1] G G) (H.keep [19,1,2,5,18] rfl)
 refine wp_exit ?_;refine k3 _ _ ?_;replace H:=H.keep [1,2,5] rfl;refine aA fun K12 k12=>?_
 refine ls 3 H<|sr 2 G<|sI aQ aY G G (aIp S (i:=0) rfl (by omega)) (by omega) (by omega)<|sE ?_;intro a H
 refine bB H S (i:=0) G G G (by omega) (by omega) aY rfl ?_
 clear H a S;intro _ a S H;replace S:=S.recell (i:=0) rfl (cell':=lcl (tk0 to.toNat)) (fun q j hq hj=>Sr (by omega) q j hq hj);refine k12 _ _ ?_;refine wp_seq_k fun K13 k13=>?_
 refine sS H fun K14 k14=>sr 1 G<|sE ?_;intro a H
 refine k14 _ ?_;refine wp_block ?_;refine loop_st (X:=(Nat→Int)×Bool) (R0:=_) [2,5] H rfl (fun ⟨tk,mo⟩=>[(7,.bool mo)]) (fun ⟨tk,mo⟩=>[ownM 3 1 A1 P P (lcl tk)]) (fun g ⟨tk,mo⟩=>FarI P ps out help to.toNat tk∧potF P tk+b2i mo≤(g:Int)∧(mo=false→∀ i,i<P→∀ k,k<ps.length→FixAt ps out help tk i k)) ((potF P (tk0 to.toNat)+1).toNat) (tk0 to.toNat,true) ?_ (S.sel [0,1] G G) (H.keep [7,2,5] rfl) ?_
 · exact ⟨FarI.init (by omega),by have:=vE (P:=P) (tk:=tk0 to.toNat);show potF P (tk0 to.toNat)+1≤_;omega,fun h=>by cases h⟩
 clear H S a;intro g2 x2 a w2 hp S H K15 k15;obtain ⟨tk,mo⟩:=x2;dsimp only at hp S H;obtain ⟨hI,hpot,hfx⟩:=hp;have hpn0:=vE (P:=P) (tk:=tk);refine wp_seq_k fun K16 k16=>?_
 refine sS H fun K17 k17=>sr 1 G<|sE ?_;intro a H
 refine k17 _ ?_;refine aU H rfl (fun hc2=>?_) (fun hc2=>?_)
 ·skip
  try simp only [oz] at hc2
  have hb9:=aHn hc2
  refine wp_skip ?_;refine k16 _ _ ?_;refine wp_block ?_;refine sS H fun K18 k18=>sr 1 G<|sE ?_;intro a H
  refine k18 _ ?_;refine sS H fun K19 k19=>sf wO rfl<|sf dP rfl<|sl S 1 aC G G G<|sr 1 G<|sE ?_;intro a H
  refine k19 _ ?_;refine wp_block ?_;refine loop_st (X:=Nat×(Nat→Int)×Bool) (R0:=_) [2,5,32] H rfl (fun ⟨f,tk1,m1⟩=>[(7,.bool m1),(33,.int .i64 (f:Int))]) (fun ⟨f,tk1,m1⟩=>[ownM 3 1 A1 P P (lcl tk1)]) (fun g ⟨f,tk1,m1⟩=>f≤P∧g+f=P∧FarI P ps out help to.toNat tk1∧potF P tk1+b2i m1≤potF P tk∧(m1=false→∀ i,i<f→∀ k,k<ps.length→FixAt ps out help tk1 i k)) (P) (0,tk,false) ?_ (S.sel [0,1] G G) (H.keep [7,33,2,5,32] rfl) ?_
  · exact ⟨by omega,by omega,hI,by show potF P tk+0≤_;omega,fun _ i hi=>absurd hi (Nat.not_lt_zero i)⟩
  clear H S a;intro g3 x3 a w3 hp S H K20 k20;obtain ⟨f,tk1,m1⟩:=x3;dsimp only at hp S H;obtain ⟨hfP,hgf,hI1,hpot1,hfx1⟩:=hp;refine sS H fun K21 k21=>sr 1 G<|sE ?_;intro a H
  refine k21 _ ?_;refine wp_seq_k fun K22 k22=>?_
  refine condL H rfl (fun hc3=>?_) (fun hc3=>?_)
  ·skip
   refine wp_skip ?_;refine k22 _ _ ?_;refine wp_seq_k fun K23 k23=>?_
   refine wp_block ?_;refine sS H fun K24 k24=>sr 2 G<|sE ?_;intro a H
   refine k24 _ ?_;refine sS H fun K25 k25=>sf wO rfl<|sf dZ rfl<|sl S 1 fF G G G<|sL eT rfl<|sr 1 G<|sE ?_;intro a H
   refine k25 _ ?_;refine wp_block ?_;refine loop_st (X:=Nat×(Nat→Int)×Bool) (R0:=_) [2,5,8,32,33,38,39] H rfl (fun ⟨k,tk2,m2⟩=>[(7,.bool m2),(40,.int .i64 (k:Int))]) (fun ⟨k,tk2,m2⟩=>[ownM 3 1 A1 P P (lcl tk2)]) (fun g ⟨k,tk2,m2⟩=>k≤ps.length∧g+k=ps.length∧FarI P ps out help to.toNat tk2∧potF P tk2+b2i m2≤potF P tk∧(m2=false→(∀ i,i<f→∀ k,k<ps.length→FixAt ps out help tk2 i k)∧∀ q,q<k→FixAt ps out help tk2 f q)) (ps.length) (0,tk1,m1) ?_ (S.sel [0,1] G G) (H.keep [7,40,2,5,8,32,33,38,39] rfl) ?_
   · exact ⟨by omega,by omega,hI1,hpot1,fun h=>⟨hfx1 h,fun q hq=>absurd hq (Nat.not_lt_zero q)⟩⟩
   clear H S a;intro g4 x4 a w4 hp S H K26 k26;obtain ⟨k,tk2,m2⟩:=x4;dsimp only at hp S H;obtain ⟨hkl,hgk,hI2,hpot2,hfx2⟩:=hp;refine sS H fun K27 k27=>sr 1 G<|sE ?_;intro a H
   refine k27 _ ?_;refine wp_seq_k fun K28 k28=>?_
   refine condL H rfl (fun hc4=>?_) (fun hc4=>?_)
   ·skip
    refine wp_skip ?_;refine k28 _ _ ?_;refine wp_seq_k fun K29 k29=>?_
    refine wp_block ?_;refine aA fun K30 k30=>?_
    refine ls 2 H<|si eT dH G G (hps.adr (by omega)) (by omega)<|sd ((aV fV dH rfl S hps (by omega) (by omega)))<|sE ?_;intro a H
    refine aM H rfl S kW ?_;intro b10 _ a hb10 hbw10 S H
    refine aI H S (i:=0) G G G G dH G G ?_
    clear H a S;intro _ a S H;refine k30 _ _ ?_;replace H:=H.keep [2,5,7,8,10,32,33,38,39,40] rfl;refine aA fun K31 k31=>?_
    refine ls 3 H<|sd ((aD uT wL rfl S (i:=2) G G))<|sd ((aD fV dH rfl S (i:=0) G G))<|sr 1 G<|sE ?_;intro a H
    refine aB H G G Tryz.func87 G G (uH P ps PA pc xs XA xc out help (ps.getD k aJj) (f:Int) _ (hV.mch k (by omega)) hou) ?_;clear H a
    rintro _ _ a ⟨rfl,S2⟩ H;replace S:=S.call S2;clear S2;have hoi:0≤oth out help (ps.getD k aJj) (f:Int)→oth out help (ps.getD k aJj) (f:Int)<P:=fun h=>(oO hV.psv (show k<ps.length by omega) h).2.1
    have htb:=(hV.psv k (by omega)).2.2
    refine ls 1 H<|sr 1 G<|sE ?_;intro a H
    refine k31 _ _ ?_;refine wp_seq_k fun K32 k32=>?_
    replace H:=H.keep [2,5,7,8,10,11,32,33,38,39,40] rfl
    refine sS H fun K33 k33=>sr 3 G<|sg 5 2 50 55 false G G (fun hg3=>by
        have hq3:=hg3;try simp only [oz] at hq3
        exact sy hg3<|sr 1 G<|sy hg3<|sr 1 G<|sy hg3<|sI aQ aY G G (aIp S (i:=1) rfl (by omega)) (by omega) (by omega)<|sy hg3<|slm aC rfl (aIq S (i:=1) rfl (by omega) (by omega))<|sy hg3<|sr 1 G<|sz 5 G G G)<|so G G G<|sE ?_;intro a H
    refine k33 _ ?_;refine aU H rfl (fun hc5=>?_) (fun hc5=>?_)
    ·skip
     try simp only [oz] at hc5
     refine wp_exit ?_;refine k29 _ _ ?_;replace H:=H.keep [2,5,7,8,32,33,38,39,40] rfl;refine sO H<|sd (aH G G (by unfold i64ok;omega))<|sr 1 G<|sE ?_;intro a H
     exact k26 (g4-1) (k+1,_,_) a _ (by omega) (by first|exact ⟨by omega,by omega,hI2.up hV.psv (by omega) (by omega) (by omega) (by omega) (by omega) (by omega) (by omega) hpot2⟩|exact ⟨by omega,by omega,hI2,hpot2,Bp (P:=P) hfx2 (oP (by omega))⟩) (S.sel [1,2] G G) (H.keep [7,40,2,5,8,32,33,38,39] rfl)
    try simp only [oz] at hc5
    refine wp_skip ?_;refine k32 _ _ ?_;have hsm:=hI2.small (by omega) (i:=(oth out help (ps.getD k aJj) f).toNat) (by omega);replace H:=H.keep [2,5,7,8,10,11,32,33,38,39,40] rfl;replace S:=S.drew;refine sD H fun K35 k35=>sr 2 G<|sI aQ aY G G (aIp S (i:=1) rfl (by omega)) (by omega) (by omega)<|slm aC rfl (aIq S (i:=1) rfl (by omega) (by omega))<|sf iW rfl<|sl S 0 aC G G G<|sd (aH G G (by unfold i64ok;omega))<|sr 1 G<|sE ?_;intro a H
    refine k35 _ ?_;replace H:=H.keep [2,5,7,8,12,32,33,38,39,40] rfl
    refine sS H fun K36 k36=>sr 2 G<|si aQ aY G G (aIp S (i:=1) rfl (by omega)) (by omega)<|slm aC rfl (aIq S (i:=1) rfl (by omega) (by omega))<|sr 2 G<|sg 6 5 69 75 false G G (fun hg6=>by
        have hq6:=hg6;try simp only [oz] at hq6
        exact sy hg6<|sr 1 G<|sy hg6<|sr 1 G<|sy hg6<|sr 1 G<|sy hg6<|si aQ aY G G (aIp S (i:=1) rfl (by omega)) (by omega)<|sy hg6<|slm aC rfl (aIq S (i:=1) rfl (by omega) (by omega))<|sy hg6<|sr 1 G<|sz 6 G G G)<|so G G G<|sE ?_;intro a H
    refine k36 _ ?_;refine aU H rfl (fun hc6=>?_) (fun hc6=>?_)
    ·skip
     try simp only [oz] at hc6
     replace H:=H.keep [2,5,8,12,32,33,38,39,40] rfl;refine cN ?_;refine ls 4 H<|sr 3 G<|si aQ aY G G (aIp S (i:=1) rfl (by omega)) (by omega)<|sE ?_;intro a H
     refine bB H S (i:=1) G G G (by omega) (by omega) aY rfl ?_
     clear H a S;intro _ a S H;replace S:=S.recell (i:=1) rfl (cell':=lcl (upd tk2 f (tk2 (oth out help (ps.getD k aJj) f).toNat+(ps.getD k aJj).ticks))) (fun q j hq hj=>Zb q j hj);refine ls 1 H<|sr 1 G<|sE ?_;intro a H
     refine k29 _ _ ?_;refine sO H<|sd (aH G G (by unfold i64ok;omega))<|sr 1 G<|sE ?_;intro a H
     exact k26 (g4-1) (k+1,_,_) a _ (by omega) (by first|exact ⟨by omega,by omega,hI2.up hV.psv (by omega) (by omega) (by omega) (by omega) (by omega) (by omega) (by omega) hpot2⟩|exact ⟨by omega,by omega,hI2,hpot2,Bp (P:=P) hfx2 (oP (by omega))⟩) (S.sel [1,2] G G) (H.keep [7,40,2,5,8,32,33,38,39] rfl)
    try simp only [oz] at hc6
    refine wp_skip ?_;refine k29 _ _ ?_;replace H:=H.keep [2,5,7,8,32,33,38,39,40] rfl;refine sO H<|sd (aH G G (by unfold i64ok;omega))<|sr 1 G<|sE ?_;intro a H
    exact k26 (g4-1) (k+1,_,_) a _ (by omega) (by first|exact ⟨by omega,by omega,hI2.up hV.psv (by omega) (by omega) (by omega) (by omega) (by omega) (by omega) (by omega) hpot2⟩|exact ⟨by omega,by omega,hI2,hpot2,Bp (P:=P) hfx2 (oP (by omega))⟩) (S.sel [1,2] G G) (H.keep [7,40,2,5,8,32,33,38,39] rfl)
   refine wp_exit ?_;refine k23 _ _ ?_;refine sO H<|sd (aH G G (by unfold i64ok;omega))<|sr 1 G<|sE ?_;intro a H
   exact k20 (g3-1) (f+1,tk2,m2) a _ (by omega) (⟨by omega,by omega,hI2,hpot2,aEc (P:=P) (by omega) hfx2⟩) (S.sel [0,1] G G) (H.keep [7,33,2,5,32] rfl)
  refine wp_exit ?_;exact k15 (g2-1) (tk1,m1) a _ (by omega) (⟨hI1,by omega,aEe (by omega) hfx1⟩) (S.sel [0,1] G G) (H.keep [7,2,5] rfl)
 try simp only [oz] at hc2
 refine wp_exit ?_;refine k13 _ _ ?_;refine sS H fun K41 k41=>sr 2 G<|sE ?_;intro a H
 refine k41 _ ?_;refine wp_ret ?_;refine ret1 (fn:=Tryz.f80) rfl H rfl ?_;have hmf:mo=false:=by (cases mo <;> simp_all)
 have hok:=hI.done (by omega) (hfx hmf)
 have hdo:=Rw hV.psv (by omega) hok
 replace S:=S.recell (i:=0) rfl (cell':=lcl (dst P ps out help to.toNat)) (fun q j hq hj=>by unfold lcl;rw [kZ hV.psv hok hq]);exact ⟨_,_,rfl,hdo,(S.sel [0] G G)⟩
theorem Bt (P:Nat) (ps:List Psg) (PA:Option Addr) (pc:Nat) (xs:List Int) (XA:Option Addr) (xc:Nat) (out:Int) (help:Bool) (fr to:Int) (w:World) (hps:InS w noF 7 PA ps.length (pcell ps)) (hpn:ps.length≤9223372036854775807) (hxs:InS w noF 1 XA xs.length (icl xs)) (hxn:xs.length≤9223372036854775807) (hV:StV P ps xs) (hou:0≤out) (hfr:0≤fr∧fr<P) (hto:0≤to∧to<P) :
    Calls Tryz.prog 66 [.agg [.int .i64 (P:Int),.slice PA ps.length pc,.slice XA xs.length xc,.int .i64 out,.bool help].toArray,.int .i64 fr,.int .i64 to].toArray w (Ret (fun v w'=>v = .bool (decide (0≤dst P ps out help to.toNat fr.toNat))∧FarOk P ps out help to.toNat (dst P ps out help to.toNat)∧St w noF [] w')):=by
 refine enter Tryz.func66 rfl Tryz.ntmps66 rfl (fun a H=>?_)
 have S:=St.start w
 refine aA fun K1 k1=>?_
 refine aO H rfl S G G ?_;intro b3 _ a hb3 hbw3 S H
 refine ls 1 H<|sr 1 G<|sE ?_;intro a H
 refine k1 _ _ ?_;replace H:=H.keep [1,2,3] rfl;refine aA fun K2 k2=>?_
 refine ls 2 H<|sd ((aD uT wL rfl S (i:=0) G G))<|sr 1 G<|sE ?_;intro a H
 refine aB H G G Tryz.func80 G G (zP P ps PA pc xs XA xc out help to _ (hps.now S) hpn (hxs.now S) hxn hV hou hto) ?_;clear H a
 rintro _ _ a ⟨A5,c5,rfl,hdo,S2⟩ H;replace S:=S.call S2;clear S2;refine ls 5 H<|sr 1 G<|sI aQ aY rfl rfl (aIp S (i:=0) rfl (by omega)) (by omega) (by omega)<|slm aC rfl (aIq S (i:=0) rfl (by omega) (by omega))<|sr 2 G<|sE ?_;intro a H
 refine k2 _ _ ?_;refine wp_ret ?_;refine ret1 (fn:=Tryz.f66) rfl H rfl ?_;exact ⟨rfl,hdo,(S.sel [] G G)⟩
theorem Hp (pl:Int) (ps:List Psg) (PA:Option Addr) (pc:Nat) (xs:List Int) (XA:Option Addr) (xc:Nat) (out:Int) (l:List Int) (LA:Option Addr) (lc:Nat) (w:World) (hps:InS w noF 7 PA ps.length (pcell ps)) (hpn:ps.length≤9223372036854775807) (hxs:InS w noF 1 XA xs.length (icl xs)) (hxn:xs.length≤9223372036854775807) (hl:InS w noF 1 LA l.length (icl l)) (hln:l.length≤9223372036854775807) :
    Calls Tryz.prog 86 [.agg [.int .i64 pl,.slice PA ps.length pc,.slice XA xs.length xc].toArray,.int .i64 out,.slice LA l.length lc].toArray w (Ret (fun v w'=>v = .int .i64 (askE pl ps xs out l)∧St w noF [] w')):=by
 refine enter Tryz.func86 rfl Tryz.ntmps86 rfl (fun a H=>?_)
 have S:=St.start w
 refine aA fun K1 k1=>?_
 refine aO H rfl S G G ?_;intro b3 _ a hb3 hbw3 S H
 refine ls 1 H<|sr 1 G<|sE ?_;intro a H
 refine k1 _ _ ?_;refine wp_seq_k fun K2 k2=>?_
 refine aA fun K3 k3=>?_
 refine ls 1 H<|sd ((aD cE cV rfl S (i:=0) G G))<|sE ?_;intro a H
 refine aB H G G Tryz.func62 G G (qO pl ps PA pc xs XA xc _ (hps.now S) hpn (hxs.now S) hxn) ?_;clear H a
 rintro _ _ a ⟨rfl,S2⟩ H;replace S:=S.call S2;clear S2;refine ls 1 H<|sr 1 G<|sE ?_;intro a H
 refine k3 _ _ ?_;refine sS H fun K4 k4=>sr 2 G<|sE ?_;intro a H
 refine k4 _ ?_;refine condN H rfl (fun hc1=>?_) (fun hc1=>?_)
 ·skip
  refine sS H fun K5 k5=>sr 2 G<|sE ?_;intro a H
  refine k5 _ ?_;refine wp_ret ?_;refine ret1 (fn:=Tryz.f86) rfl H rfl ?_;refine ⟨?_,(S.sel [] G G)⟩;unfold askE;rw [if_pos hc1]
 have hst:stE pl ps xs=0:=by omega
 refine wp_skip ?_;refine k2 _ _ ?_;refine wp_seq_k fun K6 k6=>?_
 replace H:=H.keep [1,2,3] rfl;refine aA fun K7 k7=>?_
 refine ls 1 H<|sr 1 G<|sE ?_;intro a H
 refine aB H G G Tryz.func65 G G (cW _ _ _ _) ?_;clear H a
 rintro _ _ a ⟨rfl,rfl⟩ H;refine ls 2 H<|sr 2 G<|sE ?_;intro a H
 apply dV (i:=3) (g:=16) (t:=20) (b:=false) 4 H S G G (by kernel_rfl) (by kernel_rfl) G G
 case h1=>
  intro hg4;refine ls 2 H<|sy hg4<|sd ((aD cE cV rfl S (i:=0) G G))<|sy hg4<|sr 1 G<|sE ?_;intro a H
  refine eV H G G (by assumption) ?_
  refine aB H G G Tryz.func64 G G (xG pl ps PA pc xs XA xc l LA lc _ (hl.now S) hln (by have:=(gR hst).size;omega)) ?_
  rintro _ _ a ⟨rfl,S2⟩ H;replace S:=S.call S2;clear S2;refine ls 1 H<|sy hg4<|sr 1 G<|sE ?_;intro a H
  exact wpList_nil ⟨H.strip 4 G G,(S.sel [0] G G)⟩
 clear H a S;intro a _ H S;refine ls 1 H<|so G G G<|sE ?_;intro a H
 refine k7 _ _ ?_;refine aU H rfl (fun hc2=>?_) (fun hc2=>?_)
 ·skip
  try simp only [oz] at hc2
  replace H:=H.keep [] rfl;refine sS H fun K8 k8=>sr 1 G<|sE ?_;intro a H
  refine k8 _ ?_;refine wp_ret ?_;refine ret1 (fn:=Tryz.f86) rfl H rfl ?_;refine ⟨?_,(S.sel [] rfl rfl)⟩;unfold askE;rw [if_neg (by omega),if_neg (by simp only [Bool.and_eq_true,decide_eq_true_eq];rcases hc2 with h|h <;> first|(intro h9;omega)|(rw [h];simp))]
 try simp only [oz] at hc2
 refine wp_skip ?_;refine k6 _ _ ?_;refine sS H fun K9 k9=>sr 1 G<|sE ?_;intro a H
 refine k9 _ ?_;refine wp_ret ?_;refine ret1 (fn:=Tryz.f86) rfl H rfl ?_;refine ⟨?_,(S.sel [] G G)⟩;unfold askE;rw [if_neg (by omega),if_pos (by simp only [Bool.and_eq_true,decide_eq_true_eq];exact ⟨by omega,hc2.2⟩)]
theorem Dw (pl:Int) (ps:List Psg) (PA:Option Addr) (pc:Nat) (xs:List Int) (XA:Option Addr) (xc:Nat) (out:Int) (help:Bool) (fr to:Int) (w:World) (hps:InS w noF 7 PA ps.length (pcell ps)) (hpn:ps.length≤9223372036854775807) (hxs:InS w noF 1 XA xs.length (icl xs)) (hxn:xs.length≤9223372036854775807) :
    Calls Tryz.prog 72 [.agg [.int .i64 pl,.slice PA ps.length pc,.slice XA xs.length xc].toArray,.int .i64 out,.bool help,.int .i64 fr,.int .i64 to].toArray w (Ret (fun u w'=>(askE pl ps xs out [fr,to]≠0∧u = .tuple #[.int .i64 0,.slice none 0 0,.int .i64 (askE pl ps xs out [fr,to])]∧St w noF [] w')∨(askE pl ps xs out [fr,to]=0∧FarOk pl.toNat ps out help to.toNat (dst pl.toNat ps out help to.toNat)∧((dst pl.toNat ps out help to.toNat fr.toNat<0∧u = .tuple #[.int .i64 0,.slice none 0 0,.int .i64 3]∧St w noF [] w')∨(0≤dst pl.toNat ps out help to.toNat fr.toNat∧∃ A c,u = .tuple #[.int .i64 (dst pl.toNat ps out help to.toNat fr.toNat),.slice A (wayL pl.toNat ps out help fr.toNat to.toNat).length c,.int .i64 0]∧St w noF [ownM 3 1 A (wayL pl.toNat ps out help fr.toNat to.toNat).length c (wcl (wayL pl.toNat ps out help fr.toNat to.toNat))] w'))))):=by
 refine enter Tryz.func72 rfl Tryz.ntmps72 rfl (fun a H=>?_)
 have S:=St.start w
 refine aA fun K1 k1=>?_
 refine aO H rfl S G G ?_;intro b5 _ a hb5 hbw5 S H
 refine ls 3 H<|sr 3 G<|sE ?_;intro a H
 refine k1 _ _ ?_;refine wp_seq_k fun K2 k2=>?_
 replace H:=H.keep [1,2,3,4,5,11] rfl;refine aA fun K3 k3=>?_
 refine ls 4 H<|sd ((aD cE cV rfl S (i:=0) G G))<|sr 3 G<|sE ?_;intro a H
 refine aK H rfl S aQ aY eF G G G G G G G G G ?_;intro A1 _ a hA1 S H
 refine aB H G G Tryz.func86 G G (Hp pl ps PA pc xs XA xc out [fr,to] _ _ _ (hps.now S) hpn (hxs.now S) hxn ((aIr S (i:=0) rfl).congr (fun k j hk hj=>tM k j hk hj)) (show 2≤9223372036854775807 by omega)) ?_;clear H a
 rintro _ _ a ⟨rfl,S2⟩ H;replace S:=S.call S2;clear S2;refine ls 1 H<|sr 1 G<|sE ?_;intro a H
 refine k3 _ _ ?_;refine sS H fun K4 k4=>sr 2 G<|sE ?_;intro a H
 refine k4 _ ?_;refine condN H rfl (fun hc1=>?_) (fun hc1=>?_)
 ·skip
  replace H:=H.keep [12] rfl;refine sS H fun K5 k5=>sr 4 G<|sE ?_;intro a H
  refine k5 _ ?_;refine wp_ret ?_;refine ret3 (fn:=Tryz.f72) rfl H G G G ?_;exact .inl ⟨hc1,rfl,(S.sel [] G G)⟩
 obtain ⟨hst,hou,hpl⟩:=Ka hc1;have hV0:=gR hst;obtain ⟨P,rfl⟩:∃ P:Nat,pl=P:=⟨pl.toNat,by have:=hV0.size;omega⟩;have hV:=hV0;have hP10:=hV.size;have hfr:0≤fr∧fr≤P-1:=hpl 0 (show 0<2 by omega);have hto:0≤to∧to≤P-1:=hpl 1 (show 1<2 by omega);obtain ⟨fr,rfl⟩:=Int.eq_ofNat_of_zero_le hfr.1;obtain ⟨to,rfl⟩:=Int.eq_ofNat_of_zero_le hto.1;refine wp_skip ?_;refine k2 _ _ ?_;replace H:=H.keep [1,2,3,4,5,11] rfl;refine aA fun K6 k6=>?_
 refine ls 4 H<|sd ((aD cE cV rfl S (i:=1) G G))<|sr 2 G<|sd (aN Rj G G)<|sE ?_;intro a H
 refine aM H rfl S Ra ?_;intro b13 _ a hb13 hbw13 S H
 refine aI H S (i:=0) G G G G wL G G ?_
 clear H a S;intro _ a S H;refine k6 _ _ ?_;replace H:=H.keep [3,4,5,11,13] rfl;refine aA fun K7 k7=>?_
 refine ls 2 H<|sd ((aD uT wL rfl S (i:=0) G G))<|sr 1 G<|sE ?_;intro a H
 refine aB H G G Tryz.func80 G G (zP P ps PA pc xs XA xc out help (to:Int) _ (hps.now S) hpn (hxs.now S) hxn hV hou.1 (by omega)) ?_;clear H a
 rintro _ _ a ⟨A5,c5,rfl,hdo,S2⟩ H;replace S:=S.call S2;clear S2;rw [Int.toNat_natCast] at hdo S;refine ls 1 H<|sr 1 G<|sE ?_;intro a H
 refine k7 _ _ ?_;refine wp_seq_k fun K8 k8=>?_
 refine sS H fun K9 k9=>sr 2 G<|si aQ aY G G (aIp S (i:=0) rfl (by omega)) (by omega)<|slm aC rfl (aIq S (i:=0) rfl (by omega) (by omega))<|sr 1 G<|sE ?_;intro a H
 refine k9 _ ?_;refine condL H rfl (fun hc2=>?_) (fun hc2=>?_)
 ·skip
  replace H:=H.keep [] rfl;refine sS H fun K10 k10=>sr 3 G<|sE ?_;intro a H
  refine k10 _ ?_;refine wp_ret ?_;refine ret3 (fn:=Tryz.f72) rfl H G G G ?_;simp only [Int.toNat_natCast];exact .inr ⟨hc1,hdo,.inl ⟨hc2,trivial,(S.sel [] G G)⟩⟩
 refine wp_skip ?_;refine k8 _ _ ?_;refine wp_seq_k fun K11 k11=>?_
 refine sS H fun K12 k12=>sr 2 G<|sE ?_;intro a H
 refine k12 _ ?_;refine wp_block ?_;replace S:=S.newNil 3 1 (wcl []);refine loop_st (X:=Nat×List Nat×Option Addr×Nat) (R0:=_) [3,4,5,13,14] H rfl (fun ⟨p,wl,A9,c9⟩=>[(11,.slice A9 wl.length c9),(15,.int .i64 (p:Int))]) (fun ⟨p,wl,A9,c9⟩=>[ownM 3 1 A9 wl.length c9 (wcl wl)]) (fun g ⟨p,wl,A9,c9⟩=>p<P∧0≤dst P ps out help to p∧dst P ps out help to p≤(g:Int)∧wl++wayG ps out help (dst P ps out help to) to g p=wayL P ps out help fr to) ((dst P ps out help to fr).toNat) (fr,[],none,0) ?_ (S.sel [0,1,2,3,4] G G) (H.keep [11,15,3,4,5,13,14] rfl) ?_
 · exact ⟨by omega,by omega,by omega,rfl⟩
 clear H S a;intro g1 x1 a w1 hp S H K13 k13;obtain ⟨p,wl,A9,c9⟩:=x1;dsimp only at hp S H;obtain ⟨hpP,hp0,hpg,hW⟩:=hp;refine wp_seq_k fun K14 k14=>?_
 refine sS H fun K15 k15=>sr 3 G<|sE ?_;intro a H
 refine k15 _ ?_;refine condN H rfl (fun hc3=>?_) (fun hc3=>?_)
 ·skip
  refine wp_skip ?_;refine k14 _ _ ?_;refine wp_block ?_;refine sS H fun K16 k16=>sf dZ rfl<|sl S 4 fF G G G<|sL eT rfl<|sr 1 G<|sE ?_;intro a H
  refine k16 _ ?_;refine wp_block ?_;refine loop_st (X:=Nat) (R0:=_) [3,4,5,13,14,45,46] H rfl (fun k=>[(11,.slice A9 wl.length c9),(15,.int .i64 (p:Int)),(47,.int .i64 (k:Int))]) (fun k=>[]) (fun g k=>k≤ps.length∧g+k=ps.length∧∀ q,q<k→stepB ps out help (dst P ps out help to) p q=false) (ps.length) 0 ?_ (S.sel [0,1,2,3,4] G G) (H.keep [11,15,47,3,4,5,13,14,45,46] rfl) ?_
  · exact ⟨by omega,by omega,fun q hq=>absurd hq (Nat.not_lt_zero q)⟩
  clear H S a;intro g2 x2 a w2 hp S H K17 k17;obtain ⟨k,rfl⟩:∃ y,y=x2:=⟨_,rfl⟩;refine sS H fun K18 k18=>sr 1 G<|sE ?_;intro a H
  refine k18 _ ?_;refine wp_seq_k fun K19 k19=>?_
  refine condL H rfl (fun hc4=>?_) (fun hc4=>?_)
  ·skip
   refine wp_skip ?_;refine k19 _ _ ?_;refine wp_seq_k fun K20 k20=>?_
   refine wp_block ?_;refine aA fun K21 k21=>?_
   refine ls 3 H<|sr 1 G<|si eT dH G G (hps.adr (by omega)) (by omega)<|sd ((aV fV dH rfl S hps (by omega) (by omega)))<|sE ?_;intro a H
   refine aM H rfl S kW ?_;intro b17 _ a hb17 hbw17 S H
   refine ls 1 H<|sr 1 G<|sE ?_;intro a H
   refine aI H S (i:=0) G G G G dH G G ?_
   clear H a S;intro _ a S H;refine k21 _ _ ?_;replace H:=H.keep [3,4,5,11,13,14,15,16,17,45,46,47] rfl;refine aA fun K22 k22=>?_
   refine ls 3 H<|sd ((aD uT wL rfl S (i:=3) G G))<|sd ((aD fV dH rfl S (i:=0) G G))<|sr 1 G<|sE ?_;intro a H
   refine aB H G G Tryz.func87 G G (uH P ps PA pc xs XA xc out help (ps.getD k aJj) (p:Int) _ (hV.mch k (by omega)) hou.1) ?_;clear H a
   rintro _ _ a ⟨rfl,S2⟩ H;replace S:=S.call S2;clear S2;have hoi:0≤oth out help (ps.getD k aJj) (p:Int)→oth out help (ps.getD k aJj) (p:Int)<P:=fun h=>(oO hV.psv (show k<ps.length by omega) h).2.1
   have htb:=(hV.psv k (by omega)).2.2
   refine ls 1 H<|sr 1 G<|sE ?_;intro a H
   refine k22 _ _ ?_;replace H:=H.keep [3,4,5,11,13,14,15,16,17,18,45,46,47] rfl;replace S:=S.drew
   refine sD H fun K23 k23=>sr 3 G<|sg 5 2 58 63 true G G (fun hg3=>by
       have hq3:=hg3;try simp only [oz] at hq3
       exact sy hg3<|sr 1 G<|sy hg3<|sr 1 G<|sy hg3<|sI aQ aY G G (aIp S (i:=2) rfl (by omega)) (by omega) (by omega)<|sy hg3<|slm aC rfl (aIq S (i:=2) rfl (by omega) (by omega))<|sy hg3<|sr 1 G<|sz 5 G G G)<|sa G G G<|sr 1 G<|sg 12 9 65 77 true G G (fun hg10=>by
       have hq10:=hg10;try simp only [oz] at hq10
       have hsm:=hdo.sml (oth out help (ps.getD k aJj) p).toNat (by omega)
       exact sy hg10<|sr 1 G<|sy hg10<|sr 1 G<|sy hg10<|sI aQ aY G G (aIp S (i:=2) rfl (by omega)) (by omega) (by omega)<|sy hg10<|slm aC rfl (aIq S (i:=2) rfl (by omega) (by omega))<|sy hg10<|sf iW rfl<|sy hg10<|sl S 0 aC G G G<|sy hg10<|sd (aH G G (by unfold i64ok;omega))<|sy hg10<|sr 1 G<|sy hg10<|sr 1 G<|sy hg10<|si aQ aY G G (aIp S (i:=2) rfl (by omega)) (by omega)<|sy hg10<|slm aC rfl (aIq S (i:=2) rfl (by omega) (by omega))<|sy hg10<|sr 1 G<|sz 12 G G G)<|sa G G G<|sE ?_;intro a H
   refine k23 _ ?_;refine aU H rfl (fun hc5=>?_) (fun hc5=>?_)
   ·skip
    try simp only [oz] at hc5
    have hsb:=Yx hc5
    obtain ⟨b,hb,hbP,hb0,hbd,hbt⟩:=Jz hV.psv (by omega) hsb;have hsk:=Jy hp.2.2 hsb (by omega);have hwl:wl.length≤200:=by have:=Dr (ps:=ps) (out:=out) (help:=help) (d:=dst P ps out help to) (to:=to) (dst P ps out help to fr).toNat fr;have h8:=hdo.sml fr (by omega);have h9:=congrArg List.length hW;rw [List.length_append] at h9;unfold wayL at h9;omega
    rw [hb] at H;replace H:=H.keep [3,4,5,11,13,14,16,18] rfl;refine aA fun K24 k24=>?_
    refine ls 2 H<|sr 2 G<|sE ?_;intro a H
    refine aK H rfl S aQ aY eF G G G G G G G G G ?_;intro A2 _ a hA2 S H
    refine aT H rfl S aQ aY eF lU G G (i:=2) G G G (aIr S (i:=0) rfl) (gQ (w8one rfl)) (by omega) (by omega) ?_;intro A3 c3 _ a S H
    replace S:=S.recell (i:=2) rfl (cell':=wcl (wl++[k])) (fun k j hk hj=>wW rfl k j hk hj);rw [show wl.length+1=(wl++[k]).length by simp] at H S;refine ls 1 H<|sr 1 G<|sE ?_;intro a H
    refine k24 _ _ ?_;refine sS H fun K25 k25=>sr 2 G<|sE ?_;intro a H
    refine k25 _ ?_;refine wp_exit ?_;exact k13 (g1-1) (b,wl++[k],_,_) a _ (by omega) (⟨hbP,hb0,by omega,Ds hW (by omega) (by omega) hsk hb⟩) (S.sel [2,3,4,5,6] G G) (H.keep [11,15,3,4,5,13,14] rfl)
   try simp only [oz] at hc5
   refine wp_skip ?_;refine k20 _ _ ?_;refine sO H<|sd (aH G G (by unfold i64ok;omega))<|sr 1 G<|sE ?_;intro a H
   exact k17 (g2-1) (k+1) a _ (by omega) (⟨by omega,by omega,vF hp.2.2 (Yy hc5)⟩) (S.sel [1,2,3,4,5] G G) (H.keep [11,15,47,3,4,5,13,14,45,46] rfl)
  exfalso
  obtain ⟨h91,h92,h93⟩:=hdo.stp hV.psv hpP hp0 (by omega);rw [hp.2.2 _ (by omega)] at h92;cases h92
 refine wp_exit ?_;refine k11 _ _ ?_;replace H:=H.keep [3,11,14] rfl;refine sS H fun K27 k27=>sr 2 G<|si aQ aY G G (aIp S (i:=1) rfl (by omega)) (by omega)<|slm aC rfl (aIq S (i:=1) rfl (by omega) (by omega))<|sr 4 G<|sE ?_;intro a H
 refine k27 _ ?_;refine wp_ret ?_;refine ret3 (fn:=Tryz.f72) rfl H rfl rfl rfl ?_;obtain rfl:p=to:=by omega
 have hw9:=Kb hW
 simp only [Int.toNat_natCast]
 rw [←hw9];exact .inr ⟨hc1,hdo,.inr ⟨hc2,_,_,rfl,(S.sel [0] G G)⟩⟩
end
section
section
variable {ps:List Psg} {out:Int} {help:Bool} {l:List Int} {a b:Int} {k:Nat} {s:Int×Int}
end
section
variable {P:Nat} {ps:List Psg} {xs:List Int} {out:Int} {help:Bool} {fr to:Nat} {l:List Int}
end
structure Hr where
 out:Int
 help:Bool
 pe:List Int
 A:Option Addr
 c:Nat
def aJr:Hr:=⟨0,false,[],none,0⟩
def Hr.cell (h:Hr):Nat→Value
 | 0 => .int .i64 h.out
 | 1 => .bool h.help
 | _ => .slice h.A h.pe.length h.c
structure Hq where
 out:Int
 help:Bool
 pe:List Int
def aJq:Hq:=⟨0,false,[]⟩
def Hr.q (h:Hr):Hq:=⟨h.out,h.help,h.pe⟩
def hcl (l:List Hq) (DA:Nat→Option Addr) (dc:Nat→Nat) (k:Nat):Nat→Value
 | 0 => .int .i64 (l.getD k aJq).out
 | 1 => .bool (l.getD k aJq).help
 | _ => .slice (DA k) (l.getD k aJq).pe.length (dc k)
structure Prm where
 fr:Int
 to:Int
 first:Int
 last:Int
 helped:Bool
def aJn:Prm:=⟨0,0,0,0,false⟩
def Prm.cell (p:Prm):Nat→Value
 | 0 => .int .i64 p.fr
 | 1 => .int .i64 p.to
 | 2 => .int .i64 p.first
 | 3 => .int .i64 p.last
 | _ => .bool p.helped
def dM (l:List Prm) (k j:Nat):Value:=(l.getD k aJn).cell j
theorem Hs (l:List Prm):∀ k j,k<l.length→j<5→(dM l k j).oneCell'=true:=fun k j _ _=>by
 unfold dM Prm.cell
 split <;> rfl
def hqOk (pl:Int) (h:Hq):Bool:=decide (0≤h.out∧h.out≤4095)&&fQ pl h.pe
def dayOk (pl:Int) (day:List Hq):Bool:=allN (fun k=>hqOk pl (day.getD k aJq)) day.length&&decide (day.length≤48)
def dayE (pl:Int) (ps:List Psg) (xs:List Int) (day:List Hq):Int:=if stE pl ps xs≠0 then stE pl ps xs else if dayOk pl day=true then 0 else 81
def prmOk (pl:Int) (p:Prm):Bool:=decide (0≤p.fr∧p.fr≤pl-1∧0≤p.to∧p.to≤pl-1∧0≤p.first∧p.first≤p.last∧p.last<48)
def prsOk (pl:Int) (l:List Prm):Bool:=allN (fun k=>prmOk pl (l.getD k aJn)) l.length&&decide (l.length≤40)
def keptE (pl:Int) (ps:List Psg) (xs:List Int) (day:List Hq) (l:List Prm):Int:=if dayE pl ps xs day≠0 then dayE pl ps xs day else if prsOk pl l=true then 0 else 82
theorem rW {pl:Int} {ps:List Psg} {xs:List Int} {day:List Hq} (h:dayE pl ps xs day=0):stE pl ps xs=0∧dayOk pl day=true:=by
  unfold dayE at h
  split at h
  · omega
  · split at h
    · exact ⟨by omega,by assumption⟩
    · cases h
theorem Ss {pl:Int} {day:List Hq} (h:dayOk pl day=true):day.length≤48∧∀ k,k<day.length→(0≤(day.getD k aJq).out∧(day.getD k aJq).out≤4095)∧fQ pl (day.getD k aJq).pe=true:=by
 unfold dayOk at h
 simp only [Bool.and_eq_true,decide_eq_true_eq] at h
 refine ⟨h.2,fun k hk=>?_⟩
 have:=bS.1 h.1 k hk
 unfold hqOk at this
 simpa using this
theorem rX {pl:Int} {ps:List Psg} {xs:List Int} {day:List Hq} {l:List Prm} (h:keptE pl ps xs day l=0):dayE pl ps xs day=0∧l.length≤40∧∀ k,k<l.length→prmOk pl (l.getD k aJn)=true:=by
  unfold keptE at h
  split at h
  · omega
  · split at h
    · rename_i h1 h2
      unfold prsOk at h2
      simp only [Bool.and_eq_true,decide_eq_true_eq] at h2
      exact ⟨by omega,h2.2,bS.1 h2.1⟩
    · cases h
theorem pK {pl:Int} {p:Prm}:prmOk pl p=true↔(0≤p.fr∧p.fr≤pl-1∧0≤p.to∧p.to≤pl-1∧0≤p.first∧p.first≤p.last∧p.last<48):=by unfold prmOk;rw [decide_eq_true_eq]
noncomputable def hH (P:Nat) (ps:List Psg) (h:Hq) (n:Nat) (p:Prm):Bool:=(decide (p.first≤(n:Int))&&decide ((n:Int)≤p.last))&&decide (dst P ps h.out (h.help&&p.helped) p.to.toNat p.fr.toNat<0)
noncomputable def rY (P:Nat) (ps:List Psg) (day:List Hq) (l:List Prm) (h:Nat):Nat:=fstB (fun i=>hH P ps (day.getD h aJq) h (l.getD i aJn)) l.length
noncomputable def xH (P:Nat) (ps:List Psg) (day:List Hq) (l:List Prm):Nat:=fstB (fun h=>decide (rY P ps day l h<l.length)) day.length
noncomputable def keptV (pl:Int) (ps:List Psg) (xs:List Int) (day:List Hq) (l:List Prm):Int×Int×Bool×Int:=
 if keptE pl ps xs day l≠0 then (0,0,false,keptE pl ps xs day l)
 else if xH pl.toNat ps day l<day.length then ((xH pl.toNat ps day l:Int),(rY pl.toNat ps day l (xH pl.toNat ps day l):Int),false,0) else (0,0,true,0)
section
variable {P:Nat} {ps:List Psg} {xs:List Int} {day:List Hq} {l:List Prm} {h i:Nat}
theorem rZ {pl:Int} (he:keptE pl ps xs day l≠0):keptV pl ps xs day l=(0,0,false,keptE pl ps xs day l):=by unfold keptV;rw [if_pos he]
theorem Zd (he:keptE P ps xs day l=0) (hh:h<day.length) (hi:i<l.length) (h1:∀ q,q<h→∀ j,j<l.length→hH P ps (day.getD q aJq) q (l.getD j aJn)=false) (h2:∀ j,j<i→hH P ps (day.getD h aJq) h (l.getD j aJn)=false)
  (hb:hH P ps (day.getD h aJq) h (l.getD i aJn)=true):keptV P ps xs day l=((h:Int),(i:Int),false,0):=by
 have e1:rY P ps day l h=i:=Bm h2 hb hi
 have e2:xH P ps day l=h:=Bm (fun q hq=>decide_eq_false (by unfold rY;rw [kY (h1 q hq)];omega)) (decide_eq_true (by rw [e1];exact hi)) hh
 unfold keptV
 rw [if_neg (by omega),Int.toNat_natCast,e2,if_pos hh,e1]
theorem Su (he:keptE P ps xs day l=0) (h1:∀ q,q<day.length→∀ j,j<l.length→hH P ps (day.getD q aJq) q (l.getD j aJn)=false):keptV P ps xs day l=(0,0,true,0):=by
 have e2:xH P ps day l=day.length:=kY (fun q hq=>decide_eq_false (by unfold rY;rw [kY (h1 q hq)];omega))
 unfold keptV
 rw [if_neg (by omega),Int.toNat_natCast,e2,if_neg (by omega)]
theorem xI {pl:Int} {k:Nat} (hk:k<day.length) (hx:hqOk pl (day.getD k aJq)=false):dayOk pl day=false:=by unfold dayOk;rw [iG hk hx];rfl
theorem Dx {pl:Int} (h1:allN (fun k=>hqOk pl (day.getD k aJq)) day.length=true):dayOk pl day=decide (day.length≤48):=by unfold dayOk;rw [h1];rfl
theorem My (h1:∀ q,q<h→∀ j,j<l.length→hH P ps (day.getD q aJq) q (l.getD j aJn)=false) (h2:∀ j,j<i→hH P ps (day.getD h aJq) h (l.getD j aJn)=false) (hi:l.length≤i) :
  ∀ q,q<h+1→∀ j,j<l.length→hH P ps (day.getD q aJq) q (l.getD j aJn)=false:=fun q hq j hj=>by
 by_cases e:q=h
 ·subst e;exact h2 j (by omega)
 ·exact h1 q (by omega) j hj
theorem Ze {f:Nat→Bool} (h:∀ j,j<i→f j=false) (hi:f i=false):∀ j,j<i+1→f j=false:=fun j hj=>by
 by_cases e:j=i
 ·subst e;exact hi
 ·exact h j (by omega)
end
section
variable {w w0:World} {F0:Nat→Prop} {R:List Mem} {e sz i k:Nat} {A:Nat→Option Addr} {n c:Nat→Nat} {cell:Nat→Nat→Nat→Value}
end
def w8exW:List Psg:=[⟨0,1,2,3,2,-1,0⟩,⟨0,1,3,2,3,0,4⟩,⟨0,1,4,5,1,1,0⟩,⟨1,2,1,1,4,-1,0⟩,⟨2,3,5,2,1,-1,0⟩]
def exX:List Int:=[2]
def w8exP:List Int:=[10,0,0,0]
theorem aEg:stE 4 w8exW exX=0:=by decide +kernel
theorem exV:StV ((4:Nat):Int) w8exW exX:=gR aEg
end
section
theorem xJ {pl a b:Int}:plOk pl [a,b]=true↔(0≤a∧a≤pl-1)∧(0≤b∧b≤pl-1):=by
  unfold plOk
  rw [bS];constructor
  · intro h
    have h0:=h 0 (show 0<2 by omega)
    have h1:=h 1 (show 1<2 by omega)
    exact ⟨of_decide_eq_true h0,of_decide_eq_true h1⟩
  · rintro ⟨h0,h1⟩ k hk
    match k,hk with
    | 0,_=>exact decide_eq_true h0
    | 1,_=>exact decide_eq_true h1
theorem Ht {pl a b:Int} (h:plOk pl [a,b]=false):¬ ((0≤a∧a≤pl-1)∧(0≤b∧b≤pl-1)):=fun h2=>by rw [xJ.2 h2] at h;cases h
section
variable {pl:Int} {ps:List Psg} {xs:List Int} {day:List Hq} {l:List Prm}
theorem xK (h:stE pl ps xs≠0):keptE pl ps xs day l=stE pl ps xs:=by
 have:dayE pl ps xs day=stE pl ps xs:=by unfold dayE;rw [if_pos h]
 unfold keptE;rw [this,if_pos h]
theorem zQ (h:stE pl ps xs=0) (hd:dayOk pl day=false):keptE pl ps xs day l=81:=by
 have:dayE pl ps xs day=81:=by unfold dayE;rw [if_neg (by omega),if_neg (by rw [hd];simp)]
 unfold keptE;rw [this];rfl
theorem zR (h:stE pl ps xs=0) (hd:dayOk pl day=true):dayE pl ps xs day=0:=by unfold dayE;rw [if_neg (by omega),if_pos hd]
theorem pL (h:dayE pl ps xs day=0) (hd:prsOk pl l=false):keptE pl ps xs day l=82:=by unfold keptE;rw [if_neg (by omega),if_neg (by rw [hd];simp)]
theorem xL (h:dayE pl ps xs day=0) (hd:prsOk pl l=true):keptE pl ps xs day l=0:=by unfold keptE;rw [if_neg (by omega),if_pos hd]
theorem Dy (h:¬ l.length≤40):prsOk pl l=false:=by unfold prsOk;rw [decide_eq_false h,Bool.and_false]
theorem Kf {k:Nat} (hk:k<l.length) (h:prmOk pl (l.getD k aJn)=false):prsOk pl l=false:=by unfold prsOk;rw [iG hk h];rfl
theorem Kg (h:allN (fun k=>prmOk pl (l.getD k aJn)) l.length=true) (h2:l.length≤40):prsOk pl l=true:=by unfold prsOk;rw [h,decide_eq_true h2];rfl
theorem Sv {p:Prm} (h:¬ (0≤p.fr∧p.fr≤pl-1∧0≤p.to∧p.to≤pl-1∧0≤p.first∧p.first≤p.last∧p.last<48)):prmOk pl p=false:=by unfold prmOk;exact decide_eq_false h
theorem Sw {P:Nat} {h:Hq} {n:Nat} {p:Prm} (h1:p.first≤(n:Int)∧(n:Int)≤p.last) (h2:dst P ps h.out (h.help&&p.helped) p.to.toNat p.fr.toNat<0):hH P ps h n p=true:=by
 unfold hH;rw [decide_eq_true h1.1,decide_eq_true h1.2,decide_eq_true h2];rfl
theorem Mz {P:Nat} {h:Hq} {n:Nat} {p:Prm} (h1:¬ (p.first≤(n:Int)∧(n:Int)≤p.last)):hH P ps h n p=false:=by
 unfold hH
 by_cases h2:p.first≤(n:Int)
 ·rw [decide_eq_false (p:=(n:Int)≤p.last) (by omega),Bool.and_false];rfl
 ·rw [decide_eq_false h2];rfl
theorem Na {P:Nat} {h:Hq} {n:Nat} {p:Prm} (h2:¬ dst P ps h.out (h.help&&p.helped) p.to.toNat p.fr.toNat<0):hH P ps h n p=false:=by
 unfold hH;rw [decide_eq_false h2,Bool.and_false]
end
theorem Hu (pl:Int) (ps:List Psg) (PA:Option Addr) (pc:Nat) (xs:List Int) (XA:Option Addr) (xc:Nat) (day:List Hq) (HA:Option Addr) (hcp:Nat) (DA:Nat→Option Addr) (dc:Nat→Nat) (w:World) (hps:InS w noF 7 PA ps.length (pcell ps)) (hpn:ps.length≤9223372036854775807) (hxs:InS w noF 1 XA xs.length (icl xs)) (hxn:xs.length≤9223372036854775807) (hday:InS w noF 3 HA day.length (hcl day DA dc)) (hdn:day.length≤9223372036854775807) (hdp:∀ k,k<day.length→InS w noF 1 (DA k) (day.getD k aJq).pe.length (icl (day.getD k aJq).pe)) (hdl:∀ k,k<day.length→(day.getD k aJq).pe.length≤9223372036854775807) :
    Calls Tryz.prog 63 [.agg [.int .i64 pl,.slice PA ps.length pc,.slice XA xs.length xc].toArray,.slice HA day.length hcp].toArray w (Ret (fun v w'=>v = .bool (dayOk pl day)∧St w noF [] w')):=by
 refine enter Tryz.func63 rfl Tryz.ntmps63 rfl (fun a H=>?_)
 have S:=St.start w
 refine aA fun K1 k1=>?_
 refine aO H rfl S G G ?_;intro b2 _ a hb2 hbw2 S H
 refine ls 1 H<|sr 1 G<|sE ?_;intro a H
 refine k1 _ _ ?_;refine wp_seq_k fun K2 k2=>?_
 refine sS H fun K3 k3=>sr 1 G<|sL lT rfl<|sr 1 G<|sE ?_;intro a H
 refine k3 _ ?_;refine wp_block ?_;refine loop_st (X:=Nat) (R0:=_) [1,2,7,8] H rfl (fun k=>[(9,.int .i64 (k:Int))]) (fun k=>[]) (fun g k=>k≤day.length∧g+k=day.length∧allN (fun k=>hqOk pl (day.getD k aJq)) k=true) (day.length) 0 ?_ (S.sel [0] G G) (H.keep [9,1,2,7,8] rfl) ?_
 · exact ⟨by omega,by omega,rfl⟩
 clear H S a;intro g1 x1 a w1 hp S H K4 k4;obtain ⟨k,rfl⟩:∃ y,y=x1:=⟨_,rfl⟩;refine sS H fun K5 k5=>sr 1 G<|sE ?_;intro a H
 refine k5 _ ?_;refine wp_seq_k fun K6 k6=>?_
 refine condL H rfl (fun hc1=>?_) (fun hc1=>?_)
 ·skip
  refine wp_skip ?_;refine k6 _ _ ?_;refine wp_seq_k fun K7 k7=>?_
  refine wp_block ?_;refine aA fun K8 k8=>?_
  refine ls 2 H<|si lT mX G G (hday.adr (by omega)) (by omega)<|sd ((aV Jp mX rfl S hday (by omega) (by omega)))<|sE ?_;intro a H
  refine aM H rfl S Qz ?_;intro b6 _ a hb6 hbw6 S H
  refine aI H S (i:=0) G G G G mX G G ?_
  clear H a S;intro _ a S H;refine k8 _ _ ?_;replace H:=H.keep [1,2,6,7,8,9] rfl;refine aA fun K9 k9=>?_
  refine ls 2 H<|sf rQ rfl<|sl S 0 aC G G G<|sE ?_;intro a H
  refine aB H G G Tryz.func65 G G (cW _ _ _ _) ?_;clear H a
  rintro _ _ a ⟨rfl,rfl⟩ H;refine ls 2 H<|sr 2 G<|sE ?_;intro a H
  apply dV (i:=4) (g:=17) (t:=22) (b:=false) 5 H S G G (by kernel_rfl) (by kernel_rfl) G G
  case h1=>
   intro hg5;have hq5:=hg5;try simp only [oz] at hq5
   refine ls 3 H<|sy hg5<|sd ((aD cE cV rfl S (i:=1) G G))<|sy hg5<|sf Dg rfl<|sy hg5<|sl S 0 dQ G G G<|sE ?_;intro a H
   refine eV H G G (by assumption) ?_
   refine aB H G G Tryz.func79 G G (xF pl ps PA pc xs XA xc (day.getD k aJq).pe (DA k) (dc k) _ ((hdp k (by omega)).now S) (hdl k (by omega))) ?_
   rintro _ _ a ⟨rfl,S2⟩ H;replace S:=S.call S2;clear S2;refine ls 1 H<|sy hg5<|sr 1 G<|sE ?_;intro a H
   exact wpList_nil ⟨H.strip 5 G G,(S.sel [0,1] G G)⟩
  clear H a S;intro a _ H S;refine ls 1 H<|so G G G<|sE ?_;intro a H
  refine k9 _ _ ?_;refine aU H rfl (fun hc2=>?_) (fun hc2=>?_)
  ·skip
   try simp only [oz] at hc2
   replace H:=H.keep [] rfl;refine sS H fun K10 k10=>sr 1 G<|sE ?_;intro a H
   refine k10 _ ?_;refine wp_ret ?_;refine ret1 (fn:=Tryz.f63) rfl H rfl ?_;exact ⟨congrArg Value.bool (xI (k:=k) (by omega) (by unfold hqOk;rcases hc2 with h|h;(rw [decide_eq_false (by omega)];rfl);(rw [h,Bool.and_false]))).symm,(S.sel [] rfl rfl)⟩
  try simp only [oz] at hc2
  refine wp_skip ?_;refine k7 _ _ ?_;refine sO H<|sd (aH G G (by unfold i64ok;omega))<|sr 1 G<|sE ?_;intro a H
  exact k4 (g1-1) (k+1) a _ (by omega) (⟨by omega,by omega,dD hp.2.2 (by unfold hqOk;rw [decide_eq_true (by omega),hc2.2];rfl)⟩) (S.sel [1] G G) (H.keep [9,1,2,7,8] rfl)
 refine wp_exit ?_;refine k2 _ _ ?_;refine sS H fun K12 k12=>sr 1 G<|sL lT rfl<|sr 2 G<|sE ?_;intro a H
 refine k12 _ ?_;refine wp_ret ?_;refine ret1 (fn:=Tryz.f63) rfl H rfl ?_;obtain rfl:k=day.length:=by omega
 refine ⟨congrArg Value.bool ?_,(S.sel [] G G)⟩
 rw [Dx hp.2.2];exact decide_eq_decide.2 (by omega)
theorem Nb (pl:Int) (ps:List Psg) (PA:Option Addr) (pc:Nat) (xs:List Int) (XA:Option Addr) (xc:Nat) (day:List Hq) (HA:Option Addr) (hcp:Nat) (DA:Nat→Option Addr) (dc:Nat→Nat) (l:List Prm) (LA:Option Addr) (lc:Nat) (w:World) (hps:InS w noF 7 PA ps.length (pcell ps)) (hpn:ps.length≤9223372036854775807) (hxs:InS w noF 1 XA xs.length (icl xs)) (hxn:xs.length≤9223372036854775807) (hday:InS w noF 3 HA day.length (hcl day DA dc)) (hdn:day.length≤9223372036854775807) (hdp:∀ k,k<day.length→InS w noF 1 (DA k) (day.getD k aJq).pe.length (icl (day.getD k aJq).pe)) (hdl:∀ k,k<day.length→(day.getD k aJq).pe.length≤9223372036854775807) (hl:InS w noF 5 LA l.length (dM l)) (hln:l.length≤9223372036854775807) :
    Calls Tryz.prog 47 [.agg [.int .i64 pl,.slice PA ps.length pc,.slice XA xs.length xc].toArray,.slice HA day.length hcp,.slice LA l.length lc].toArray w (Ret (fun u w'=>u = .tuple #[.int .i64 (keptV pl ps xs day l).1,.int .i64 (keptV pl ps xs day l).2.1,.bool (keptV pl ps xs day l).2.2.1,.int .i64 (keptV pl ps xs day l).2.2.2]∧St w noF [] w')):=by
 refine enter Tryz.func47 rfl Tryz.ntmps47 rfl (fun a H=>?_)
 have S:=St.start w
 refine aA fun K1 k1=>?_
 refine aO H rfl S G G ?_;intro b3 _ a hb3 hbw3 S H
 refine ls 4 H<|sr 4 G<|sE ?_;intro a H
 refine k1 _ _ ?_;refine wp_seq_k fun K2 k2=>?_
 refine aA fun K3 k3=>?_
 refine ls 1 H<|sd ((aD cE cV rfl S (i:=0) G G))<|sE ?_;intro a H
 refine aB H G G Tryz.func62 G G (qO pl ps PA pc xs XA xc _ (hps.now S) hpn (hxs.now S) hxn) ?_;clear H a
 rintro _ _ a ⟨rfl,S2⟩ H;replace S:=S.call S2;clear S2;refine ls 1 H<|sr 1 G<|sE ?_;intro a H
 refine k3 _ _ ?_;replace H:=H.keep [1,2,3,9] rfl;refine sS H fun K4 k4=>sr 2 G<|sE ?_;intro a H
 refine k4 _ ?_;refine condN H rfl (fun hc1=>?_) (fun hc1=>?_)
 ·skip
  refine sS H fun K5 k5=>sr 5 G<|sE ?_;intro a H
  refine k5 _ ?_;refine wp_ret ?_;refine ret4 (fn:=Tryz.f47) rfl H G G G G ?_;rw [rZ (by rw [xK hc1];exact hc1),xK hc1];exact ⟨rfl,(S.sel [] G G)⟩
 have hst:stE pl ps xs=0:=by omega
 have hV0:=gR hst
 obtain ⟨P,rfl⟩:∃ P:Nat,pl=P:=⟨pl.toNat,by have:=hV0.size;omega⟩;have hV:=hV0;have hP10:=hV.size;refine wp_skip ?_;refine k2 _ _ ?_;refine wp_seq_k fun K6 k6=>?_
 replace H:=H.keep [1,2,3] rfl;refine aA fun K7 k7=>?_
 refine ls 2 H<|sd ((aD cE cV rfl S (i:=0) G G))<|sr 1 G<|sE ?_;intro a H
 refine aB H G G Tryz.func63 G G (Hu P ps PA pc xs XA xc day HA hcp DA dc _ (hps.now S) hpn (hxs.now S) hxn (hday.now S) hdn (fun k hk=>(hdp k hk).now S) hdl) ?_;clear H a
 rintro _ _ a ⟨rfl,S2⟩ H;replace S:=S.call S2;clear S2;refine ls 1 H<|sr 1 G<|sE ?_;intro a H
 refine k7 _ _ ?_;refine aU H rfl (fun hc2=>?_) (fun hc2=>?_)
 ·skip
  try simp only [oz] at hc2
  refine sS H fun K8 k8=>sr 4 G<|sE ?_;intro a H
  refine k8 _ ?_;refine wp_ret ?_;refine ret4 (fn:=Tryz.f47) rfl H G G G G ?_;rw [rZ (by rw [zQ hst hc2];decide),zQ hst hc2];exact ⟨rfl,(S.sel [] G G)⟩
 try simp only [oz] at hc2
 have hdE:=zR hst hc2
 have hdk:=Ss hc2
 refine wp_skip ?_;refine k6 _ _ ?_;refine wp_seq_k fun K9 k9=>?_
 replace H:=H.keep [1,2,3] rfl;refine sS H fun K10 k10=>sr 1 G<|sL eX rfl<|sr 1 G<|sE ?_;intro a H
 refine k10 _ ?_;refine condL H rfl (fun hc3=>?_) (fun hc3=>?_)
 ·skip
  refine sS H fun K11 k11=>sr 4 G<|sE ?_;intro a H
  refine k11 _ ?_;refine wp_ret ?_;refine ret4 (fn:=Tryz.f47) rfl H G G G G ?_;have e9:=pL hdE (Dy (l:=l) (by omega));rw [rZ (by rw [e9];decide),e9];exact ⟨rfl,(S.sel [] G G)⟩
 refine wp_skip ?_;refine k9 _ _ ?_;refine wp_seq_k fun K12 k12=>?_
 replace H:=H.keep [1,2,3] rfl;refine sS H fun K13 k13=>sr 1 G<|sL eX rfl<|sr 1 G<|sE ?_;intro a H
 refine k13 _ ?_;refine wp_block ?_;refine loop_st (X:=Nat) (R0:=_) [1,2,3,28,29] H rfl (fun k=>[(30,.int .i64 (k:Int))]) (fun k=>[]) (fun g k=>k≤l.length∧g+k=l.length∧allN (fun k=>prmOk P (l.getD k aJn)) k=true) (l.length) 0 ?_ (S.sel [0] G G) (H.keep [30,1,2,3,28,29] rfl) ?_
 · exact ⟨by omega,by omega,rfl⟩
 clear H S a;intro g1 x1 a w1 hp S H K14 k14;obtain ⟨k,rfl⟩:∃ y,y=x1:=⟨_,rfl⟩;refine sS H fun K15 k15=>sr 1 G<|sE ?_;intro a H
 refine k15 _ ?_;refine wp_seq_k fun K16 k16=>?_
 refine condL H rfl (fun hc4=>?_) (fun hc4=>?_)
 ·skip
  refine wp_skip ?_;refine k16 _ _ ?_;refine wp_seq_k fun K17 k17=>?_
  refine wp_block ?_;refine aA fun K18 k18=>?_
  refine ls 2 H<|si eX eP G G (hl.adr (by omega)) (by omega)<|sd ((aV wK eP rfl S hl (by omega) (by omega)))<|sE ?_;intro a H
  refine aM H rfl S gP ?_;intro b11 _ a hb11 hbw11 S H
  refine aI H S (i:=0) G G G G eP G G ?_
  clear H a S;intro _ a S H;refine k18 _ _ ?_;replace H:=H.keep [1,2,3,11,28,29,30] rfl;refine aA fun K19 k19=>?_
  refine ls 5 H<|sd ((aD cE cV rfl S (i:=1) G G))<|sf nD rfl<|sl S 0 aC G G G<|sf nE rfl<|sl S 0 aC G G G<|sE ?_;intro a H
  refine aK H rfl S aQ aY eF G G G G G G G G G ?_;intro A1 _ a hA1 S H
  refine aB H G G Tryz.func64 G G (xG P ps PA pc xs XA xc [(l.getD k aJn).fr,(l.getD k aJn).to] _ _ _ ((aIr S (i:=0) rfl).congr (fun k j hk hj=>tM k j hk hj)) (show 2≤9223372036854775807 by omega) (by omega)) ?_;clear H a
  rintro _ _ a ⟨rfl,S2⟩ H;replace S:=S.call S2;clear S2
  refine ls 18 H<|sr 2 G<|sg 3 8 42 45 false G G (fun hg9=>by
      have hq9:=hg9;try simp only [oz] at hq9
      exact sy hg9<|sf nF rfl<|sy hg9<|sl S 1 aC G G G<|sy hg9<|sr 1 G<|sz 3 G G G)<|so G G G<|sr 1 G<|sg 5 13 47 52 false G G (fun hg14=>by
      have hq14:=hg14;try simp only [oz] at hq14
      exact sy hg14<|sf lK rfl<|sy hg14<|sl S 1 aC G G G<|sy hg14<|sf nF rfl<|sy hg14<|sl S 1 aC G G G<|sy hg14<|sr 1 G<|sz 5 G G G)<|so G G G<|sr 1 G<|sg 3 20 54 57 false G G (fun hg21=>by
      have hq21:=hg21;try simp only [oz] at hq21
      exact sy hg21<|sf lK rfl<|sy hg21<|sl S 1 aC G G G<|sy hg21<|sr 1 G<|sz 3 G G G)<|so G G G<|sE ?_;intro a H
  refine k19 _ _ ?_;refine aU H rfl (fun hc5=>?_) (fun hc5=>?_)
  ·skip
   try simp only [oz] at hc5
   replace H:=H.keep [] rfl;refine sS H fun K20 k20=>sr 4 G<|sE ?_;intro a H
   refine k20 _ ?_;refine wp_ret ?_;refine ret4 (fn:=Tryz.f47) rfl H rfl rfl rfl rfl ?_;have e9:=pL hdE (Kf (l:=l) (k:=k) (by omega) (Sv (by rcases hc5 with ((h|h)|h)|h;(have:=Ht h;omega);omega;omega;omega)));rw [rZ (by rw [e9];decide),e9];exact ⟨rfl,(S.sel [] rfl rfl)⟩
  try simp only [oz] at hc5
  refine wp_skip ?_;refine k17 _ _ ?_;refine sO H<|sd (aH G G (by unfold i64ok;omega))<|sr 1 G<|sE ?_;intro a H
  exact k14 (g1-1) (k+1) a _ (by omega) (⟨by omega,by omega,dD hp.2.2 (pK.2 (by have h9:=xJ.1 hc5.1.1.1;omega))⟩) (S.sel [2] G G) (H.keep [30,1,2,3,28,29] rfl)
 refine wp_exit ?_;refine k12 _ _ ?_;refine wp_seq_k fun K22 k22=>?_
 refine sS H fun K23 k23=>sr 1 G<|sL lT rfl<|sr 1 G<|sE ?_;intro a H
 refine k23 _ ?_;refine wp_block ?_;have hpr:allN (fun k=>prmOk P (l.getD k aJn)) l.length=true:=by rw [show l.length=k by omega];exact hp.2.2
 have hkE:=xL hdE (Kg hpr (by omega))
 refine loop_st (X:=Nat) (R0:=_) [2,3,60,61] H rfl (fun h=>[(62,.int .i64 (h:Int))]) (fun h=>[]) (fun g h=>h≤day.length∧g+h=day.length∧∀ q,q<h→∀ j,j<l.length→hH P ps (day.getD q aJq) q (l.getD j aJn)=false) (day.length) 0 ?_ (S.sel [0] G G) (H.keep [62,2,3,60,61] rfl) ?_
 · exact ⟨by omega,by omega,fun q hq=>absurd hq (Nat.not_lt_zero q)⟩
 clear H S a;intro g2 x2 a w2 hp S H K24 k24;obtain ⟨h,rfl⟩:∃ y,y=x2:=⟨_,rfl⟩;obtain ⟨hhl,hgh,hB⟩:=hp;refine sS H fun K25 k25=>sr 1 G<|sE ?_;intro a H
 refine k25 _ ?_;refine wp_seq_k fun K26 k26=>?_
 refine condL H rfl (fun hc6=>?_) (fun hc6=>?_)
 ·skip
  have hdo:=hdk.2 h (by omega)
  refine wp_skip ?_;refine k26 _ _ ?_;refine wp_seq_k fun K27 k27=>?_
  refine wp_block ?_;refine aA fun K28 k28=>?_
  refine ls 3 H<|sr 1 G<|si lT mX G G (hday.adr (by omega)) (by omega)<|sd ((aV Jp mX rfl S hday (by omega) (by omega)))<|sE ?_;intro a H
  refine aM H rfl S Qz ?_;intro b13 _ a hb13 hbw13 S H
  refine ls 1 H<|sr 1 G<|sE ?_;intro a H
  refine aI H S (i:=0) G G G G mX G G ?_
  clear H a S;intro _ a S H;refine k28 _ _ ?_;replace H:=H.keep [2,3,12,13,60,61,62] rfl;refine sS H fun K29 k29=>sr 1 G<|sL eX rfl<|sr 1 G<|sE ?_;intro a H
  refine k29 _ ?_;refine wp_block ?_;refine loop_st (X:=Nat) (R0:=_) [2,3,12,13,60,61,62,67,68] H rfl (fun i=>[(69,.int .i64 (i:Int))]) (fun i=>[]) (fun g i=>i≤l.length∧g+i=l.length∧∀ j,j<i→hH P ps (day.getD h aJq) h (l.getD j aJn)=false) (l.length) 0 ?_ (S.sel [0,1] G G) (H.keep [69,2,3,12,13,60,61,62,67,68] rfl) ?_
  · exact ⟨by omega,by omega,fun q hq=>absurd hq (Nat.not_lt_zero q)⟩
  clear H S a;intro g3 x3 a w3 hp S H K30 k30;obtain ⟨i,rfl⟩:∃ y,y=x3:=⟨_,rfl⟩;refine sS H fun K31 k31=>sr 1 G<|sE ?_;intro a H
  refine k31 _ ?_;refine wp_seq_k fun K32 k32=>?_
  refine condL H rfl (fun hc7=>?_) (fun hc7=>?_)
  ·skip
   have hpi:=pK.1 (bS.1 hpr i (by omega))
   refine wp_skip ?_;refine k32 _ _ ?_;refine wp_seq_k fun K33 k33=>?_
   refine wp_block ?_;refine aA fun K34 k34=>?_
   refine ls 3 H<|sr 1 G<|si eX eP G G (hl.adr (by omega)) (by omega)<|sd ((aV wK eP rfl S hl (by omega) (by omega)))<|sE ?_;intro a H
   refine aM H rfl S gP ?_;intro b15 _ a hb15 hbw15 S H
   refine ls 1 H<|sr 1 G<|sE ?_;intro a H
   refine aI H S (i:=0) G G G G eP G G ?_
   clear H a S;intro _ a S H;refine k34 _ _ ?_;replace H:=H.keep [2,3,12,13,14,15,60,61,62,67,68,69] rfl;refine aA fun K35 k35=>?_
   refine ls 5 H<|sr 1 G<|sf nF rfl<|sl S 0 aC G G G<|sf lK rfl<|sl S 0 aC G G G<|sE ?_;intro a H
   refine aB H G G Tryz.func65 G G (cW _ _ _ _) ?_;clear H a
   rintro _ _ a ⟨rfl,rfl⟩ H;refine ls 1 H<|sr 1 G<|sE ?_;intro a H
   apply dV (i:=6) (g:=80) (t:=96) (b:=true) 16 H S G G (by kernel_rfl) (by kernel_rfl) G G
   case h1=>
    intro hg7;have hq7:=hg7;try simp only [oz] at hq7
    refine ls 14 H<|sy hg7<|sd ((aD cE cV rfl S (i:=2) G G))<|sy hg7<|sf rQ rfl<|sy hg7<|sl S 1 aC G G G<|sy hg7<|sf Qm rfl<|sy hg7<|sl S 1 jF G G G<|sy hg7<|sr 1 G<|sg 2 12 86 88 true G G (fun hg13=>by
        have hq13:=hg13;try simp only [oz] at hq13
        exact sy hg13<|sf Be rfl<|sy hg13<|sl S 0 jF G G G<|sz 2 G G G)<|sy hg7<|sa G G G<|sy hg7<|sd (aN Rj G G)<|sy hg7<|sf nD rfl<|sy hg7<|sl S 0 aC G G G<|sy hg7<|sf nE rfl<|sy hg7<|sl S 0 aC G G G<|sE ?_;intro a H
    refine eV H G G (by assumption) ?_
    refine aB H G G Tryz.func66 G G (Bt P ps PA pc xs XA xc (day.getD h aJq).out ((day.getD h aJq).help&&(l.getD i aJn).helped) (l.getD i aJn).fr (l.getD i aJn).to _ (hps.now S) hpn (hxs.now S) hxn hV hdo.1.1 (by omega) (by omega)) ?_
    rintro _ _ a ⟨rfl,hdj,S2⟩ H;replace S:=S.call S2;clear S2;refine ls 1 H<|sy hg7<|sr 1 G<|sE ?_;intro a H
    exact wpList_nil ⟨H.strip 15 G G,(S.sel [0,1,2] G G)⟩
   clear H a S;intro a _ H S;refine ls 1 H<|sa G G G<|sE ?_;intro a H
   refine k35 _ _ ?_;refine aU H rfl (fun hc8=>?_) (fun hc8=>?_)
   ·skip
    try simp only [oz] at hc8
    replace H:=H.keep [12,14] rfl;refine sS H fun K36 k36=>sr 6 G<|sE ?_;intro a H
    refine k36 _ ?_;refine wp_ret ?_;refine ret4 (fn:=Tryz.f47) rfl H G G G G ?_;rw [Zd hkE (by omega) (by omega) hB hp.2.2 (Sw hc8.1 (by omega))];exact ⟨rfl,(S.sel [] G G)⟩
   try simp only [oz] at hc8
   refine wp_skip ?_;refine k33 _ _ ?_;refine sO H<|sd (aH G G (by unfold i64ok;omega))<|sr 1 G<|sE ?_;intro a H
   exact k30 (g3-1) (i+1) a _ (by omega) (⟨by omega,by omega,Ze hp.2.2 (by rcases hc8 with h9|h9;exact Mz (by omega);exact Na (by omega))⟩) (S.sel [1,2] rfl rfl) (H.keep [69,2,3,12,13,60,61,62,67,68] rfl)
  refine wp_exit ?_;refine k27 _ _ ?_;replace H:=H.keep [2,3,60,61,62] rfl;refine sO H<|sd (aH G G (by unfold i64ok;omega))<|sr 1 G<|sE ?_;intro a H
  exact k24 (g2-1) (h+1) a _ (by omega) (⟨by omega,by omega,My hB hp.2.2 (by omega)⟩) (S.sel [1] G G) (H.keep [62,2,3,60,61] rfl)
 refine wp_exit ?_;refine k22 _ _ ?_;refine sS H fun K39 k39=>sr 4 G<|sE ?_;intro a H
 refine k39 _ ?_;refine wp_ret ?_;refine ret4 (fn:=Tryz.f47) rfl H rfl rfl rfl rfl ?_;obtain rfl:h=day.length:=by omega
 rw [Su hkE hB];exact ⟨rfl,(S.sel [] G G)⟩
end
section
structure Chain where
 links:Int
 pitch:Int
 limit:Int
structure Gauge where
 fr:Int
 to:Int
 lo:Int
 hi:Int
def Gauge.zero:Gauge:=⟨0,0,0,0⟩
def Gauge.cell (g:Gauge):Nat→Value
 | 0 => .int .i64 g.fr
 | 1 => .int .i64 g.to
 | 2 => .int .i64 g.lo
 | _ => .int .i64 g.hi
abbrev Chain.val (c:Chain):Value := .agg [.int .i64 c.links,.int .i64 c.pitch,.int .i64 c.limit].toArray
theorem Dz {α:Type} {l:List α} {p:α→Bool} {k:Nat} {d:α} (hk:k<l.length) (h:(l.take k).all p=true) (hp:p (l.getD k d)=true):(l.take (k+1)).all p=true:=by
 rw [List.take_succ_eq_append_getElem hk,List.all_append,h];simp only [List.getD_eq_getElem?_getD,List.getElem?_eq_getElem hk,Option.getD_some] at hp;simp [hp]
theorem zS {α:Type} {l:List α} {p:α→Bool} {k:Nat} {d:α} (hk:k<l.length) (hp:p (l.getD k d)=false):l.all p=false:=by
 simp only [List.getD_eq_getElem?_getD,List.getElem?_eq_getElem hk,Option.getD_some] at hp
 rw [←Bool.not_eq_true,List.all_eq_true];intro h;have:=h _ (List.getElem_mem hk);rw [hp] at this;cases this
abbrev IM:=Nat→Nat→Int
section
variable (M:IM) (a b:Nat) (far:Int)
def vba:Int:=min (M b a) (M b a+far+M b a)
def vb (y:Nat):Int:=min (M b y) ((if a<y then vba M a b far else M b a)+far+M b y)
def vxa (x:Nat):Int:=min (M x a) (M x a+far+(if b<x then vb M a b far a else M b a))
def rel:IM:=fun x y=>min (M x y) ((if a<y then vxa M a b far x else M x a)+far+(if b<x then vb M a b far y else M b y))
end
def arc (M:IM) (a b:Nat) (far:Int):IM:=if M a b≤far then M else rel M a b far
def aIl (M:IM) (i j:Nat) (lo hi:Int):IM:=arc (arc M i j hi) j i (-lo)
def diagB (n:Nat) (M:IM):Bool:=(List.range n).all fun k=>decide (0≤M k k)
theorem iX {n k:Nat} {p:Nat→Bool}:(List.range (k+1)).all p=((List.range k).all p&&p k):=by
 rw [List.range_succ,List.all_append];simp
theorem iD {n k:Nat} {p:Nat→Bool} (hk:k<n) (h:p k=false):(List.range n).all p=false:=by
 rw [←Bool.not_eq_true,List.all_eq_true];intro hh;have:=hh k (List.mem_range.2 hk);rw [h] at this;cases this
def wide:Int:=1099511627776
structure Good (n:Nat) (M:IM):Prop where
 diag:∀ x,x<n→M x x=0
 tri:∀ x y z,x<n→y<n→z<n→M x z≤M x y+M y z
 top:∀ x y,x<n→y<n→M x y≤wide
structure Under (n:Nat) (E M:IM):Prop where
 le:∀ x y,x<n→y<n→E x y≤M x y
 add:∀ x y z,x<n→y<n→z<n→E x z=E x y+E y z
def Chain.n (c:Chain):Nat:=c.links.toNat+1
structure Best (n:Nat) (C:IM→Prop) (M:IM):Prop where
 good:Good n M
 sat:C M
 best:∀ E,Good n E→C E→∀ x y,x<n→y<n→E x y≤M x y
def aIm (i j:Nat) (lo hi:Int) (E:IM):Prop:=E i j≤hi∧E j i ≤ -lo
def lower (n:Nat) (C:IM→Prop):Prop:=∀ M M':IM,C M→(∀ x y,x<n→y<n→M' x y≤M x y)→C M'
def fwP (M:IM) (m:Nat):IM:=fun x y=>min (M x y) (M x m+M m y)
def fstg (M:IM) (m p q:Nat):IM:=fun x y=>if x<p∨(x=p∧y<q) then fwP M m x y else M x y
def pw:Nat→Int
 | 0=>10000000
 | k+1=>2*pw k
structure CNet (n k:Nat) (M:IM):Prop where
 diag:∀ x,x<n→M x x=0
 lo:∀ x y,x<n→y<n → -(pw k)≤M x y
 top:∀ x y,x<n→y<n→M x y≤wide
structure Use where
 day:Int
 turns:Int
 cls:Int
 meas:Bool
 lo:Int
 hi:Int
structure Part where
 rates:List (Int×Int)
 worn:Int
 turns:Int
 age:Int
def aJm:Use:=⟨0,0,0,false,0,0⟩
def Use.cell (u:Use):Nat→Value
 | 0 => .int .i64 u.day
 | 1 => .int .i64 u.turns
 | 2 => .int .i64 u.cls
 | 3 => .bool u.meas
 | 4 => .int .i64 u.lo
 | _ => .int .i64 u.hi
def ucell (l:List Use) (k j:Nat):Value:=(l.getD k aJm).cell j
def pM (s:Int×Int):Nat→Value
 | 0 => .int .i64 s.1
 | _ => .int .i64 s.2
def scell (l:List (Int×Int)) (k j:Nat):Value:=pM (l.getD k (0,0)) j
def fcell (f:Nat→Int×Int) (k j:Nat):Value:=pM (f k) j
def iY (p:Part):Bool:=decide (1≤p.rates.length∧p.rates.length≤4∧0≤p.worn∧p.worn≤1000∧0≤p.turns∧p.turns≤1000000∧0≤p.age∧p.age≤100000)
def iZ (r:Int×Int):Bool:=decide (0≤r.1∧r.1≤r.2∧r.2≤1000000)
def useOk (n:Nat) (d:Int) (u:Use):Bool:=decide ((d≤u.day∧u.day≤100000∧0≤u.turns∧u.turns≤1000000∧0≤u.cls∧u.cls≤(n:Int)-1)∧0≤u.lo∧u.lo≤u.hi∧u.hi≤2000000000∧(u.meas=false→u.lo=0∧u.hi=0))
def prevD (l:List Use):Nat→Int
 | 0=>0
 | k+1=>(l.getD k aJm).day
def fH (n:Nat) (l:List Use) (k:Nat):Bool:=(List.range k).all fun i=>useOk n (prevD l i) (l.getD i aJm)
def cC (p:Part) (l:List Use):Int:=
 if iY p then (if p.rates.all iZ then (if l.length≤40 then (if fH p.rates.length l l.length then 0 else 23) else 23) else 22) else 22
structure PartOk (p:Part) (l:List Use):Prop where
 hdr:iY p=true
 rates:p.rates.all iZ=true
 len:l.length≤40
 uses:fH p.rates.length l l.length=true
theorem kN {p:Part} {l:List Use} (h:cC p l=0):PartOk p l:=by
  unfold cC at h
  split at h
  · split at h
    · split at h
      · split at h
        · exact ⟨by assumption,by assumption,by assumption,by assumption⟩
        · cases h
      · cases h
    · cases h
  · cases h
theorem PartOk.use {p:Part} {l:List Use} (h:PartOk p l) {k:Nat} (hk:k<l.length):useOk p.rates.length (prevD l k) (l.getD k aJm)=true:=by
 have:=h.uses
 unfold fH at this
 exact List.all_eq_true.1 this k (List.mem_range.2 hk)
theorem PartOk.rate {p:Part} {l:List Use} (h:PartOk p l) {k:Nat} (hk:k<p.rates.length):iZ (p.rates.getD k (0,0))=true:=by
 rw [List.getD_eq_getElem?_getD,List.getElem?_eq_getElem hk];exact List.all_eq_true.1 h.rates _ (List.getElem_mem hk)
def dO (p:Part) (u:Use):Int×Int:=(u.turns*(p.rates.getD u.cls.toNat (0,0)).1,u.turns*(p.rates.getD u.cls.toNat (0,0)).2)
def meetS (a b:Int×Int):Int×Int:=(max a.1 b.1,min a.2 b.2)
def addS (a b:Int×Int):Int×Int:=(a.1+b.1,a.2+b.2)
def fwd (p:Part) (l:List Use):Nat→Int×Int
 | 0=>(0,0)
 | k+1=>if (l.getD k aJm).meas then meetS (addS (fwd p l k) (dO p (l.getD k aJm))) ((l.getD k aJm).lo,(l.getD k aJm).hi) else addS (fwd p l k) (dO p (l.getD k aJm))
def fits (p:Part) (l:List Use) (k:Nat):Prop:=(l.getD k aJm).meas=true→(fwd p l (k+1)).1≤(fwd p l (k+1)).2
structure IsAt (p:Part) (l:List Use) (n:Nat):Prop where
 le:n≤l.length
 good:∀ k,k<n→fits p l k
 bad:n<l.length→¬ fits p l n
theorem IsAt.same {p:Part} {l:List Use} {n m:Nat} (h:IsAt p l n) (h':IsAt p l m):n=m:=by
 rcases Nat.lt_trichotomy n m with h1|h1|h1
 ·exact absurd (h'.good n h1) (h.bad (by have:=h'.le;omega))
 ·exact h1
 ·exact absurd (h.good m h1) (h'.bad (by have:=h.le;omega))
def bkw (p:Part) (l:List Use):Nat→Int×Int
 | 0=>fwd p l l.length
 | d+1=>meetS (fwd p l (l.length-1-d)) ((bkw p l d).1-(dO p (l.getD (l.length-1-d) aJm)).2,(bkw p l d).2-(dO p (l.getD (l.length-1-d) aJm)).1)
def bJ (p:Part) (l:List Use) (k:Nat):Int×Int:=bkw p l (l.length-1-k)
theorem lA {p:Part} {l:List Use} (h:PartOk p l) {k:Nat} (hk:k<l.length):0≤(dO p (l.getD k aJm)).1∧(dO p (l.getD k aJm)).1≤1000000000000∧0≤(dO p (l.getD k aJm)).2∧(dO p (l.getD k aJm)).2≤1000000000000:=by
 have hu:=h.use hk
 unfold useOk at hu
 simp only [decide_eq_true_eq] at hu
 have hr:=h.rate (k:=(l.getD k aJm).cls.toNat) (by omega)
 unfold iZ at hr
 simp only [decide_eq_true_eq] at hr
 unfold dO
 refine ⟨Int.mul_nonneg (by omega) (by omega),?_,Int.mul_nonneg (by omega) (by omega),?_⟩
 ·exact Int.le_trans (Int.mul_le_mul (c:=1000000) (d:=1000000) (by omega) (by omega) (by omega) (by omega)) (by decide)
 ·exact Int.le_trans (Int.mul_le_mul (c:=1000000) (d:=1000000) (by omega) (by omega) (by omega) (by omega)) (by decide)
theorem Bu {p:Part} {l:List Use} (h:PartOk p l):∀ k,k≤l.length→0≤(fwd p l k).1∧(fwd p l k).1≤(k:Int)*1000000000000∧0≤(fwd p l k).2∧(fwd p l k).2≤(k:Int)*1000000000000:=by
  intro k;induction k with
  | zero=>intro _;simp [fwd]
  | succ k ih=>
    intro hk;have h1:=ih (by omega);have h2:=lA h (show k<l.length by omega);have hu:=h.use (show k<l.length by omega);unfold useOk at hu;simp only [decide_eq_true_eq] at hu;unfold fwd addS meetS;split <;> (dsimp only;omega)
theorem aEh {p:Part} {l:List Use} (h:PartOk p l):∀ d,d<l.length → -((d:Int)*1000000000000)≤(bkw p l d).1∧(bkw p l d).1≤40000000000000 ∧ -((d:Int)*1000000000000)≤(bkw p l d).2∧(bkw p l d).2≤40000000000000:=by
  intro d;have hlen:=h.len;induction d with
  | zero=>intro hd;have:=Bu h l.length (Nat.le_refl _);unfold bkw;omega
  | succ d ih=>
    intro hd;have h1:=ih (by omega);have h2:=lA h (show l.length-1-d<l.length by omega);have h3:=Bu h (l.length-1-d) (by omega);unfold bkw meetS;dsimp only;omega
def sumT (l:List Use):Nat→Int
 | 0=>0
 | k+1=>sumT l k+(l.getD k aJm).turns
theorem Kh {p:Part} {l:List Use} (h:PartOk p l):∀ k,k≤l.length→0≤sumT l k∧sumT l k≤(k:Int)*1000000:=by
  intro k;induction k with
  | zero=>intro _;simp [sumT]
  | succ k ih=>
    intro hk;have h1:=ih (by omega);have hu:=h.use (show k<l.length by omega);unfold useOk at hu;simp only [decide_eq_true_eq] at hu;unfold sumT;omega
def jT (p:Part) (l:List Use):Int:=if l.length=0 then 0 else (fwd p l l.length).2
section
variable {P:Program} {ops:Array Oper} {w w0:World} {F0 F:Nat→Prop} {R:List Mem} {Q:Exit→Act→World→Prop} {rest:List Oper} {N:FN} {L:List (Nat×Value)} {a:Act} {ty:TypeId} {pos:String} {af:Array Edge}
theorem aIs {i b:Nat} {t:TypeId} {cs cs':List Value} (S:St w0 F0 R w) (hi:R[i]?=some (boxM b t cs)) (h:cs=cs'):St w0 F0 (R.set i (boxM b t cs')) w:=by
 subst h;exact S.imp hi (fun h=>h) (fun _ h=>h)
theorem nH {i e n c k:Nat} {A:Option Addr} {f:Nat→Int×Int} {s:Int×Int} (S:St w0 F0 R w) (hi:R[i]?=some (ownM e 2 A n c (fcell f))) (hk:k<n) (hs:f k=s) :
  ∀ (j:Nat) v,[Value.int .i64 s.1,Value.int .i64 s.2][j]?=some v→w.cell? ⟨(adr A).block,(adr A).off+k*2+0+j,none⟩=some v:=by
 intro j v hv;subst hs;have h0:=aIq S hi hk (j:=j);have hj:j<2:=(List.getElem?_eq_some_iff.1 hv).1;have h1:=h0 hj;have:j=0∨j=1:=by omega
 rcases this with rfl|rfl <;> (simp at hv;subst hv;exact h1)
theorem fI {t e i kk n c:Nat} {A:Option Addr} {f:Nat→Int×Int} {x y:Operand} {v1 v2:Int} (H:Fr N L a) (S:St w0 F0 R w) (hi:R[i]?=some (ownM e 2 A n c (fcell f)))
    (hx:ev L x=some (.pointer (some (pt A 2 kk 0)))) (hy:ev L y=some (.agg [.int .i64 v1,.int .i64 v2].toArray)) (hk:kk<n) (hs:Sz P t 2)
    (k:∀ w' a',St w0 F0 (R.set i (ownM e 2 A n c (fcell fun q=>if q=kk then (v1,v2) else f q))) w'→Fr N L a'→wpList P ops Q rest a' w') :
    wpList P ops Q (⟨none,.store t x y,ty,pos,af,none⟩::rest) a w:=by
  refine wpList_plain rfl fun K hK=>?_
  unfold Oper.wp
  rcases S.holds hi with ⟨_,h,_⟩|⟨b,cs,rfl,hb,hnc,hcm,hsz,hc⟩
  · omega
  have hlt:kk*2+1<cs.size:=by omega
  have hp:pt (some ⟨b,0,none⟩) 2 kk 0=⟨b,kk*2,none⟩:=by simp [pt,adr]
  rw [hp] at hx
  have hr:=mU (P:=P) (w:=w) (t:=t) (b:=b) (o:=kk*2) (v := .agg [.int .i64 v1,.int .i64 v2].toArray) (vs:=[.int .i64 v1,.int .i64 v2]) (by simpa using hs) rfl hb (by simp;omega) (fun u hu=>by
    simp only [List.mem_cons,List.not_mem_nil,or_false] at hu
    rcases hu with rfl|rfl <;> rfl)
  have e1:(execOp a.eval ⟨none,.store t x y,ty,pos,af,none⟩).run P w = .ok .skip (w.setRow b (iP cs.toList (kk*2) [.int .i64 v1,.int .i64 v2]).toArray):=by
    simp only [execOp,H.eval hx,H.eval hy]
    simp only [Sem.run_bind,hr]
    rfl
  rw [e1];refine hK _ _ (k _ _ (S.updSame hi ((iQ w b _).mono ?_) ?_ (fun _ h=>h)) (H.put_none _))
  · rintro q rfl;exact ⟨_,rfl,rfl⟩
  · refine .inr ⟨b,_,rfl,setRow_heap w b _ _ e (0,0) hb,hnc,hcm,?_,?_⟩
    · rw [List.size_toArray,pV _ _ _ (by simp;omega)];simpa using hsz
    · intro k' j' hk' hj'
      rw [List.getElem?_toArray,kL _ _ _ (by simp;omega)];have hj2:j'=0∨j'=1:=by omega
      by_cases hh:k'=kk
      · subst hh
        rw [List.append_assoc,List.getElem?_append_right (by simp;omega)];simp only [List.length_take,Array.length_toList,Nat.min_eq_left (show k'*2≤cs.size by omega)];rcases hj2 with rfl|rfl <;> simp [fcell,pM]
      · have hcell:=hc k' j' hk' hj'
        have:fcell (fun q=>if q=kk then (v1,v2) else f q) k' j'=fcell f k' j':=by simp [fcell,hh]
        rw [this,←hcell];rcases Nat.lt_or_ge (k'*2+j') (kk*2) with h|h
        · rw [List.append_assoc,List.getElem?_append_left (by simp;omega),List.getElem?_take_of_lt h];simp
        · have h':kk*2+2≤k'*2+j':=by omega
          rw [List.getElem?_append_right (by simp;omega),List.getElem?_drop];simp only [List.length_append,List.length_take,List.length_cons,List.length_nil,Array.length_toList];rw [Nat.min_eq_left (by omega)];rw [show kk*2+(0+1+1)+(k'*2+j'-(kk*2+(0+1+1)))=k'*2+j' by omega];simp
end
theorem xM {p:Part} {l:List Use} {k:Nat} (h:(l.getD k aJm).meas=true):fwd p l (k+1)=meetS (addS (fwd p l k) (dO p (l.getD k aJm))) ((l.getD k aJm).lo,(l.getD k aJm).hi):=by rw [fwd,if_pos h]
theorem vG {p:Part} {l:List Use} {k:Nat} (h:(l.getD k aJm).meas=false):fwd p l (k+1)=addS (fwd p l k) (dO p (l.getD k aJm)):=by rw [fwd,if_neg (by rw [h];simp)]
theorem sA {p:Part} {l:List Use} {k:Nat} (h:(l.getD k aJm).meas=false):fits p l k:=fun h'=>by rw [h] at h';cases h'
theorem jJ {p:Part} {l:List Use} (h:PartOk p l) {k:Nat} (hk:k<l.length) : -40000000000000≤(bJ p l k).1∧(bJ p l k).1≤40000000000000 ∧ -40000000000000≤(bJ p l k).2∧(bJ p l k).2≤40000000000000:=by
 have:=aEh h (l.length-1-k) (by omega)
 have:=h.len
 unfold bJ
 omega
theorem lL {p:Part} {l:List Use} {k:Nat} (hk:k+1=l.length):bJ p l k=fwd p l l.length:=by
 unfold bJ;rw [show l.length-1-k=0 by omega];rfl
theorem eK {p:Part} {l:List Use} {k:Nat} (hk:k+1<l.length):bJ p l k=meetS (fwd p l (k+1)) ((bJ p l (k+1)).1-(dO p (l.getD (k+1) aJm)).2,(bJ p l (k+1)).2-(dO p (l.getD (k+1) aJm)).1):=by
 unfold bJ
 rw [show l.length-1-k=(l.length-1-(k+1))+1 by omega];rw [bkw];rw [show l.length-1-(l.length-1-(k+1))=k+1 by omega]
end
section
theorem xN {k sz:Nat} {cell:Nat→Nat→Value} {vs:List Value} (h:∀ j,j<sz→vs.getD j undef=cell k j):∀ q j,q<k+1→j<sz→capp k cell (fun k' j=>([vs].getD k' []).getD j undef) q j=cell q j:=by
  intro q j hq hj;unfold capp;by_cases h1:q<k
  · rw [if_pos h1]
  · rw [if_neg h1]
    have e:q=k:=by omega
    subst e;rw [Nat.sub_self];exact h j hj
theorem lV {sz:Nat} {vs:List Value} (h:∀ j,j<sz→(vs.getD j undef).oneCell'=true):∀ k j,k<1→j<sz→(([vs].getD k []).getD j undef).oneCell'=true:=by
 intro k j hk hj;have e:k=0:=by omega
 subst e;exact h j hj
theorem two {p:Nat→Prop} (h0:p 0) (h1:p 1):∀ j,j<2→p j:=by
 intro j hj;have:j=0∨j=1:=by omega
 rcases this with rfl|rfl
 ·exact h0
 ·exact h1
theorem one {p:Nat→Prop} (h0:p 0):∀ j,j<1→p j:=by
 intro j hj;have:j=0:=by omega
 subst this;exact h0
theorem eD {P:Program} {f:Nat} {vs:Array Value} {w:World} {R R':Value→World→Prop} (h:Calls P f vs w (Ret R)) (k:∀ v w',R v w'→R' v w'):Calls P f vs w (Ret R'):=Calls.mono h fun e w' he=>by
 cases e with
 | returned v=>exact k v w' he
 | _=>exact he
theorem fX (n lo hi:Int) (w:World) :
    Calls Tryz.prog 97 [.int .i64 n,.int .i64 lo,.int .i64 hi].toArray w (Ret (fun v w'=>v = .bool (decide (lo≤n)&&decide (n≤hi))∧w'=w)):=by
 refine enter Tryz.func97 rfl Tryz.ntmps97 rfl (fun a H=>?_)
 have S:=St.start w
 refine sS H fun K1 k1=>sr 1 G<|sE ?_;intro a H
 refine k1 _ ?_;replace H:=H.keep [0,1,2] rfl;refine sS H fun K2 k2=>sr 4 G<|sg 3 3 10 13 true G G (fun hg4=>sy hg4<|sr 1 G<|sy hg4<|sr 1 G<|sy hg4<|sr 1 G<|sz 3 G G G)<|sa G G G<|sr 1 G<|sE ?_;intro a H
 refine k2 _ ?_;refine wp_ret ?_;refine ret1 (fn:=Tryz.f97) rfl H rfl ?_;exact ⟨rfl,rfl⟩
theorem jB (n lo hi:Int) (w:World) :
    Calls Tryz.prog 76 [.int .i64 n,.int .i64 lo,.int .i64 hi].toArray w (Ret (fun v w'=>v = .bool (decide (lo≤n)&&decide (n≤hi))∧w'=w)):=by
 refine enter Tryz.func76 rfl Tryz.ntmps76 rfl (fun a H=>?_)
 have S:=St.start w
 refine sS H fun K1 k1=>sr 1 G<|sE ?_;intro a H
 refine k1 _ ?_;replace H:=H.keep [0,1,2] rfl;refine sS H fun K2 k2=>sr 4 G<|sg 3 3 10 13 true G G (fun hg4=>sy hg4<|sr 1 G<|sy hg4<|sr 1 G<|sy hg4<|sr 1 G<|sz 3 G G G)<|sa G G G<|sr 1 G<|sE ?_;intro a H
 refine k2 _ ?_;refine wp_ret ?_;refine ret1 (fn:=Tryz.f76) rfl H rfl ?_;exact ⟨rfl,rfl⟩
set_option maxRecDepth 100000 in
theorem Zf (a b c d:Int) (w:World):(Op.equalIn 10000 79 (.agg #[.int .i64 a,.int .i64 b]) (.agg #[.int .i64 c,.int .i64 d])).run Tryz.prog w = .ok (a == c&&b == d) w:=by
 have u3:=Tryz.underlying3
 have a3:=Tryz.isAgg3
 have z3:=Tryz.sizeOf3
 have hS:Tryz.prog.underlying 79=some (.struct (Tryz.prog.fieldsOf 79)):=by kernel_rfl
 have hp:Tryz.prog.stoodInHeld 79=false:=by kernel_rfl
 rw [show (10000:Nat)=9999+1 from rfl,run_equalIn_agg w 9999 79 _ _ hS hp];simp only [Program.fieldsOf,Tryz.underlying79];go_simp;by_cases h1:a=c <;> by_cases h2:b=d <;> simp [h1,h2]
set_option maxRecDepth 100000 in
theorem Hv (op:BinOp) (x y:Operand) (a b c d:Int) (w:World):(eqGuard op 79 x y (.agg #[.int .i64 a,.int .i64 b]) (.agg #[.int .i64 c,.int .i64 d])).run Tryz.prog w = .ok () w:=by
 have h:Tryz.prog.eqGuardType Tryz.prog.depth 79=false:=by kernel_rfl
 have hpg:∀ w,(program:Sem Program).run Tryz.prog w = .ok Tryz.prog w:=fun _=>rfl
 cases op <;> simp [eqGuard,h,hpg]
section
variable {P:Program} {w:World} {L:List (Nat×Value)} {ty:TypeId} {pos:String} {af:Array Edge} {dd:Option Nat} {g:Option (Nat×Bool)}
set_option maxRecDepth 100000 in
theorem pW {x y:Operand} {yt:TypeId} {a b c d:Int} (hx:ev L x=some (.agg [.int .i64 a,.int .i64 b].toArray)) (hy:ev L y=some (.agg [.int .i64 c,.int .i64 d].toArray)) :
  Does Tryz.prog L ⟨dd,.binOp .neq 79 x y yt,ty,pos,af,g⟩ w (.bool (!(decide (a=c)&&decide (b=d)))):=fun ρ hρ=>by
 have e:(binOp .neq 79 (.agg #[.int .i64 a,.int .i64 b]) (.agg #[.int .i64 c,.int .i64 d])).run Tryz.prog w = .ok (.bool (!(decide (a=c)&&decide (b=d)))) w:=by
  simp only [binOp]
  simp [Op.equal,Op.maxDepth,Zf]
  by_cases h1:a=c <;> by_cases h2:b=d <;> simp [h1,h2]
 simp only [execOp,hρ _ _ hx,hρ _ _ hy]
 simp [Hv,e]
end
end
section
theorem uP (rates:List (Int×Int)) (pwn ptn pag:Int) (RA:Option Addr) (rcp:Nat) (l:List Use) (A:Option Addr) (cp:Nat) (w:World) (hr:InS w noF 2 RA rates.length (scell rates)) (hrn:rates.length≤9223372036854775807) (hl:InS w noF 6 A l.length (ucell l)) (hn:l.length≤9223372036854775807) :
    Calls Tryz.prog 81 [.agg [.slice RA rates.length rcp,.int .i64 pwn,.int .i64 ptn,.int .i64 pag].toArray,.slice A l.length cp].toArray w (Ret (fun v w'=>v = .int .i64 (cC (⟨rates,pwn,ptn,pag⟩:Part) l)∧St w noF [] w')):=by
 refine enter Tryz.func81 rfl Tryz.ntmps81 rfl (fun a H=>?_)
 have S:=St.start w
 refine aA fun K1 k1=>?_
 refine aO H rfl S G G ?_;intro b2 _ a hb2 hbw2 S H
 refine ls 1 H<|sr 1 G<|sE ?_;intro a H
 refine k1 _ _ ?_;refine wp_seq_k fun K2 k2=>?_
 replace H:=H.keep [1,2] rfl;refine sS H fun K3 k3=>sf fP rfl<|sl S 0 iF G G G<|sL dB rfl<|sc rfl Tryz.func97 G G (fX _ _ _ _)<|sr 2 G<|sg 4 5 15 19 false G G (fun hg6=>sy hg6<|sf uX rfl<|sy hg6<|sl S 0 aC G G G<|sy hg6<|sc rfl Tryz.func97 G G (fX _ _ _ _)<|sy hg6<|sr 1 G<|sz 4 G G G)<|so G G G<|sr 1 G<|sg 4 11 21 25 false G G (fun hg12=>sy hg12<|sf pF rfl<|sy hg12<|sl S 0 aC G G G<|sy hg12<|sc rfl Tryz.func97 G G (fX _ _ _ _)<|sy hg12<|sr 1 G<|sz 4 G G G)<|so G G G<|sr 1 G<|sg 4 17 27 31 false G G (fun hg18=>sy hg18<|sf rK rfl<|sy hg18<|sl S 0 aC G G G<|sy hg18<|sc rfl Tryz.func97 G G (fX _ _ _ _)<|sy hg18<|sr 1 G<|sz 4 G G G)<|so G G G<|sE ?_;intro a H
 refine k3 _ ?_;refine aU H rfl (fun hc1=>?_) (fun hc1=>?_)
 ·skip
  try simp only [oz] at hc1
  replace H:=H.keep [] rfl;refine sS H fun K4 k4=>sr 1 G<|sE ?_;intro a H
  refine k4 _ ?_;refine wp_ret ?_;refine ret1 (fn:=Tryz.f81) rfl H rfl ?_;refine ⟨?_,(S.sel [] G G)⟩;unfold cC;rw [if_neg (by unfold iY;simp only [decide_eq_true_eq];omega)]
 try simp only [oz] at hc1
 refine wp_skip ?_;refine k2 _ _ ?_;refine wp_seq_k fun K5 k5=>?_
 have hhd:iY (⟨rates,pwn,ptn,pag⟩:Part)=true:=by unfold iY;simp only [decide_eq_true_eq];omega
 refine sS H fun K6 k6=>sf fP rfl<|sl S 0 iF G G G<|sL dB rfl<|sr 1 G<|sE ?_;intro a H
 refine k6 _ ?_;refine wp_block ?_;refine loop_st (X:=Nat) (R0:=_) [1,2,34,35] H rfl (fun k=>[(36,.int .i64 (k:Int))]) (fun k=>[]) (fun g k=>k≤rates.length∧g+k=rates.length∧(rates.take k).all iZ=true) (rates.length) 0 ?_ (S.sel [0] G G) (H.keep [36,1,2,34,35] rfl) ?_
 · exact ⟨by omega,by omega,by simp⟩
 clear H S a;intro g1 x1 a w1 hp S H K7 k7;obtain ⟨k,rfl⟩:∃ y,y=x1:=⟨_,rfl⟩;refine sS H fun K8 k8=>sr 1 G<|sE ?_;intro a H
 refine k8 _ ?_;refine wp_seq_k fun K9 k9=>?_
 refine condL H rfl (fun hc2=>?_) (fun hc2=>?_)
 ·skip
  refine wp_skip ?_;refine k9 _ _ ?_;refine wp_seq_k fun K10 k10=>?_
  refine wp_block ?_;refine aA fun K11 k11=>?_
  refine ls 2 H<|si dB bE G G (hr.adr (by omega)) (by omega)<|sd ((aV eO bE rfl S hr (by omega) (by omega)))<|sE ?_;intro a H
  refine aM H rfl S eY ?_;intro b6 _ a hb6 hbw6 S H
  refine aI H S (i:=0) G G G G bE G G ?_
  clear H a S;intro _ a S H;refine k11 _ _ ?_;replace H:=H.keep [1,2,6,34,35,36] rfl;refine sS H fun K12 k12=>sf cH rfl<|sl S 0 aC G G G<|sr 2 G<|sg 5 3 43 48 false G G (fun hg4=>sy hg4<|sf cA rfl<|sy hg4<|sl S 0 aC G G G<|sy hg4<|sf cH rfl<|sy hg4<|sl S 0 aC G G G<|sy hg4<|sr 1 G<|sz 5 G G G)<|so G G G<|sr 1 G<|sg 3 10 50 53 false G G (fun hg11=>sy hg11<|sf cA rfl<|sy hg11<|sl S 0 aC G G G<|sy hg11<|sr 1 G<|sz 3 G G G)<|so G G G<|sE ?_;intro a H
  refine k12 _ ?_;refine aU H rfl (fun hc3=>?_) (fun hc3=>?_)
  ·skip
   try simp only [oz] at hc3
   replace H:=H.keep [] rfl;refine sS H fun K13 k13=>sr 1 G<|sE ?_;intro a H
   refine k13 _ ?_;refine wp_ret ?_;refine ret1 (fn:=Tryz.f81) rfl H rfl ?_;refine ⟨?_,(S.sel [] G G)⟩;unfold cC;rw [if_pos hhd];(try dsimp only);rw [zS (k:=k) (d:=(0,0)) (by omega) (by unfold iZ;simp only [decide_eq_false_iff_not];omega)];rfl
  try simp only [oz] at hc3
  refine wp_skip ?_;refine k10 _ _ ?_;refine sO H<|sd (aH G G (by unfold i64ok;omega))<|sr 1 G<|sE ?_;intro a H
  exact k7 (g1-1) (k+1) a _ (by omega) (⟨by omega,by omega,Dz (d:=(0,0)) (by omega) hp.2.2 (by unfold iZ;simp only [decide_eq_true_eq];omega)⟩) (S.sel [1] G G) (H.keep [36,1,2,34,35] rfl)
 refine wp_exit ?_;refine k5 _ _ ?_;refine wp_seq_k fun K15 k15=>?_
 have hrt:rates.all iZ=true:=by have h9:=hp.2.2;rw [List.take_of_length_le (by omega)] at h9;exact h9
 refine sS H fun K16 k16=>sr 1 G<|sL cJ rfl<|sr 1 G<|sE ?_;intro a H
 refine k16 _ ?_;refine condL H rfl (fun hc4=>?_) (fun hc4=>?_)
 ·skip
  refine sS H fun K17 k17=>sr 1 G<|sE ?_;intro a H
  refine k17 _ ?_;refine wp_ret ?_;refine ret1 (fn:=Tryz.f81) rfl H rfl ?_;refine ⟨?_,(S.sel [] G G)⟩;unfold cC;rw [if_pos hhd,if_pos hrt,if_neg (by omega)]
 refine wp_skip ?_;refine k15 _ _ ?_;refine sS H fun K18 k18=>sr 1 G<|sE ?_;intro a H
 refine k18 _ ?_;refine wp_seq_k fun K19 k19=>?_
 replace H:=H.keep [1,2,7] rfl;refine sS H fun K20 k20=>sr 1 G<|sL cJ rfl<|sr 1 G<|sE ?_;intro a H
 refine k20 _ ?_;refine wp_block ?_;refine loop_st (X:=Nat) (R0:=_) [2,59,60] H rfl (fun j=>[(7,.int .i64 (prevD l j)),(61,.int .i64 (j:Int))]) (fun j=>[]) (fun g j=>j≤l.length∧g+j=l.length∧fH rates.length l j=true) (l.length) 0 ?_ (S.sel [0] G G) (H.keep [7,61,2,59,60] rfl) ?_
 · exact ⟨by omega,by omega,rfl⟩
 clear H S a;intro g2 x2 a w2 hp S H K21 k21;obtain ⟨j,rfl⟩:∃ y,y=x2:=⟨_,rfl⟩;refine sS H fun K22 k22=>sr 1 G<|sE ?_;intro a H
 refine k22 _ ?_;refine wp_seq_k fun K23 k23=>?_
 refine condL H rfl (fun hc5=>?_) (fun hc5=>?_)
 ·skip
  refine wp_skip ?_;refine k23 _ _ ?_;refine wp_seq_k fun K24 k24=>?_
  refine wp_block ?_;refine aA fun K25 k25=>?_
  refine ls 2 H<|si cJ bZ G G (hl.adr (by omega)) (by omega)<|sd ((aV jR bZ rfl S hl (by omega) (by omega)))<|sE ?_;intro a H
  refine aM H rfl S gJ ?_;intro b9 _ a hb9 hbw9 S H
  refine aI H S (i:=0) G G G G bZ G G ?_
  clear H a S;intro _ a S H;refine k25 _ _ ?_;refine wp_seq_k fun K26 k26=>?_
  replace H:=H.keep [2,7,9,59,60,61] rfl;refine sS H fun K27 k27=>sf hZ rfl<|sl S 0 aC G G G<|sr 1 G<|sc rfl Tryz.func97 G G (fX _ _ _ _)<|sr 2 G<|sg 4 5 70 74 false G G (fun hg6=>sy hg6<|sf iA rfl<|sy hg6<|sl S 0 aC G G G<|sy hg6<|sc rfl Tryz.func97 G G (fX _ _ _ _)<|sy hg6<|sr 1 G<|sz 4 G G G)<|so G G G<|sr 1 G<|sg 8 11 76 84 false G G (fun hg12=>sy hg12<|sf oJ rfl<|sy hg12<|sl S 0 aC G G G<|sy hg12<|sf fP rfl<|sy hg12<|sl S 1 iF G G G<|sy hg12<|sL dB rfl<|sy hg12<|sd (aS G G (by unfold i64ok;omega))<|sy hg12<|sc rfl Tryz.func97 G G (fX _ _ _ _)<|sy hg12<|sr 1 G<|sz 8 G G G)<|so G G G<|sE ?_;intro a H
  refine k27 _ ?_;refine aU H rfl (fun hc6=>?_) (fun hc6=>?_)
  ·skip
   try simp only [oz] at hc6
   replace H:=H.keep [] rfl;refine sS H fun K28 k28=>sr 1 G<|sE ?_;intro a H
   refine k28 _ ?_;refine wp_ret ?_;refine ret1 (fn:=Tryz.f81) rfl H rfl ?_;refine ⟨?_,(S.sel [] G G)⟩;unfold cC;rw [if_pos hhd,if_pos hrt,if_pos (by omega)];unfold fH;rw [iD (k:=j) (by omega) (by unfold useOk;simp only [decide_eq_false_iff_not];omega)];rfl
  try simp only [oz] at hc6
  refine wp_skip ?_;refine k26 _ _ ?_;refine wp_seq_k fun K29 k29=>?_
  replace H:=H.keep [2,9,59,60,61] rfl;refine sS H fun K30 k30=>sf gC rfl<|sf cH rfl<|sl S 0 aC G G G<|sr 2 G<|sg 7 4 90 97 false G G (fun hg5=>sy hg5<|sf gC rfl<|sy hg5<|sf cA rfl<|sy hg5<|sl S 0 aC G G G<|sy hg5<|sf gC rfl<|sy hg5<|sf cH rfl<|sy hg5<|sl S 0 aC G G G<|sy hg5<|sr 1 G<|sz 7 G G G)<|so G G G<|sr 1 G<|sg 4 13 99 103 false G G (fun hg14=>sy hg14<|sf gC rfl<|sy hg14<|sf cA rfl<|sy hg14<|sl S 0 aC G G G<|sy hg14<|sr 1 G<|sz 4 G G G)<|so G G G<|sr 1 G<|sg 9 19 105 114 false G G (fun hg20=>sy hg20<|sf mE rfl<|sy hg20<|sl S 0 jF G G G<|sy hg20<|sr 1 G<|sy hg20<|sr 1 G<|sg 4 23 109 113 true G G (fun hg24=>sy hg24<|sf gC rfl<|sy hg24<|sd ((aD eO bE rfl S (i:=0) G G))<|sy hg24<|sd (aN kX G G)<|sy hg24<|sd (pW G G)<|sz 4 G G G)<|sy hg20<|sa G G G<|sz 6 G G G)<|so G G G<|sE ?_;intro a H
  refine k30 _ ?_;refine aU H rfl (fun hc7=>?_) (fun hc7=>?_)
  ·skip
   try simp only [oz] at hc7
   replace H:=H.keep [] rfl;refine sS H fun K31 k31=>sr 1 G<|sE ?_;intro a H
   refine k31 _ ?_;refine wp_ret ?_;refine ret1 (fn:=Tryz.f81) rfl H rfl ?_;refine ⟨?_,(S.sel [] rfl rfl)⟩;unfold cC;rw [if_pos hhd,if_pos hrt,if_pos (by omega)];unfold fH;rw [iD (k:=j) (by omega) (by unfold useOk;simp only [decide_eq_false_iff_not];generalize l.getD j aJm=u at hc6 hc7 ⊢;rintro ⟨_,_,_,_,hm⟩;cases hq:u.meas <;> simp [hq] at hc7 hm <;> omega)];rfl
  try simp only [oz] at hc7
  refine wp_skip ?_;refine k29 _ _ ?_;refine sO H<|sf hZ rfl<|sl S 0 aC G G G<|sr 1 G<|sE ?_;intro a H
  refine k24 _ _ ?_;refine sO H<|sd (aH G G (by unfold i64ok;omega))<|sr 1 G<|sE ?_;intro a H
  exact k21 (g2-1) (j+1) a _ (by omega) (⟨by omega,by omega,by unfold fH;rw [iX (n:=0)];have h9:=hp.2.2;unfold fH at h9;rw [h9];simp only [Bool.true_and];unfold useOk;simp only [decide_eq_true_eq];generalize l.getD j aJm=u at hc6 hc7 ⊢;refine ⟨by omega,by omega,by omega,by omega,fun hm=>?_⟩;simp [hm] at hc7;omega⟩) (S.sel [1] G G) (H.keep [7,61,2,59,60] rfl)
 refine wp_exit ?_;refine k19 _ _ ?_;refine sS H fun K34 k34=>sr 1 G<|sE ?_;intro a H
 refine k34 _ ?_;refine wp_ret ?_;refine ret1 (fn:=Tryz.f81) rfl H rfl ?_;refine ⟨?_,(S.sel [] G G)⟩;have hj9:j=l.length:=by omega
 unfold cC;rw [if_pos hhd,if_pos hrt,if_pos (by omega)];rw [hj9] at hp;dsimp only;rw [if_pos hp.2.2]
theorem iJ (rates:List (Int×Int)) (pwn ptn pag:Int) (RA:Option Addr) (rcp:Nat) (u:Use) (w:World) (hr:InS w noF 2 RA rates.length (scell rates)) (hrn:rates.length≤9223372036854775807) (hcl:0≤u.cls∧u.cls<rates.length) (hg1:i64ok (dO (⟨rates,pwn,ptn,pag⟩:Part) u).1) (hg2:i64ok (dO (⟨rates,pwn,ptn,pag⟩:Part) u).2) :
    Calls Tryz.prog 99 [.agg [.slice RA rates.length rcp,.int .i64 pwn,.int .i64 ptn,.int .i64 pag].toArray,.agg [.int .i64 u.day,.int .i64 u.turns,.int .i64 u.cls,.bool u.meas,.int .i64 u.lo,.int .i64 u.hi].toArray].toArray w (Ret (fun v w'=>v = .agg [.int .i64 (dO (⟨rates,pwn,ptn,pag⟩:Part) u).1,.int .i64 (dO (⟨rates,pwn,ptn,pag⟩:Part) u).2].toArray∧St w noF [] w')):=by
 refine enter Tryz.func99 rfl Tryz.ntmps99 rfl (fun a H=>?_)
 have S:=St.start w
 refine aA fun K1 k1=>?_
 refine aO H rfl S G G ?_;intro b2 _ a hb2 hbw2 S H
 refine aO H rfl S G G ?_;intro b3 _ a hb3 hbw3 S H
 refine aM H rfl S eY ?_;intro b4 _ a hb4 hbw4 S H
 refine k1 _ _ ?_;replace H:=H.keep [2,3,4] rfl;refine aA fun K2 k2=>?_
 refine ls 6 H<|sf fP rfl<|sl S 2 iF G G G<|sf oJ rfl<|sl S 1 aC G G G<|sI dB bE G G (hr.adr (by omega)) (by omega) (by omega)<|sd ((aV eO bE rfl S hr (by omega) (by omega)))<|sE ?_;intro a H
 refine aM H rfl S eY ?_;intro b5 _ a hb5 hbw5 S H
 refine aI H S (i:=0) G G G G bE G G ?_
 clear H a S;intro _ a S H;refine k2 _ _ ?_;replace H:=H.keep [3,4,5] rfl;refine aA fun K3 k3=>?_
 refine ls 11 H<|sf iA rfl<|sl S 2 aC G G G<|sf cH rfl<|sl S 0 aC G G G<|sd (fR G G (by exact hg1))<|sf iA rfl<|sl S 2 aC G G G<|sf cA rfl<|sl S 0 aC G G G<|sd (fR G G (by exact hg2))<|sd (aN kX G G)<|sE ?_;intro a H
 refine aI H S (i:=1) G G G G bE G G ?_
 clear H a S;intro _ a S H;refine k3 _ _ ?_;refine wp_ret ?_;refine retA (fn:=Tryz.f99) rfl H rfl eO (by exact bE) (cY S (i:=1) rfl) ?_;exact ⟨rfl,(S.sel [] G G)⟩
theorem iH (a1 a2 b1 b2:Int) (w:World) :
    Calls Tryz.prog 100 [.agg [.int .i64 a1,.int .i64 a2].toArray,.agg [.int .i64 b1,.int .i64 b2].toArray].toArray w (Ret (fun v w'=>v = .tuple #[.agg [.int .i64 (meetS (a1,a2) (b1,b2)).1,.int .i64 (meetS (a1,a2) (b1,b2)).2].toArray,.bool (decide ((meetS (a1,a2) (b1,b2)).1≤(meetS (a1,a2) (b1,b2)).2))]∧St w noF [] w')):=by
 refine enter Tryz.func100 rfl Tryz.ntmps100 rfl (fun a H=>?_)
 have S:=St.start w
 refine aA fun K1 k1=>?_
 refine aO H rfl S G G ?_;intro b2 _ a hb2 hbw2 S H
 refine aO H rfl S G G ?_;intro b3 _ a hb3 hbw3 S H
 refine aM H rfl S eY ?_;intro b4 _ a hb4 hbw4 S H
 refine ls 1 H<|sr 1 G<|sE ?_;intro a H
 refine k1 _ _ ?_;replace H:=H.keep [2,3,4] rfl;refine aA fun K2 k2=>?_
 refine ls 11 H<|sf cH rfl<|sl S 2 aC G G G<|sf cH rfl<|sl S 1 aC G G G<|sd (kP G G)<|sf cA rfl<|sl S 2 aC G G G<|sf cA rfl<|sl S 1 aC G G G<|sd (nU G G)<|sd (aN kX G G)<|sE ?_;intro a H
 refine aM H rfl S eY ?_;intro b6 _ a hb6 hbw6 S H
 refine aI H S (i:=0) G G G G bE G G ?_
 clear H a S;intro _ a S H;refine k2 _ _ ?_;replace H:=H.keep [4,6] rfl;replace S:=S.drew;refine cQ [(0,true),(1,true),(2,true),(3,true),(4,true),(5,true),(6,false),(7,true)] (by kernel_rfl) (by kernel_rfl) (S.sel [0,2,3] G G) fun K3 k3=>?_
 refine qF H<|qd G (fun _ S=>(aD eO bE rfl S (i:=0) G G))<|qd G (fun _ S=>(aF cH rfl))<|qd G (fun _ S=>aE aC rfl (aIo S (i:=0) G G))<|qd G (fun _ S=>(aF cA rfl))<|qd G (fun _ S=>aE aC rfl (aIo S (i:=0) G G))<|qr 1 G<|qK ?_;intro a H
 refine bD rfl ?_
 refine aI H S (i:=1) G G G G bE G G ?_
 clear H a S;intro _ a S H;refine wpList_nil (And.intro (S.sel [0,2,3] G G) ?_);refine qF H<|qr 1 G<|qK ?_;intro a H
 refine bY ?_
 refine k3 _ _ ?_;refine wp_ret ?_;refine retA1 (fn:=Tryz.f100) rfl H rfl eO (by exact bE) (cY S (i:=1) rfl) rfl ?_;exact ⟨rfl,(S.sel [] G G)⟩
end
section
theorem uI (rates:List (Int×Int)) (pwn ptn pag:Int) (RA:Option Addr) (rcp:Nat) (l:List Use) (A:Option Addr) (cp:Nat) (w:World) (hr:InS w noF 2 RA rates.length (scell rates)) (hrn:rates.length≤9223372036854775807) (hl:InS w noF 6 A l.length (ucell l)) (hn:l.length≤9223372036854775807) (hok:PartOk (⟨rates,pwn,ptn,pag⟩:Part) l) :
    Calls Tryz.prog 98 [.agg [.slice RA rates.length rcp,.int .i64 pwn,.int .i64 ptn,.int .i64 pag].toArray,.slice A l.length cp].toArray w (Ret (fun v w'=>∃ n A' c',IsAt (⟨rates,pwn,ptn,pag⟩:Part) l n∧v = .tuple #[.slice A' n c',.int .i64 (n:Int)]∧St w noF [ownM 79 2 A' n c' (fcell (fun q=>fwd (⟨rates,pwn,ptn,pag⟩:Part) l (q+1)))] w')):=by
 refine enter Tryz.func98 rfl Tryz.ntmps98 rfl (fun a H=>?_)
 have S:=St.start w
 refine aA fun K1 k1=>?_
 refine aO H rfl S G G ?_;intro b2 _ a hb2 hbw2 S H
 refine ls 2 H<|sr 2 G<|sE ?_;intro a H
 refine k1 _ _ ?_;refine aA fun K2 k2=>?_
 refine aM H rfl S eY ?_;intro b6 _ a hb6 hbw6 S H
 refine k2 _ _ ?_;refine wp_seq_k fun K3 k3=>?_
 refine sS H fun K4 k4=>sr 1 G<|sL cJ rfl<|sr 1 G<|sE ?_;intro a H
 refine k4 _ ?_;refine wp_block ?_;replace S:=S.newNil 79 2 (fcell (fun q=>fwd (⟨rates,pwn,ptn,pag⟩:Part) l (q+1)));refine loop_st (X:=Nat×Option Addr×Nat) (R0:=_) [1,2,6,11,12] H rfl (fun ⟨k,A',c'⟩=>[(4,.slice A' k c'),(13,.int .i64 (k:Int))]) (fun ⟨k,A',c'⟩=>[boxM b6 79 [.int .i64 (fwd (⟨rates,pwn,ptn,pag⟩:Part) l k).1,.int .i64 (fwd (⟨rates,pwn,ptn,pag⟩:Part) l k).2],ownM 79 2 A' k c' (fcell (fun q=>fwd (⟨rates,pwn,ptn,pag⟩:Part) l (q+1)))]) (fun g ⟨k,A',c'⟩=>k≤l.length∧g+k=l.length∧∀ q,q<k→fits (⟨rates,pwn,ptn,pag⟩:Part) l q) (l.length) (0,none,0) ?_ (S.sel [1,0,2] G G) (H.keep [4,13,1,2,6,11,12] rfl) ?_
 · exact ⟨by omega,by omega,fun q hq=>by omega⟩
 clear H S a;intro g1 x1 a w1 hp S H K5 k5;obtain ⟨k,A',c'⟩:=x1;dsimp only at hp S H;refine sS H fun K6 k6=>sr 1 G<|sE ?_;intro a H
 refine k6 _ ?_;refine wp_seq_k fun K7 k7=>?_
 refine condL H rfl (fun hc1=>?_) (fun hc1=>?_)
 ·skip
  refine wp_skip ?_;refine k7 _ _ ?_;refine wp_seq_k fun K8 k8=>?_
  refine wp_block ?_;have hu:=hok.use (k:=k) (by omega);unfold useOk at hu;simp only [decide_eq_true_eq] at hu;have hgb:=lA hok (k:=k) (by omega)
  have hcls:0≤(l.getD k aJm).cls∧(l.getD k aJm).cls<rates.length:=by
    have:((⟨rates,pwn,ptn,pag⟩:Part).rates.length:Int)=rates.length:=rfl
    omega
  have hll:=hok.len
  have hfb:=Bu hok k (by omega)
  refine aA fun K9 k9=>?_
  refine ls 3 H<|sr 1 G<|si cJ bZ G G (hl.adr (by omega)) (by omega)<|sd ((aV jR bZ rfl S hl (by omega) (by omega)))<|sE ?_;intro a H
  refine aM H rfl S gJ ?_;intro b8 _ a hb8 hbw8 S H
  refine ls 1 H<|sr 1 G<|sE ?_;intro a H
  refine aI H S (i:=0) G G G G bZ G G ?_
  clear H a S;intro _ a S H;refine k9 _ _ ?_;replace H:=H.keep [1,2,4,6,7,8,11,12,13] rfl;refine aA fun K10 k10=>?_
  refine ls 2 H<|sd ((aD dJ eE rfl S (i:=3) G G))<|sd ((aD jR bZ rfl S (i:=0) G G))<|sE ?_;intro a H
  refine aB H G G Tryz.func99 G G (iJ rates pwn ptn pag RA rcp (l.getD k aJm) _ (hr.now S) hrn hcls (by unfold i64ok;omega) (by unfold i64ok;omega)) ?_;clear H a
  rintro _ _ a ⟨rfl,S2⟩ H;replace S:=S.call S2;clear S2;refine aM H rfl S eY ?_;intro b9 _ a hb9 hbw9 S H;refine aI H S (i:=0) rfl rfl rfl rfl bE rfl rfl ?_;clear H a S;intro _ a S H;refine k10 _ _ ?_;replace H:=H.keep [1,2,4,6,7,8,9,11,12,13] rfl;refine aA fun K11 k11=>?_
  refine ls 11 H<|sf cH rfl<|sl S 2 aC G G G<|sf cH rfl<|sl S 0 aC G G G<|sd (aH G G (by unfold i64ok;omega))<|sf cA rfl<|sl S 2 aC G G G<|sf cA rfl<|sl S 0 aC G G G<|sd (aH G G (by unfold i64ok;omega))<|sd (aN kX G G)<|sE ?_;intro a H
  refine aI H S (i:=2) G G G G bE G G ?_
  clear H a S;intro _ a S H;refine k11 _ _ ?_;refine wp_seq_k fun K12 k12=>?_
  replace H:=H.keep [1,2,4,6,7,8,11,12,13] rfl;refine sS H fun K13 k13=>sf mE rfl<|sl S 1 jF G G G<|sE ?_;intro a H
  refine k13 _ ?_;refine aU H rfl (fun hc2=>?_) (fun hc2=>?_)
  ·skip
   try simp only [oz] at hc2
   refine sS H fun K14 k14=>sr 1 G<|sE ?_;intro a H
   refine k14 _ ?_;replace H:=H.keep [1,2,4,6,7,8,11,12,13] rfl;refine aA fun K15 k15=>?_
   refine ls 3 H<|sd ((aD eO bE rfl S (i:=2) G G))<|sf gC rfl<|sd ((aD eO bE rfl S (i:=1) G G))<|sE ?_;intro a H
   refine aB H G G Tryz.func100 G G (iH _ _ _ _ _) ?_;clear H a
   rintro _ _ a ⟨rfl,S2⟩ H;replace S:=S.call S2;clear S2;refine ls 3 H<|sr 3 G<|sE ?_;intro a H
   refine aI H S (i:=2) G G G G bE G G ?_
   clear H a S;intro _ a S H;refine ls 1 H<|sr 1 G<|sE ?_;intro a H
   refine k15 _ _ ?_;replace H:=H.keep [1,2,4,6,7,10,11,12,13] rfl;refine sS H fun K16 k16=>sr 2 G<|sE ?_;intro a H
   refine k16 _ ?_;refine aU H rfl (fun hc3=>?_) (fun hc3=>?_)
   ·skip
    try simp only [oz] at hc3
    refine sS H fun K17 k17=>sr 4 G<|sE ?_;intro a H
    refine k17 _ ?_;refine wp_ret ?_;refine ret2 (fn:=Tryz.f98) rfl H G G ?_;refine ⟨k,A',c',⟨by omega,hp.2.2,fun _ hf=>?_⟩,rfl,(S.sel [3] G G)⟩;have h9:=hf hc2;rw [xM hc2] at h9;exact absurd h9 (Int.not_le.2 hc3)
   try simp only [oz] at hc3
   refine wp_skip ?_;refine k12 _ _ ?_;have e9:=(by first|exact xM (p:=(⟨rates,pwn,ptn,pag⟩:Part)) hc2|exact vG (p:=(⟨rates,pwn,ptn,pag⟩:Part)) hc2:fwd (⟨rates,pwn,ptn,pag⟩:Part) l (k+1)=_);replace H:=H.keep [1,2,4,6,11,12,13] rfl;refine cN ?_;refine ls 2 H<|sr 1 G<|sd ((aD eO bE rfl S (i:=2) G G))<|sE ?_;intro a H
   refine aK H rfl S dB bE eY G G G G G G G G G ?_;intro A1 _ a hA1 S H
   refine aT H rfl S dB bE eY Js G G (i:=4) G G G (aIr S (i:=0) rfl) (lV (two G G)) (by omega) (by omega) ?_;intro A2 c2 _ a S H
   replace S:=S.recell (i:=4) rfl (cell':=fcell (fun q=>fwd (⟨rates,pwn,ptn,pag⟩:Part) l (q+1))) (xN (two (by show _=Value.int .i64 (fwd (⟨rates,pwn,ptn,pag⟩:Part) l (k+1)).1;rw [e9];rfl) (by show _=Value.int .i64 (fwd (⟨rates,pwn,ptn,pag⟩:Part) l (k+1)).2;rw [e9];rfl)));refine ls 1 H<|sr 1 G<|sE ?_;intro a H
   refine k8 _ _ ?_;refine sO H<|sd (aH G G (by unfold i64ok;omega))<|sr 1 G<|sE ?_;intro a H
   replace S:=aIs S (i:=3) (cs':=[.int .i64 (fwd (⟨rates,pwn,ptn,pag⟩:Part) l (k+1)).1,.int .i64 (fwd (⟨rates,pwn,ptn,pag⟩:Part) l (k+1)).2]) rfl (by rw [e9];rfl)
   exact k5 (g1-1) (k+1,_,_) a _ (by omega) (⟨by omega,by omega,fun q hq=>by
     by_cases h:q=k
     · subst h;first|exact sA hc2|(intro _;rw [e9];exact hc3)
     · exact hp.2.2 q (by omega)⟩) (S.sel [3,4,5] G G) (H.keep [4,13,1,2,6,11,12] rfl)
  try simp only [oz] at hc2
  refine wp_skip ?_;refine k12 _ _ ?_;have e9:=(by first|exact xM (p:=(⟨rates,pwn,ptn,pag⟩:Part)) hc2|exact vG (p:=(⟨rates,pwn,ptn,pag⟩:Part)) hc2:fwd (⟨rates,pwn,ptn,pag⟩:Part) l (k+1)=_);replace H:=H.keep [1,2,4,6,11,12,13] rfl;refine cN ?_;refine ls 2 H<|sr 1 G<|sd ((aD eO bE rfl S (i:=2) G G))<|sE ?_;intro a H
  refine aK H rfl S dB bE eY G G G G G G G G G ?_;intro A3 _ a hA3 S H
  refine aT H rfl S dB bE eY Js G G (i:=4) G G G (aIr S (i:=0) rfl) (lV (two G G)) (by omega) (by omega) ?_;intro A4 c4 _ a S H
  replace S:=S.recell (i:=4) rfl (cell':=fcell (fun q=>fwd (⟨rates,pwn,ptn,pag⟩:Part) l (q+1))) (xN (two (by show _=Value.int .i64 (fwd (⟨rates,pwn,ptn,pag⟩:Part) l (k+1)).1;rw [e9];rfl) (by show _=Value.int .i64 (fwd (⟨rates,pwn,ptn,pag⟩:Part) l (k+1)).2;rw [e9];rfl)));refine ls 1 H<|sr 1 G<|sE ?_;intro a H
  refine k8 _ _ ?_;refine sO H<|sd (aH G G (by unfold i64ok;omega))<|sr 1 G<|sE ?_;intro a H
  replace S:=aIs S (i:=3) (cs':=[.int .i64 (fwd (⟨rates,pwn,ptn,pag⟩:Part) l (k+1)).1,.int .i64 (fwd (⟨rates,pwn,ptn,pag⟩:Part) l (k+1)).2]) rfl (by rw [e9];rfl)
  exact k5 (g1-1) (k+1,_,_) a _ (by omega) (⟨by omega,by omega,fun q hq=>by
    by_cases h:q=k
    · subst h;first|exact sA hc2|(intro _;rw [e9];exact hc3)
    · exact hp.2.2 q (by omega)⟩) (S.sel [3,4,5] G G) (H.keep [4,13,1,2,6,11,12] rfl)
 refine wp_exit ?_;refine k3 _ _ ?_;replace H:=H.keep [1,4] rfl;refine sS H fun K22 k22=>sr 2 G<|sL cJ rfl<|sr 2 G<|sE ?_;intro a H
 refine k22 _ ?_;refine wp_ret ?_;refine ret2 (fn:=Tryz.f98) rfl H G G ?_;have hk9:k=l.length:=by omega
 subst hk9;exact ⟨_,A',c',⟨Nat.le_refl _,hp.2.2,fun h=>absurd h (Nat.lt_irrefl _)⟩,rfl,(S.sel [1] G G)⟩
end
end Go.Proofs.YtopmadlgolnmfaaGreat
