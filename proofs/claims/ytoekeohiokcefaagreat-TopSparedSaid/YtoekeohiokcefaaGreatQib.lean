/- Part 2 of the proof. -/
import Derived.Test.YtoekeohiokcefaaGreatQia
namespace Go.Proofs.YtoekeohiokcefaaGreat
open Go.RowKit
set_option linter.unusedVariables false
set_option linter.unusedSimpArgs false
set_option maxRecDepth 100000
set_option maxHeartbeats 4000000
section
structure Psg where
  a:Int
  b:Int
  kind:Int
  ticks:Int
  wide:Int
  mach:Int
  still:Int
def Psg.zero:Psg:=⟨0,0,0,0,0,0,0⟩
def Psg.cell (p:Psg):Nat→Value
  | 0 => .int .i64 p.a
  | 1 => .int .i64 p.b
  | 2 => .int .i64 p.kind
  | 3 => .int .i64 p.ticks
  | 4 => .int .i64 p.wide
  | 5 => .int .i64 p.mach
  | _ => .int .i64 p.still
def pcell (l:List Psg) (k j:Nat):Value:=(l.getD k Psg.zero).cell j
structure Mv where
  pas:Int
  fr:Int
  at_:Int
  many:Int
def Mv.zero:Mv:=⟨0,0,0,0⟩
def Mv.none:Mv:=⟨-1,0,0,0⟩
def Mv.cells (m:Mv):List Value:=[.int .i64 m.pas,.int .i64 m.fr,.int .i64 m.at_,.int .i64 m.many]
def Mv.cell (m:Mv):Nat→Value
  | 0 => .int .i64 m.pas
  | 1 => .int .i64 m.fr
  | 2 => .int .i64 m.at_
  | _ => .int .i64 m.many
structure Ent where
  to:Nat
  room:Int
  back:Nat
  mv:Mv
def Ent.zero:Ent:=⟨0,0,0,Mv.zero⟩
def Ent.cell (x:Ent):Nat→Value
  | 0 => .int .i64 (x.to:Int)
  | 1 => .int .i64 x.room
  | 2 => .int .i64 (x.back:Int)
  | 3 => .int .i64 x.mv.pas
  | 4 => .int .i64 x.mv.fr
  | 5 => .int .i64 x.mv.at_
  | _ => .int .i64 x.mv.many
abbrev Tab:=Nat→List Ent
def tcell (T:Tab) (i k j:Nat):Value:=((T i).getD k Ent.zero).cell j
def hdc (A:Nat→Option Addr) (n c:Nat→Nat) (i _j:Nat):Value := .slice (A i) (n i) (c i)
def tlen (T:Tab) (i:Nat):Nat:=(T i).length
def joinT (T:Tab) (f t:Nat) (room:Int) (mv:Mv):Tab:=
  upd (upd T f (T f++[⟨t,room,(T t).length,mv⟩])) t (T t++[⟨f,0,(T f).length,Mv.none⟩])
def Tab.net (T:Tab) (k:Nat):Net:=⟨k,tlen T,fun i j=>((T i).getD j Ent.zero).to,fun i j=>((T i).getD j Ent.zero).back⟩
def Tab.room (T:Tab):RM:=fun i j=>((T i).getD j Ent.zero).room
def Tab.mv (T:Tab):Nat→Nat→Mv:=fun i j=>((T i).getD j Ent.zero).mv
def edgeC (N:Net) (r:RM) (mv:Nat→Nat→Mv) (i k:Nat):Nat→Value
  | 0 => .int .i64 (N.to i k:Int)
  | 1 => .int .i64 (r i k)
  | 2 => .int .i64 (N.back i k:Int)
  | 3 => .int .i64 (mv i k).pas
  | 4 => .int .i64 (mv i k).fr
  | 5 => .int .i64 (mv i k).at_
  | _ => .int .i64 (mv i k).many
theorem Dp (T:Tab) (k:Nat):tcell T=edgeC (T.net k) T.room T.mv:=by
  funext i q j
  unfold tcell edgeC Ent.cell Tab.net Tab.room Tab.mv
  match j with
  | 0=>rfl
  | 1=>rfl
  | 2=>rfl
  | 3=>rfl
  | 4=>rfl
  | 5=>rfl
  | _+6=>rfl
theorem Hv {N:Net} {r:RM} {mv:Nat→Nat→Mv} {p q:Nat} {v:Int}:upd (edgeC N r mv) p (cput (edgeC N r mv p) q 1 (.int .i64 v))=edgeC N (put2 r p q v) mv:=by
  funext i k j
  unfold upd cput
  by_cases h:i=p
  · subst h
    rw [if_pos rfl]
    by_cases h2:k=q∧j=1
    · obtain ⟨rfl,rfl⟩:=h2
      rw [if_pos ⟨rfl,rfl⟩]
      simp only [edgeC,mO]
    · skip
      rw [if_neg h2]
      match j with
      | 0=>rfl
      | 1=>simp only [edgeC];rw [jC (fun h=>h2 ⟨h.2,rfl⟩)]
      | 2=>rfl
      | 3=>rfl
      | 4=>rfl
      | 5=>rfl
      | _+6=>rfl
  · rw [if_neg h]
    match j with
    | 0=>rfl
    | 1=>simp only [edgeC];rw [jC (fun h2=>h h2.1)]
    | 2=>rfl
    | 3=>rfl
    | 4=>rfl
    | 5=>rfl
    | _+6=>rfl
def lcl (L:Nat→Int) (i _j:Nat):Value := .int .i64 (L i)
def ncl (n:Nat→Nat) (i _j:Nat):Value := .int .i64 (n i:Int)
theorem Rp {n:Nat→Nat} {p v:Nat} {x:Int} (h:x=(v:Int)):cput (ncl n) p 0 (.int .i64 x)=fun i j=>if j=0 then ncl (upd n p v) i j else ncl n i j:=by
  subst h
  funext i j
  unfold cput ncl upd
  by_cases h1:i=p <;> by_cases h2:j=0 <;> simp [h1,h2]
def hasI (l:List Int) (x:Int):Bool:=l.any fun y=>decide (x=y)
structure Hd where
  pas:Int
  fr:Int
  to:Int
  ticks:Int
  wide:Int
def Hd.zero:Hd:=⟨0,0,0,0,0⟩
def Hd.cells (h:Hd):List Value:=[.int .i64 h.pas,.int .i64 h.fr,.int .i64 h.to,.int .i64 h.ticks,.int .i64 h.wide]
def bitI (out m:Int):Int:=out/2^m.toNat%2
def gU (out:Int) (p:Psg):Int:=if p.kind=3∧¬ bitI out p.mach=0 then p.still else p.ticks
def lE (out:Int) (p:Psg):Bool:=!(decide (p.kind=3)&&decide (bitI out p.mach=0))
theorem Mn {out:Int} {p:Psg} (h:p.kind=3∧out/2^p.mach.toNat%2=0):false=lE out p:=by unfold lE bitI;rw [decide_eq_true h.1,decide_eq_true h.2];rfl
theorem Am {out:Int} {p:Psg} (h:¬ p.kind=3∨¬ out/2^p.mach.toNat%2=0):true=lE out p:=by
  unfold lE bitI
  rcases h with h|h
  · rw [decide_eq_false h];rfl
  · rw [decide_eq_false h,Bool.and_false];rfl
def hdsA (out:Int) (xs:List Int) (k:Nat) (p:Psg):List Hd:=if hasI xs p.a=true then [] else [⟨k,p.a,p.b,gU out p,p.wide⟩]
def hdsB (out:Int) (xs:List Int) (k:Nat) (p:Psg):List Hd:=if (lE out p&&!hasI xs p.b)=true then [⟨k,p.b,p.a,gU out p,p.wide⟩] else []
def hdsOf (out:Int) (xs:List Int) (k:Nat) (p:Psg):List Hd:=if p.kind=4 then [] else hdsA out xs k p++hdsB out xs k p
def hdsTo (out:Int) (xs:List Int) (ps:List Psg):Nat→List Hd
  | 0=>[]
  | k+1=>hdsTo out xs ps k++hdsOf out xs k (ps.getD k Psg.zero)
def hds (out:Int) (xs:List Int) (ps:List Psg):List Hd:=hdsTo out xs ps ps.length
section
variable {out:Int} {xs:List Int} {ps:List Psg} {k:Nat}
theorem Rq:∀ {n k:Nat},k≤n→∃ t,hdsTo out xs ps n=hdsTo out xs ps k++t:=by
  intro n
  induction n with
  | zero => intro k hk;have:k=0:=by omega
            subst this;exact ⟨[],by simp⟩
  | succ n ih=>
    intro k hk
    by_cases e:k=n+1
    · subst e;exact ⟨[],by simp⟩
    · obtain ⟨t,ht⟩:=ih (k:=k) (by omega)
      exact ⟨t++hdsOf out xs n (ps.getD n Psg.zero),by rw [hdsTo,ht,List.append_assoc]⟩
theorem Mo (hk:k<ps.length) {j:Nat} {h:Hd} (hj:(hdsOf out xs k (ps.getD k Psg.zero))[j]?=some h):(hds out xs ps).getD ((hdsTo out xs ps k).length+j) Hd.zero=h∧(hdsTo out xs ps k).length+j<(hds out xs ps).length:=by
  obtain ⟨t,ht⟩:=Rq (out:=out) (xs:=xs) (ps:=ps) (n:=ps.length) (k:=k+1) (by omega)
  have hjl:=(List.getElem?_eq_some_iff.1 hj).1
  unfold hds
  rw [ht,hdsTo]
  refine ⟨?_,by simp only [List.length_append];omega⟩
  rw [List.getD_eq_getElem?_getD,List.append_assoc,List.getElem?_append_right (by omega),List.getElem?_append_left (by omega),show (hdsTo out xs ps k).length+j-(hdsTo out xs ps k).length=j by omega,hj]
  rfl
theorem Hw (hk:k<ps.length) (h4:¬ (ps.getD k Psg.zero).kind=4) (ha:hasI xs (ps.getD k Psg.zero).a=false) :
    (hds out xs ps).getD (hdsTo out xs ps k).length Hd.zero=⟨k,(ps.getD k Psg.zero).a,(ps.getD k Psg.zero).b,gU out (ps.getD k Psg.zero),(ps.getD k Psg.zero).wide⟩∧(hdsTo out xs ps k).length<(hds out xs ps).length:=
  Mo (out:=out) (xs:=xs) hk (j:=0) (by unfold hdsOf hdsA;rw [if_neg h4,if_neg (by rw [ha];simp)];rfl)
def qA (xs:List Int) (p:Psg):Nat:=if hasI xs p.a=true then 0 else 1
def qB (out:Int) (xs:List Int) (p:Psg):Nat:=if (lE out p&&!hasI xs p.b)=true then 1 else 0
theorem Dq (hk:k<ps.length) (h4:¬ (ps.getD k Psg.zero).kind=4) (hb:(lE out (ps.getD k Psg.zero)&&!hasI xs (ps.getD k Psg.zero).b)=true) :
    (hds out xs ps).getD ((hdsTo out xs ps k).length+qA xs (ps.getD k Psg.zero)) Hd.zero=⟨k,(ps.getD k Psg.zero).b,(ps.getD k Psg.zero).a,gU out (ps.getD k Psg.zero),(ps.getD k Psg.zero).wide⟩∧(hdsTo out xs ps k).length+qA xs (ps.getD k Psg.zero)<(hds out xs ps).length:=
  Mo (out:=out) (xs:=xs) hk (j:=qA xs (ps.getD k Psg.zero)) (by
    unfold hdsOf hdsA hdsB qA
    rw [if_neg h4,if_pos hb]
    by_cases h:hasI xs (ps.getD k Psg.zero).a=true
    · rw [if_pos h,if_pos h];rfl
    · rw [if_neg h,if_neg h];rfl)
theorem jE (h4:¬ (ps.getD k Psg.zero).kind=4):(hdsTo out xs ps (k+1)).length=(hdsTo out xs ps k).length+qA xs (ps.getD k Psg.zero)+qB out xs (ps.getD k Psg.zero):=by
  rw [hdsTo,List.length_append]
  unfold hdsOf hdsA hdsB qA qB
  rw [if_neg h4,List.length_append]
  split <;> split <;> simp
theorem mB (h4:(ps.getD k Psg.zero).kind=4):(hdsTo out xs ps (k+1)).length=(hdsTo out xs ps k).length:=by
  rw [hdsTo,List.length_append]
  unfold hdsOf
  rw [if_pos h4]
  rfl
theorem Wa:∀ k,(hdsTo out xs ps k).length≤2*k:=by
  intro k
  induction k with
  | zero=>simp [hdsTo]
  | succ k ih=>
    by_cases h4:(ps.getD k Psg.zero).kind=4
    · rw [mB h4];omega
    · rw [jE h4]
      have h1:qA xs (ps.getD k Psg.zero)≤1:=by unfold qA;split <;> omega
      have h2:qB out xs (ps.getD k Psg.zero)≤1:=by unfold qB;split <;> omega
      omega
theorem bk3 (b h:Bool):b=false∨(b=true∧h=true)∨(b=true∧h=false):=by cases b <;> cases h <;> simp
end
structure Jn where
  f:Nat
  t:Nat
  room:Int
  mv:Mv
def joins (J:List Jn):Tab:=J.foldl (fun T j=>joinT T j.f j.t j.room j.mv) (fun _=>[])
theorem iE (J:List Jn) (j:Jn):joins (J++[j])=joinT (joins J) j.f j.t j.room j.mv:=by unfold joins;rw [List.foldl_append];rfl
theorem Hx (J:List Jn) (hne:∀ j ∈ J,j.f≠j.t) (i:Nat):(joins J i).length≤J.length:=by
  have key:∀ (n:Nat) (J:List Jn),J.length=n→(∀ j ∈ J,j.f≠j.t)→(joins J i).length≤n:=by
    intro n
    induction n with
    | zero => intro J h _;have:J=[]:=List.eq_nil_of_length_eq_zero h
              subst this;exact Nat.le_refl 0
    | succ n ih=>
      intro J h hn
      obtain ⟨J',j,rfl⟩:∃ J' j,J=J'++[j]:=⟨J.dropLast,J.getLast (by intro e;subst e;simp at h),(List.dropLast_concat_getLast _).symm⟩
      have h1:=ih J' (by simpa using h) (fun x hx=>hn x (List.mem_append_left _ hx))
      have h2:=hn j (List.mem_append_right _ (by simp))
      rw [iE]
      unfold joinT upd
      split
      · rename_i e
        subst e
        simp;omega
      · split
        · rename_i e;subst e;simp;omega
        · omega
  exact key _ J rfl hne
def nd (P t p:Nat):Nat:=P*t+p
theorem oZ {P T t p:Nat} (ht:t≤T) (hp:p<P):nd P t p<P*(T+1):=by
  have:P*(t+1)≤P*(T+1):=Nat.mul_le_mul_left _ (by omega)
  rw [Nat.mul_add] at this
  unfold nd
  omega
theorem Vf {P t t' p p':Nat} (ht:t<t') (hp:p<P):nd P t p≠nd P t' p':=by
  have:P*(t+1)≤P*t':=Nat.mul_le_mul_left _ (by omega)
  rw [Nat.mul_add] at this
  unfold nd
  omega
def yB:Int:=1099511627776
def jBeg (P T:Nat) (pe:List Int) (p:Nat):Jn:=⟨P*(T+1),nd P 0 p,pe.getD p 0,Mv.none⟩
def jWait (P p t:Nat):Jn:=⟨nd P t p,nd P (t+1) p,yB,Mv.none⟩
def jExit (P T p t:Nat):Jn:=⟨nd P t p,P*(T+1)+1,yB,Mv.none⟩
def cV (P p n:Nat):List Jn:=(List.range n).map (jWait P p)
def eQ (P T p n:Nat):List Jn:=(List.range n).map (jExit P T p)
def jQ (P T:Nat) (pe xs:List Int) (p:Nat):List Jn:=jBeg P T pe p::(cV P p T++(if hasI xs p=true then eQ P T p (T+1) else []))
def bB (P T:Nat) (pe xs:List Int):Nat→List Jn
  | 0=>[]
  | p+1=>bB P T pe xs p++jQ P T pe xs p
def jHead (P:Nat) (h:Hd) (t:Nat):Jn:=⟨nd P t h.fr.toNat,nd P (t+h.ticks.toNat) h.to.toNat,h.wide,⟨h.pas,h.fr,t,0⟩⟩
def gB (P:Nat) (h:Hd) (n:Nat):List Jn:=(List.range n).map (jHead P h)
def dW (P T:Nat) (hs:List Hd):Nat→List Jn
  | 0=>[]
  | i+1=>dW P T hs i++gB P (hs.getD i Hd.zero) (T+1-(hs.getD i Hd.zero).ticks.toNat)
def jAll (P T:Nat) (pe xs:List Int) (hs:List Hd):List Jn:=bB P T pe xs P++dW P T hs hs.length
theorem nS {f:Nat→Jn} (n:Nat):(List.range (n+1)).map f=(List.range n).map f++[f n]:=by rw [List.range_succ,List.map_append];rfl
section
variable {P T:Nat} {pe xs:List Int} {hs:List Hd}
def JOk (P T:Nat) (j:Jn):Prop:=j.f≠j.t∧j.f<P*(T+1)+2∧j.t<P*(T+1)+2
theorem pA {p:Nat} (hp:p<P):JOk P T (jBeg P T pe p):=by
  have:=oZ (P:=P) (T:=T) (Nat.zero_le T) hp
  exact ⟨by show P*(T+1)≠nd P 0 p;omega,by show P*(T+1)<_;omega,by show nd P 0 p<_;omega⟩
theorem mC {p t:Nat} (hp:p<P) (ht:t<T):JOk P T (jWait P p t):=by
  have h1:=oZ (P:=P) (T:=T) (show t≤T by omega) hp
  have h2:=oZ (P:=P) (T:=T) (show t+1≤T by omega) hp
  exact ⟨Vf (by omega) hp,by show nd P t p<_;omega,by show nd P (t+1) p<_;omega⟩
theorem mD {p t:Nat} (hp:p<P) (ht:t≤T):JOk P T (jExit P T p t):=by
  have h1:=oZ (P:=P) (T:=T) ht hp
  exact ⟨by show nd P t p≠P*(T+1)+1;omega,by show nd P t p<_;omega,by show P*(T+1)+1<_;omega⟩
theorem mE {h:Hd} {t:Nat} (h1:h.fr.toNat<P) (h2:h.to.toNat<P) (hd:1≤h.ticks.toNat) (ht:t+h.ticks.toNat≤T):JOk P T (jHead P h t):=by
  have h3:=oZ (P:=P) (T:=T) (show t≤T by omega) h1
  have h4:=oZ (P:=P) (T:=T) ht h2
  exact ⟨Vf (by omega) h1,by show nd P t h.fr.toNat<_;omega,by show nd P (t+h.ticks.toNat) h.to.toNat<_;omega⟩
theorem Hy {p:Nat} (hp:p<P):∀ j ∈ jQ P T pe xs p,JOk P T j:=by
  intro j hj
  unfold jQ cV eQ at hj
  rcases List.mem_cons.1 hj with rfl|hj
  · exact pA hp
  · rcases List.mem_append.1 hj with hj|hj
    · obtain ⟨t,ht,rfl⟩:=List.mem_map.1 hj
      exact mC hp (List.mem_range.1 ht)
    · split at hj
      · obtain ⟨t,ht,rfl⟩:=List.mem_map.1 hj
        exact mD hp (by have:=List.mem_range.1 ht;omega)
      · cases hj
theorem nT:∀ {n:Nat},n≤P→∀ j ∈ bB P T pe xs n,JOk P T j:=by
  intro n
  induction n with
  | zero=>intro _ j hj;cases hj
  | succ n ih=>
    intro hn j hj
    rcases List.mem_append.1 hj with hj|hj
    · exact ih (by omega) j hj
    · exact Hy (by omega) j hj
theorem rF:∀ n,(bB P T pe xs n).length≤n*(2*T+2):=by
  intro n
  induction n with
  | zero=>simp [bB]
  | succ n ih=>
    have:(jQ P T pe xs n).length≤2*T+2:=by
      unfold jQ cV eQ
      split <;> simp <;> omega
    rw [bB,List.length_append,Nat.add_mul]
    omega
def HdOk (P:Nat) (h:Hd):Prop:=(0≤h.fr∧h.fr<P)∧(0≤h.to∧h.to<P)∧(1≤h.ticks∧h.ticks≤20)
theorem vY (hh:∀ i,i<hs.length→HdOk P (hs.getD i Hd.zero)):∀ {n:Nat},n≤hs.length→∀ j ∈ dW P T hs n,JOk P T j:=by
  intro n
  induction n with
  | zero=>intro _ j hj;cases hj
  | succ n ih=>
    intro hn j hj
    rcases List.mem_append.1 hj with hj|hj
    · exact ih (by omega) j hj
    · obtain ⟨t,ht,rfl⟩:=List.mem_map.1 hj
      have h1:=hh n (by omega)
      unfold HdOk at h1
      have:=List.mem_range.1 ht
      exact mE (by omega) (by omega) (by omega) (by omega)
theorem Dr:∀ n,(dW P T hs n).length≤n*(T+1):=by
  intro n
  induction n with
  | zero=>simp [dW]
  | succ n ih=>
    rw [dW,List.length_append,Nat.add_mul]
    have:(gB P (hs.getD n Hd.zero) (T+1-(hs.getD n Hd.zero).ticks.toNat)).length≤T+1:=by unfold gB;simp
    omega
end
def allN (p:Nat→Bool):Nat→Bool
  | 0=>true
  | n+1=>allN p n&&p n
theorem bX {p:Nat→Bool}:∀ {n:Nat},allN p n=true↔∀ k,k<n→p k=true:=by
  intro n
  induction n with
  | zero=>exact ⟨fun _ k hk=>absurd hk (Nat.not_lt_zero k),fun _=>rfl⟩
  | succ n ih=>
    simp only [allN,Bool.and_eq_true,ih]
    constructor
    · rintro ⟨h1,h2⟩ k hk
      by_cases e:k=n
      · subst e;exact h2
      · exact h1 k (by omega)
    · intro h
      exact ⟨fun k hk=>h k (by omega),h n (by omega)⟩
theorem cK {p:Nat→Bool} {n:Nat} (h:allN p n=true) (hp:p n=true):allN p (n+1)=true:=by simp only [allN,h,hp];rfl
theorem gC {p:Nat→Bool} {n k:Nat} (hk:k<n) (h:p k=false):allN p n=false:=by
  cases ha:allN p n with
  | false=>rfl
  | true=>rw [bX.1 ha k hk] at h;cases h
def psgOk (P:Int) (p:Psg):Bool:=decide (0≤p.a∧p.a<P∧0≤p.b∧p.b<P∧p.a≠p.b∧1≤p.ticks∧p.ticks≤20∧1≤p.wide∧p.wide≤50 ∧
  ((p.kind=1∨p.kind=2∨p.kind=5)∧p.mach = -1∧p.still=0∨p.kind=3∧(0≤p.mach∧p.mach≤11)∧(1≤p.still∧p.still≤20)∨p.kind=4∧(0≤p.mach∧p.mach≤11)∧p.still=0))
def bI (ps:List Psg) (k:Nat):Int:=(ps.getD k Psg.zero).mach
def cntM (ps:List Psg) (m:Int) (k:Nat):Int:=sm (fun j=>if bI ps j=m then 1 else 0) k
theorem Fm {ps:List Psg} {m:Int} {k:Nat}:0≤cntM ps m k:=iC fun i _=>by split <;> omega
theorem Rr {ps:List Psg} {m:Int}:∀ k,cntM ps m k≤k:=by
  intro k
  induction k with
  | zero=>exact Int.le_refl 0
  | succ k ih=>unfold cntM at ih ⊢;rw [sm];split <;> omega
theorem Hz {ps:List Psg} {m:Int} {k:Nat}:cntM ps m k=0↔∀ j,j<k→bI ps j≠m:=by
  constructor
  · intro h j hj e
    have:=nO (f:=fun j=>if bI ps j=m then 1 else 0) (fun i _=>by split <;> omega) h j hj
    simp [e] at this
  · intro h
    exact rR fun i hi=>if_neg (h i hi)
def pasOk (P:Int) (ps:List Psg) (k:Nat):Bool:=psgOk P (ps.getD k Psg.zero)&&decide (bI ps k<0∨cntM ps (bI ps k) k=0)
def exOk (P:Int) (xs:List Int) (k:Nat):Bool:=decide (0≤xs.getD k 0∧xs.getD k 0<P∧(k=0∨xs.getD (k-1) 0<xs.getD k 0))
def stOk (P:Int) (ps:List Psg) (xs:List Int):Bool:=(decide (1≤P∧P≤10∧ps.length≤24)&&allN (pasOk P ps) ps.length)&&allN (exOk P xs) xs.length
def stE (P:Int) (ps:List Psg) (xs:List Int):Int:=if stOk P ps xs=true then 0 else 80
theorem Fo {P:Int} {ps:List Psg} {xs:List Int} (h:¬ (1≤P∧P≤10∧ps.length≤24)):stE P ps xs=80:=by
  unfold stE stOk;rw [decide_eq_false h];rfl
theorem lF {P:Int} {ps:List Psg} {xs:List Int} {k:Nat} (hk:k<ps.length) (h:pasOk P ps k=false):stE P ps xs=80:=by
  unfold stE stOk;rw [gC hk h,Bool.and_false];rfl
theorem Vg {P:Int} {ps:List Psg} {xs:List Int} {k:Nat} (hk:k<xs.length) (h:exOk P xs k=false):stE P ps xs=80:=by
  unfold stE stOk;rw [gC hk h,Bool.and_false];rfl
theorem Vh {P:Int} {ps:List Psg} {xs:List Int} (h1:1≤P∧P≤10∧ps.length≤24) (h2:allN (pasOk P ps) ps.length=true) (h3:allN (exOk P xs) xs.length=true):stE P ps xs=0:=by
  unfold stE stOk;rw [decide_eq_true h1,h2,h3];rfl
theorem Rs {P:Int} {ps:List Psg} {xs:List Int}:stE P ps xs=0↔stOk P ps xs=true:=by
  unfold stE;split <;> simp [*]
def CntMap (ps:List Psg) (k:Nat) (l:List (Int×Value)):Prop:=∀ m:Int,(getL l m).getD (.int .i64 0) = .int .i64 (cntM ps m k)
theorem CntMap.nil (ps:List Psg):CntMap ps 0 []:=fun m=>rfl
theorem CntMap.step {ps:List Psg} {k:Nat} {l:List (Int×Value)} (h:CntMap ps k l):CntMap ps (k+1) (setL l (bI ps k) (.int .i64 (cntM ps (bI ps k) k+1))):=by
  intro m
  rw [zX]
  unfold cntM
  rw [sm]
  by_cases e:m=bI ps k
  · subst e;rw [if_pos rfl,if_pos rfl];rfl
  · rw [if_neg e,if_neg (fun h=>e h.symm),Int.add_zero];exact h m
structure StV (P:Int) (ps:List Psg) (xs:List Int):Prop where
  size:1≤P∧P≤10∧ps.length≤24
  pas:∀ k,k<ps.length→psgOk P (ps.getD k Psg.zero)=true
  mach:∀ k,k<ps.length→0≤bI ps k→∀ j,j<k→bI ps j≠bI ps k
  ex:∀ k,k<xs.length→0≤xs.getD k 0∧xs.getD k 0<P∧(k=0∨xs.getD (k-1) 0<xs.getD k 0)
theorem gV {P:Int} {ps:List Psg} {xs:List Int} (h:stE P ps xs=0):StV P ps xs:=by
  have h1:=Rs.1 h
  unfold stOk at h1
  simp only [Bool.and_eq_true,decide_eq_true_eq] at h1
  obtain ⟨⟨h1,h2⟩,h3⟩:=h1
  refine ⟨h1,fun k hk=>?_,fun k hk h0=>?_,fun k hk=>?_⟩
  · have:=bX.1 h2 k hk
    unfold pasOk at this
    rw [Bool.and_eq_true] at this
    exact this.1
  · have:=bX.1 h2 k hk
    unfold pasOk at this
    simp only [Bool.and_eq_true,decide_eq_true_eq] at this
    exact Hz.1 (by omega)
  · have:=bX.1 h3 k hk
    unfold exOk at this
    simpa using this
theorem dD {P:Int} {p:Psg}:psgOk P p=true↔(0≤p.a∧p.a<P∧0≤p.b∧p.b<P∧p.a≠p.b∧1≤p.ticks∧p.ticks≤20∧1≤p.wide∧p.wide≤50 ∧
  ((p.kind=1∨p.kind=2∨p.kind=5)∧p.mach = -1∧p.still=0∨p.kind=3∧(0≤p.mach∧p.mach≤11)∧(1≤p.still∧p.still≤20)∨p.kind=4∧(0≤p.mach∧p.mach≤11)∧p.still=0)):=by
  unfold psgOk;rw [decide_eq_true_eq]
theorem fL {P:Int} {p:Psg} (h:¬ (0≤p.a∧p.a<P∧0≤p.b∧p.b<P∧p.a≠p.b∧1≤p.ticks∧p.ticks≤20∧1≤p.wide∧p.wide≤50 ∧
  ((p.kind=1∨p.kind=2∨p.kind=5)∧p.mach = -1∧p.still=0∨p.kind=3∧(0≤p.mach∧p.mach≤11)∧(1≤p.still∧p.still≤20)∨p.kind=4∧(0≤p.mach∧p.mach≤11)∧p.still=0))):psgOk P p=false:=by
  unfold psgOk;exact decide_eq_false h
theorem Ds {P:Nat} {ps:List Psg} {xs:List Int} {out:Int} (h:StV P ps xs):∀ i,i<(hds out xs ps).length→HdOk P ((hds out xs ps).getD i Hd.zero):=by
  have key:∀ n,n≤ps.length→∀ x ∈ hdsTo out xs ps n,HdOk P x:=by
    intro n
    induction n with
    | zero=>intro _ x hx;cases hx
    | succ n ih=>
      intro hn x hx
      rcases List.mem_append.1 hx with hx|hx
      · exact ih (by omega) x hx
      · have hp:=dD.1 (h.pas n (by omega))
        have ht:1≤gU out (ps.getD n Psg.zero)∧gU out (ps.getD n Psg.zero)≤20:=by
          unfold gU;split <;> omega
        unfold hdsOf hdsA hdsB at hx
        unfold HdOk
        split at hx
        · cases hx
        · rcases List.mem_append.1 hx with hx|hx
          · split at hx
            · cases hx
            · rw [List.mem_singleton.1 hx];dsimp only;omega
          · split at hx
            · rw [List.mem_singleton.1 hx];dsimp only;omega
            · cases hx
  intro i hi
  rw [List.getD_eq_getElem?_getD,List.getElem?_eq_getElem hi]
  exact key _ (Nat.le_refl _) _ (List.getElem_mem hi)
def eG (P:Int) (pe:List Int):Bool:=allN (fun k=>decide (0≤pe.getD k 0∧pe.getD k 0≤1000)) pe.length&&decide ((pe.length:Int)=P)
def cH (P:Int) (ps:List Psg) (xs:List Int) (out:Int) (pe:List Int) (T:Int):Int:=
  if stE P ps xs≠0 then stE P ps xs else if (decide (0≤out∧out≤4095)&&eG P pe&&decide (0≤T∧T≤60))=true then 0 else 1
theorem jH {P:Int} {ps:List Psg} {xs:List Int} {out:Int} {pe:List Int} {T:Int} (h:cH P ps xs out pe T=0):stE P ps xs=0∧(0≤out∧out≤4095)∧eG P pe=true∧(0≤T∧T≤60):=by
  unfold cH at h
  split at h
  · omega
  · rename_i h1
    split at h
    · rename_i h2
      simp only [Bool.and_eq_true,decide_eq_true_eq] at h2
      exact ⟨by omega,h2.1.1,h2.1.2,h2.2⟩
    · cases h
theorem pB {P:Int} {pe:List Int} (h:eG P pe=true):(∀ k,k<pe.length→0≤pe.getD k 0∧pe.getD k 0≤1000)∧(pe.length:Int)=P:=by
  unfold eG at h
  simp only [Bool.and_eq_true,decide_eq_true_eq] at h
  exact ⟨fun k hk=>by simpa using bX.1 h.1 k hk,h.2⟩
theorem mV {l:List Ent} {e:Ent} {j:Nat}:(l++[e]).getD j Ent.zero=if j=l.length then e else l.getD j Ent.zero:=by
  rw [List.getD_eq_getElem?_getD,List.getD_eq_getElem?_getD]
  by_cases h:j=l.length
  · subst h;rw [if_pos rfl,List.getElem?_append_right (Nat.le_refl _),Nat.sub_self];rfl
  · rw [if_neg h]
    rcases Nat.lt_or_ge j l.length with h1|h1
    · rw [List.getElem?_append_left h1]
    · rw [List.getElem?_append_right h1,List.getElem?_eq_none (by simp;omega),List.getElem?_eq_none h1]
section
variable {T:Tab} {f t k:Nat} {room:Int} {mv:Mv}
theorem An (hft:f≠t) (i:Nat):tlen (joinT T f t room mv) i=tlen T i+(if i=f then 1 else 0)+(if i=t then 1 else 0):=by
  unfold tlen joinT upd
  by_cases h1:i=t
  · subst h1
    rw [if_pos rfl,if_neg (fun e=>hft e.symm),if_pos rfl];simp
  · rw [if_neg h1,if_neg h1]
    by_cases h2:i=f
    · subst h2;rw [if_pos rfl,if_pos rfl];simp
    · rw [if_neg h2,if_neg h2];rfl
def entAt (T:Tab) (i j:Nat):Ent:=(T i).getD j Ent.zero
theorem Fp (hft:f≠t) (i j:Nat):entAt (joinT T f t room mv) i j=if i=f∧j=tlen T f then ⟨t,room,tlen T t,mv⟩ else if i=t∧j=tlen T t then ⟨f,0,tlen T f,Mv.none⟩ else entAt T i j:=by
  unfold entAt joinT upd tlen
  by_cases h1:i=t
  · subst h1
    rw [if_pos rfl,if_neg (fun h=>hft h.1.symm),mV]
    by_cases h2:j=(T i).length
    · rw [if_pos h2,if_pos ⟨rfl,h2⟩]
    · rw [if_neg h2,if_neg (fun h=>h2 h.2)]
  · rw [if_neg h1]
    by_cases h2:i=f
    · subst h2
      rw [if_pos rfl,mV]
      by_cases h3:j=(T i).length
      · rw [if_pos h3,if_pos ⟨rfl,h3⟩]
      · rw [if_neg h3,if_neg (fun h=>h3 h.2),if_neg (fun h=>h1 h.1)]
    · rw [if_neg h2,if_neg (fun h=>h2 h.1),if_neg (fun h=>h1 h.1)]
theorem rG (hft:f≠t) (hf:f<k) (ht:t<k) (W:(T.net k).Wf):((joinT T f t room mv).net k).Wf:=by
  have hlen:=An (T:=T) (room:=room) (mv:=mv) hft
  have hat:=Fp (T:=T) (room:=room) (mv:=mv) hft
  have key:∀ i,i<k→∀ j,j<tlen (joinT T f t room mv) i→(i=f∧j=tlen T f)∨(i=t∧j=tlen T t)∨(¬ (i=f∧j=tlen T f)∧¬ (i=t∧j=tlen T t)∧j<tlen T i):=by
    intro i hi j hj
    rw [hlen] at hj
    by_cases h1:i=f∧j=tlen T f
    · exact .inl h1
    · by_cases h2:i=t∧j=tlen T t
      · exact .inr (.inl h2)
      · refine .inr (.inr ⟨h1,h2,?_⟩)
        by_cases e1:i=f
        · subst e1;rw [if_pos rfl,if_neg hft] at hj;have:j≠tlen T i:=fun e=>h1 ⟨rfl,e⟩;omega
        · by_cases e2:i=t
          · subst e2;rw [if_neg e1,if_pos rfl] at hj;have:j≠tlen T i:=fun e=>h2 ⟨rfl,e⟩;omega
          · rw [if_neg e1,if_neg e2] at hj;omega
  have hne':¬ (t=f∧tlen T t=tlen T f):=fun h=>hft h.1.symm
  have kold:∀ i,i<k→∀ j,j<tlen T i→entAt (joinT T f t room mv) i j=entAt T i j:=by
    intro i hi j hj
    rw [hat,if_neg (fun h=>by rw [h.1,h.2] at hj;omega),if_neg (fun h=>by rw [h.1,h.2] at hj;omega)]
  have hW:∀ i,i<k→∀ j,j<tlen T i→(entAt T i j).to<k∧(entAt T i j).to≠i∧(entAt T i j).back<tlen T (entAt T i j).to∧(entAt T (entAt T i j).to (entAt T i j).back).to=i∧(entAt T (entAt T i j).to (entAt T i j).back).back=j:=
    fun i hi j hj=>⟨W.to_lt i hi j hj,W.to_ne i hi j hj,W.bk_lt i hi j hj,W.bk_to i hi j hj,W.bk_bk i hi j hj⟩
  have all:∀ i,i<k→∀ j,j<tlen (joinT T f t room mv) i→(entAt (joinT T f t room mv) i j).to<k∧(entAt (joinT T f t room mv) i j).to≠i∧(entAt (joinT T f t room mv) i j).back<tlen (joinT T f t room mv) (entAt (joinT T f t room mv) i j).to ∧
      (entAt (joinT T f t room mv) (entAt (joinT T f t room mv) i j).to (entAt (joinT T f t room mv) i j).back).to=i∧(entAt (joinT T f t room mv) (entAt (joinT T f t room mv) i j).to (entAt (joinT T f t room mv) i j).back).back=j:=by
    intro i hi j hj
    rcases key i hi j hj with ⟨rfl,rfl⟩|⟨rfl,rfl⟩|⟨h1,h2,h3⟩
    · have e1:entAt (joinT T i t room mv) i (tlen T i)=⟨t,room,tlen T t,mv⟩:=by rw [hat,if_pos ⟨rfl,rfl⟩]
      have e2:entAt (joinT T i t room mv) t (tlen T t)=⟨i,0,tlen T i,Mv.none⟩:=by rw [hat,if_neg hne',if_pos ⟨rfl,rfl⟩]
      rw [e1]
      dsimp only
      rw [e2]
      refine ⟨ht,fun h=>hft h.symm,?_,rfl,rfl⟩
      rw [hlen,if_pos rfl];omega
    · have e1:entAt (joinT T f i room mv) i (tlen T i)=⟨f,0,tlen T f,Mv.none⟩:=by rw [hat,if_neg hne',if_pos ⟨rfl,rfl⟩]
      have e2:entAt (joinT T f i room mv) f (tlen T f)=⟨i,room,tlen T i,mv⟩:=by rw [hat,if_pos ⟨rfl,rfl⟩]
      rw [e1]
      dsimp only
      rw [e2]
      refine ⟨hf,hft,?_,rfl,rfl⟩
      rw [hlen,if_pos rfl];omega
    · rw [kold i hi j h3]
      obtain ⟨g1,g2,g3,g4,g5⟩:=hW i hi j h3
      rw [kold _ g1 _ g3]
      refine ⟨g1,g2,?_,g4,g5⟩
      rw [hlen];omega
  exact ⟨fun i hi j hj=>(all i hi j hj).1,fun i hi j hj=>(all i hi j hj).2.1,fun i hi j hj=>(all i hi j hj).2.2.1,fun i hi j hj=>(all i hi j hj).2.2.2.1,fun i hi j hj=>(all i hi j hj).2.2.2.2⟩
theorem Ao {B:Int} (hft:f≠t) (hf:f<k) (ht:t<k) (hr:0≤room∧room≤B) (W:(T.net k).Wf) (O:Ok (T.net k) T.room B):Ok ((joinT T f t room mv).net k) (joinT T f t room mv).room B:=by
  have hlen:=An (T:=T) (room:=room) (mv:=mv) hft
  have hat:=Fp (T:=T) (room:=room) (mv:=mv) hft
  have W':=rG (room:=room) (mv:=mv) hft hf ht W
  have hroom:∀ i j,(joinT T f t room mv).room i j=if i=f∧j=tlen T f then room else if i=t∧j=tlen T t then 0 else T.room i j:=by
    intro i j
    show (entAt (joinT T f t room mv) i j).room=_
    rw [hat]
    split
    · rfl
    · split <;> rfl
  have hold:∀ i,i<k→∀ j,j<tlen (joinT T f t room mv) i→¬ (i=f∧j=tlen T f)→¬ (i=t∧j=tlen T t)→j<tlen T i:=by
    intro i hi j hj h1 h2
    rw [hlen] at hj
    by_cases e1:i=f
    · subst e1;rw [if_pos rfl,if_neg hft] at hj;have:j≠tlen T i:=fun e=>h1 ⟨rfl,e⟩;omega
    · by_cases e2:i=t
      · subst e2;rw [if_neg e1,if_pos rfl] at hj;have:j≠tlen T i:=fun e=>h2 ⟨rfl,e⟩;omega
      · rw [if_neg e1,if_neg e2] at hj;omega
  refine ⟨fun i hi j hj=>?_,fun i hi j hj=>?_⟩
  · rw [hroom]
    split
    · exact hr.1
    · rename_i h1
      split
      · exact Int.le_refl _
      · rename_i h2
        exact O.nn i hi j (hold i hi j hj h1 h2)
  · have hne':¬ (t=f∧tlen T t=tlen T f):=fun h=>hft h.1.symm
    show (joinT T f t room mv).room i j+(joinT T f t room mv).room (entAt (joinT T f t room mv) i j).to (entAt (joinT T f t room mv) i j).back≤B
    by_cases h1:i=f∧j=tlen T f
    · rw [hat,if_pos h1]
      dsimp only
      rw [hroom,hroom,if_pos h1,if_neg hne',if_pos ⟨rfl,rfl⟩]
      omega
    · by_cases h2:i=t∧j=tlen T t
      · rw [hat,if_neg h1,if_pos h2]
        dsimp only
        rw [hroom,hroom,if_neg h1,if_pos h2,if_pos ⟨rfl,rfl⟩]
        omega
      · have h3:=hold i hi j hj h1 h2
        have g1:=W.to_lt i hi j h3
        have g3:=W.bk_lt i hi j h3
        rw [hat,if_neg h1,if_neg h2,hroom,hroom,if_neg h1,if_neg h2]
        have e1:¬ ((entAt T i j).to=f∧(entAt T i j).back=tlen T f):=fun h=>by
          have:(entAt T i j).back<tlen T (entAt T i j).to:=g3
          rw [h.1,h.2] at this;omega
        have e2:¬ ((entAt T i j).to=t∧(entAt T i j).back=tlen T t):=fun h=>by
          have:(entAt T i j).back<tlen T (entAt T i j).to:=g3
          rw [h.1,h.2] at this;omega
        rw [if_neg e1,if_neg e2]
        exact O.pair i hi j h3
theorem tT {e:Ent} {S:Nat→Bool} (hf:f<k):resid (Tab.net (upd T f (T f++[e])) k) (Tab.room (upd T f (T f++[e]))) S=resid (T.net k) T.room S+(if S f=true∧S e.to=false then e.room else 0):=by
  unfold resid
  have hrow:∀ i,i≠f→upd T f (T f++[e]) i=T i:=fun i h=>bR _ _ h
  have h:=qE (f:=fun i=>sm (fun j=>if S i=true∧S ((T.net k).to i j)=false then T.room i j else 0) ((T.net k).n i))
    (g:=fun i=>sm (fun j=>if S i=true∧S ((Tab.net (upd T f (T f++[e])) k).to i j)=false then Tab.room (upd T f (T f++[e])) i j else 0) ((Tab.net (upd T f (T f++[e])) k).n i)) hf
    (fun i hi hne=>by
      show sm (fun j=>if S i=true∧S (entAt (upd T f (T f++[e])) i j).to=false then (entAt (upd T f (T f++[e])) i j).room else 0) (tlen (upd T f (T f++[e])) i)=_
      unfold entAt tlen
      rw [hrow i hne]
      rfl)
  show sm _ k=_
  refine h.trans ?_
  congr 1
  have e1:sm (fun j=>if S f=true∧S (entAt (upd T f (T f++[e])) f j).to=false then (entAt (upd T f (T f++[e])) f j).room else 0) (tlen (upd T f (T f++[e])) f) =
      sm (fun j=>if S f=true∧S (entAt T f j).to=false then (entAt T f j).room else 0) (tlen T f)+(if S f=true∧S e.to=false then e.room else 0):=by
    have hl:tlen (upd T f (T f++[e])) f=tlen T f+1:=by unfold tlen;rw [bQ];simp
    rw [hl,sm]
    have hlast:entAt (upd T f (T f++[e])) f (tlen T f)=e:=by unfold entAt tlen;rw [bQ,mV,if_pos rfl]
    rw [hlast]
    congr 1
    refine kM fun j hj=>?_
    have:entAt (upd T f (T f++[e])) f j=entAt T f j:=by unfold entAt;rw [bQ,mV,if_neg (by unfold tlen at hj;omega)]
    rw [this]
  show sm (fun j=>if S f=true∧S (entAt (upd T f (T f++[e])) f j).to=false then (entAt (upd T f (T f++[e])) f j).room else 0) (tlen (upd T f (T f++[e])) f) -
      sm (fun j=>if S f=true∧S (entAt T f j).to=false then (entAt T f j).room else 0) (tlen T f)=_
  omega
end
def capJ (S:Nat→Bool):List Jn→Int
  | []=>0
  | j::J=>(if S j.f=true∧S j.t=false then j.room else 0)+capJ S J
theorem kD (S:Nat→Bool) (J J':List Jn):capJ S (J++J')=capJ S J+capJ S J':=by
  induction J with
  | nil=>simp [capJ]
  | cons j J ih=>simp only [List.cons_append,capJ,ih];omega
theorem vZ {S:Nat→Bool} {J:List Jn} (h:∀ j ∈ J,S j.f=true→S j.t=false→j.room=0):capJ S J=0:=by
  induction J with
  | nil=>rfl
  | cons j J ih=>
    rw [capJ,ih (fun x hx=>h x (List.mem_cons_of_mem _ hx))]
    split
    · rename_i h1;rw [h j (List.mem_cons_self ..) h1.1 h1.2];rfl
    · rfl
theorem Ia {k:Nat} {S:Nat→Bool}:resid (Tab.net (fun _=>[]) k) (Tab.room (fun _=>[])) S=0:=rR fun i _=>rfl
theorem Ib {k:Nat} {B:Int} (hB:0≤B):∀ (J:List Jn),(∀ j ∈ J,j.f≠j.t∧j.f<k∧j.t<k∧0≤j.room∧j.room≤B)→((joins J).net k).Wf∧Ok ((joins J).net k) (joins J).room B∧∀ S,resid ((joins J).net k) (joins J).room S=capJ S J:=by
  have key:∀ (n:Nat) (J:List Jn),J.length=n→(∀ j ∈ J,j.f≠j.t∧j.f<k∧j.t<k∧0≤j.room∧j.room≤B)→((joins J).net k).Wf∧Ok ((joins J).net k) (joins J).room B∧∀ S,resid ((joins J).net k) (joins J).room S=capJ S J:=by
    intro n
    induction n with
    | zero=>
      intro J h _
      have:J=[]:=List.eq_nil_of_length_eq_zero h
      subst this
      exact ⟨⟨fun i _ j hj=>absurd hj (Nat.not_lt_zero j),fun i _ j hj=>absurd hj (Nat.not_lt_zero j),fun i _ j hj=>absurd hj (Nat.not_lt_zero j),fun i _ j hj=>absurd hj (Nat.not_lt_zero j),fun i _ j hj=>absurd hj (Nat.not_lt_zero j)⟩,
        ⟨fun i _ j hj=>absurd hj (Nat.not_lt_zero j),fun i _ j hj=>absurd hj (Nat.not_lt_zero j)⟩,fun S=>Ia⟩
    | succ n ih=>
      intro J h hn
      obtain ⟨J',j,rfl⟩:∃ J' j,J=J'++[j]:=⟨J.dropLast,J.getLast (by intro e;subst e;simp at h),(List.dropLast_concat_getLast _).symm⟩
      obtain ⟨W,O,hr⟩:=ih J' (by simpa using h) (fun x hx=>hn x (List.mem_append_left _ hx))
      obtain ⟨h1,h2,h3,h4,h5⟩:=hn j (List.mem_append_right _ (by simp))
      rw [iE]
      refine ⟨rG h1 h2 h3 W,Ao h1 h2 h3 ⟨h4,h5⟩ W O,fun S=>?_⟩
      rw [kD]
      unfold joinT
      have e1:=tT (T:=joins J') (f:=j.f) (k:=k) (e:=⟨j.t,j.room,(joins J' j.t).length,j.mv⟩) (S:=S) h2
      have e2:=tT (T:=upd (joins J') j.f (joins J' j.f++[⟨j.t,j.room,(joins J' j.t).length,j.mv⟩])) (f:=j.t) (k:=k) (e:=⟨j.f,0,(joins J' j.f).length,Mv.none⟩) (S:=S) h3
      rw [bR (i:=j.t) _ _ (fun e=>h1 e.symm)] at e2
      rw [e2,e1,hr S]
      simp only [capJ]
      split <;> split <;> omega
  intro J h
  exact key _ J rfl h
section
variable {P T:Nat} {pe xs:List Int} {hs:List Hd}
def JRoom (B:Int) (j:Jn):Prop:=0≤j.room∧j.room≤B
theorem Dt {p:Nat} (hpe:∀ k,k<pe.length→0≤pe.getD k 0∧pe.getD k 0≤1000):∀ j ∈ jQ P T pe xs p,JRoom 1099511627776 j:=by
  intro j hj
  unfold jQ cV eQ at hj
  rcases List.mem_cons.1 hj with rfl|hj
  · unfold JRoom jBeg
    dsimp only
    by_cases h:p<pe.length
    · have:=hpe p h;omega
    · rw [List.getD_eq_getElem?_getD,List.getElem?_eq_none (by omega)];simp
  · rcases List.mem_append.1 hj with hj|hj
    · obtain ⟨t,_,rfl⟩:=List.mem_map.1 hj
      unfold JRoom jWait yB;dsimp only;omega
    · split at hj
      · obtain ⟨t,_,rfl⟩:=List.mem_map.1 hj
        unfold JRoom jExit yB;dsimp only;omega
      · cases hj
theorem Ap (hpe:∀ k,k<pe.length→0≤pe.getD k 0∧pe.getD k 0≤1000):∀ n,∀ j ∈ bB P T pe xs n,JRoom 1099511627776 j:=by
  intro n
  induction n with
  | zero=>intro j hj;cases hj
  | succ n ih=>
    intro j hj
    rcases List.mem_append.1 hj with hj|hj
    · exact ih j hj
    · exact Dt hpe j hj
theorem Du (hw:∀ i,i<hs.length→1≤(hs.getD i Hd.zero).wide∧(hs.getD i Hd.zero).wide≤50):∀ {n},n≤hs.length→∀ j ∈ dW P T hs n,JRoom 1099511627776 j:=by
  intro n
  induction n with
  | zero=>intro _ j hj;cases hj
  | succ n ih=>
    intro hn j hj
    rcases List.mem_append.1 hj with hj|hj
    · exact ih (by omega) j hj
    · obtain ⟨t,_,rfl⟩:=List.mem_map.1 hj
      have:=hw n (by omega)
      unfold JRoom jHead;dsimp only;omega
theorem Ic (hpe:∀ k,k<pe.length→0≤pe.getD k 0∧pe.getD k 0≤1000) (hh:∀ i,i<hs.length→HdOk P (hs.getD i Hd.zero)):capJ (fun v=>decide (v=P*(T+1))) (jAll P T pe xs hs)≤1000*P:=by
  have h1 : ∀ n,n≤P→capJ (fun v=>decide (v=P*(T+1))) (bB P T pe xs n)≤1000*n:=by
    intro n
    induction n with
    | zero=>intro _;simp [bB,capJ]
    | succ n ih=>
      intro hn
      rw [bB,kD]
      have h2:=ih (by omega)
      have h3 : capJ (fun v=>decide (v=P*(T+1))) (jQ P T pe xs n)≤1000:=by
        unfold jQ
        rw [capJ,vZ (J:=cV P n T++_)]
        · have hb:(jBeg P T pe n).room≤1000:=by
            unfold jBeg;dsimp only
            by_cases h:n<pe.length
            · have:=hpe n h;omega
            · rw [List.getD_eq_getElem?_getD,List.getElem?_eq_none (by omega)];simp
          split <;> omega
        · intro j hj hf
          exfalso
          have hf':j.f=P*(T+1):=by simpa using hf
          unfold cV eQ at hj
          rcases List.mem_append.1 hj with hj|hj
          · obtain ⟨t,ht,rfl⟩:=List.mem_map.1 hj
            have:=oZ (P:=P) (T:=T) (t:=t) (p:=n) (by have:=List.mem_range.1 ht;omega) (by omega)
            have e:(jWait P n t).f=nd P t n:=rfl
            omega
          · split at hj
            · obtain ⟨t,ht,rfl⟩:=List.mem_map.1 hj
              have:=oZ (P:=P) (T:=T) (t:=t) (p:=n) (by have:=List.mem_range.1 ht;omega) (by omega)
              have e:(jExit P T n t).f=nd P t n:=rfl
              omega
            · cases hj
      push_cast
      omega
  have h2:∀ n,n≤hs.length→capJ (fun v=>decide (v=P*(T+1))) (dW P T hs n)=0:=by
    intro n
    induction n with
    | zero=>intro _;rfl
    | succ n ih=>
      intro hn
      rw [dW,kD,ih (by omega),vZ]
      · rfl
      · intro j hj hf
        exfalso
        have hf':j.f=P*(T+1):=by simpa using hf
        obtain ⟨t,ht,rfl⟩:=List.mem_map.1 hj
        have h9:=hh n (by omega)
        unfold HdOk at h9
        have:=oZ (P:=P) (T:=T) (t:=t) (p:=(hs.getD n Hd.zero).fr.toNat) (by have:=List.mem_range.1 ht;omega) (by omega)
        have e:(jHead P (hs.getD n Hd.zero) t).f=nd P t (hs.getD n Hd.zero).fr.toNat:=rfl
        omega
  unfold jAll
  rw [kD,h2 _ (Nat.le_refl _)]
  have:=h1 P (Nat.le_refl _)
  omega
end
def layT (P T:Nat) (pe xs:List Int) (hs:List Hd):Tab:=joins (jAll P T pe xs hs)
def layN (P T:Nat) (pe xs:List Int) (hs:List Hd):Net:=(layT P T pe xs hs).net (P*(T+1)+2)
structure LayOk (P T:Nat) (pe xs:List Int) (hs:List Hd):Prop where
  wf:(layN P T pe xs hs).Wf
  ok:Ok (layN P T pe xs hs) (layT P T pe xs hs).room 2199023255552
  cap:∀ S,resid (layN P T pe xs hs) (layT P T pe xs hs).room S=capJ S (jAll P T pe xs hs)
  beg:resid (layN P T pe xs hs) (layT P T pe xs hs).room (fun v=>decide (v=P*(T+1)))≤1000*P
theorem Mp {P:Int} {ps:List Psg} {xs:List Int} {out:Int} (h:StV P ps xs):∀ i,i<(hds out xs ps).length→1≤((hds out xs ps).getD i Hd.zero).wide∧((hds out xs ps).getD i Hd.zero).wide≤50:=by
  have key:∀ n,n≤ps.length→∀ x ∈ hdsTo out xs ps n,1≤x.wide∧x.wide≤50:=by
    intro n
    induction n with
    | zero=>intro _ x hx;cases hx
    | succ n ih=>
      intro hn x hx
      rcases List.mem_append.1 hx with hx|hx
      · exact ih (by omega) x hx
      · have hp:=dD.1 (h.pas n (by omega))
        unfold hdsOf hdsA hdsB at hx
        split at hx
        · cases hx
        · rcases List.mem_append.1 hx with hx|hx
          · split at hx
            · cases hx
            · rw [List.mem_singleton.1 hx];dsimp only;omega
          · split at hx
            · rw [List.mem_singleton.1 hx];dsimp only;omega
            · cases hx
  intro i hi
  rw [List.getD_eq_getElem?_getD,List.getElem?_eq_getElem hi]
  exact key _ (Nat.le_refl _) _ (List.getElem_mem hi)
theorem Mq {P T:Nat} {ps:List Psg} {pe xs:List Int} {out:Int} (h:StV P ps xs) (hpe:∀ k,k<pe.length→0≤pe.getD k 0∧pe.getD k 0≤1000):LayOk P T pe xs (hds out xs ps):=by
  obtain ⟨W,O,hr⟩:=Ib (k:=P*(T+1)+2) (B:=2199023255552) (by omega) (jAll P T pe xs (hds out xs ps)) (by
    intro j hj
    have h1:JOk P T j∧JRoom 1099511627776 j:=by
      rcases List.mem_append.1 hj with hj|hj
      · exact ⟨nT (Nat.le_refl _) j hj,Ap hpe P j hj⟩
      · exact ⟨vY (Ds h) (Nat.le_refl _) j hj,Du (Mp h) (Nat.le_refl _) j hj⟩
    obtain ⟨⟨a1,a2,a3⟩,a4,a5⟩:=h1
    exact ⟨a1,a2,a3,a4,by omega⟩)
  exact ⟨W,O,hr,Int.le_trans (Int.le_of_eq (hr _)) (Ic hpe (Ds h))⟩
structure EndP (P T:Nat) (pe xs:List Int) (hs:List Hd) (v:Int) (r:RM) (L:Nat→Int):Prop where
  fl:Fl (layN P T pe xs hs) (layT P T pe xs hs).room r (P*(T+1)) (P*(T+1)+1) v
  nn:0≤v
  lev:LevOk (layN P T pe xs hs) r (P*(T+1)) L
  full:L (P*(T+1)+1)<0
def fstB (f:Nat→Bool):Nat→Nat
  | 0=>0
  | n+1=>if fstB f n<n then fstB f n else if f n=true then n else n+1
theorem Mr {f:Nat→Bool}:∀ n,fstB f n≤n:=by
  intro n
  induction n with
  | zero=>exact Nat.le_refl _
  | succ n ih=>rw [fstB];split;omega;split <;> omega
theorem kR {f:Nat→Bool}:∀ {n},(∀ q,q<n→f q=false)→fstB f n=n:=by
  intro n
  induction n with
  | zero=>intro _;rfl
  | succ n ih=>intro h;rw [fstB,ih (fun q hq=>h q (by omega)),if_neg (by omega),if_neg (by rw [h n (by omega)];simp)]
theorem yC {f:Nat→Bool} {t:Nat} (h1:∀ q,q<t→f q=false) (h2:f t=true):∀ {n},t<n→fstB f n=t:=by
  intro n
  induction n with
  | zero=>intro h;omega
  | succ n ih=>
    intro h
    by_cases e:t=n
    · subst e;rw [fstB,kR h1,if_neg (by omega),if_pos h2]
    · rw [fstB,ih (by omega),if_pos (by omega)]
def sumI (l:List Int):Nat→Int:=sm (fun k=>l.getD k 0)
theorem tU {N:Net} {r:RM} {S:Nat→Bool} (hn:∀ i,i<N.k→∀ j,j<N.n i→0≤r i j) (h:resid N r S=0):∀ u,u<N.k→S u=true→∀ j,j<N.n u→0<r u j→S (N.to u j)=true:=by
  intro u hu hS j hj hr
  have h1:=nO (f:=fun i=>sm (fun j=>if S i=true∧S (N.to i j)=false then r i j else 0) (N.n i)) (fun i hi=>iC fun j hj=>by split;exact hn i hi j hj;exact Int.le_refl _) h u hu
  have h2:=nO (f:=fun j=>if S u=true∧S (N.to u j)=false then r u j else 0) (fun j hj=>by split;exact hn u hu j hj;exact Int.le_refl _) h1 j hj
  cases hs:S (N.to u j) with
  | true=>rfl
  | false=>
    skip
    rw [if_pos ⟨hS,hs⟩] at h2
    omega
def fW (L:Nat→Int) (v:Nat):Bool:=decide (0≤L v)
section
variable {P T:Nat} {pe xs:List Int} {hs:List Hd} {v v':Int} {r r':RM} {L L':Nat→Int}
theorem yD {S:Nat→Bool} (hb:S (P*(T+1))=true) (hx:S (P*(T+1)+1)=false):ind S (P*(T+1))-ind S (P*(T+1)+1)=1:=by
  unfold ind;rw [hb,hx];rfl
theorem EndP.bound (O:LayOk P T pe xs hs) (h:EndP P T pe xs hs v r L) {S:Nat→Bool} (hb:S (P*(T+1))=true) (hx:S (P*(T+1)+1)=false):v≤capJ S (jAll P T pe xs hs):=by
  have h1:=oM (S:=S) (h.fl.ok O.ok)
  rw [h.fl.cut,O.cap,yD hb hx] at h1
  omega
theorem EndP.at_reach (O:LayOk P T pe xs hs) (h:EndP P T pe xs hs v r L):fW L (P*(T+1))=true∧fW L (P*(T+1)+1)=false∧capJ (fW L) (jAll P T pe xs hs)=v:=by
  have hb:fW L (P*(T+1))=true:=by unfold fW;rw [h.lev.b0];rfl
  have hx:fW L (P*(T+1)+1)=false:=by unfold fW;rw [decide_eq_false_iff_not];have:=h.full;omega
  refine ⟨hb,hx,?_⟩
  have h0:resid (layN P T pe xs hs) r (fW L)=0:=rR fun i hi=>rR fun j hj=>by
    split
    · rename_i hc
      obtain ⟨h1,h2⟩:=hc
      unfold fW at h1 h2
      simp only [decide_eq_true_eq,decide_eq_false_iff_not] at h1 h2
      have h3:=h.fl.nn i hi j hj
      by_cases h4:0<r i j
      · exact absurd (h.lev.cl i hi h1 j hj h4) h2
      · omega
    · rfl
  rw [h.fl.cut,O.cap,yD hb hx] at h0
  omega
theorem EndP.unique (O:LayOk P T pe xs hs) (h:EndP P T pe xs hs v r L) (h':EndP P T pe xs hs v' r' L'):v=v':=by
  obtain ⟨a1,a2,a3⟩:=h.at_reach O
  obtain ⟨b1,b2,b3⟩:=h'.at_reach O
  have h1:=h.bound O b1 b2
  have h2:=h'.bound O a1 a2
  omega
theorem EndP.inside (O:LayOk P T pe xs hs) (h:EndP P T pe xs hs v r L) {S:Nat→Bool} (hb:S (P*(T+1))=true) (hx:S (P*(T+1)+1)=false) (hc:capJ S (jAll P T pe xs hs)=v):∀ u,u<P*(T+1)+2→0≤L u→S u=true:=by
  have h0:resid (layN P T pe xs hs) r S=0:=by rw [h.fl.cut,O.cap,yD hb hx];omega
  exact h.lev.least hb (tU h.fl.nn h0)
theorem EndP.same (O:LayOk P T pe xs hs) (h:EndP P T pe xs hs v r L) (h':EndP P T pe xs hs v' r' L'):∀ u,u<P*(T+1)+2→fW L u=fW L' u:=by
  have e:=h.unique O h'
  obtain ⟨a1,a2,a3⟩:=h.at_reach O
  obtain ⟨b1,b2,b3⟩:=h'.at_reach O
  intro u hu
  have h1:=h.inside O b1 b2 (by omega) u hu
  have h2:=h'.inside O a1 a2 (by omega) u hu
  unfold fW at h1 h2 ⊢
  exact decide_eq_decide.2 ⟨fun h=>of_decide_eq_true (h1 h),fun h=>of_decide_eq_true (h2 h)⟩
end
open Classical in
noncomputable def mfv (P T:Nat) (pe xs:List Int) (hs:List Hd):Int:=if h:∃ v,∃ r L,EndP P T pe xs hs v r L then Classical.choose h else 0
section
variable {P T:Nat} {pe xs:List Int} {hs:List Hd} {v:Int} {r:RM} {L:Nat→Int}
theorem Mt (O:LayOk P T pe xs hs) (h:EndP P T pe xs hs v r L):mfv P T pe xs hs=v:=by
  have he:∃ v,∃ r L,EndP P T pe xs hs v r L:=⟨v,r,L,h⟩
  unfold mfv
  rw [dif_pos he]
  obtain ⟨r',L',h'⟩:=Classical.choose_spec he
  exact h'.unique O h
end
def opn (out:Int) (help:Bool) (p:Psg):Bool:=(decide (p.kind=1)||(decide (p.kind=4)&&decide (bitI out p.mach=0)))||(decide (p.kind=5)&&help)
theorem Mu {out:Int} {help:Bool} {p:Psg} (h:(p.kind=1∨p.kind=4∧out/2^p.mach.toNat%2=0)∨p.kind=5∧help=true):opn out help p=true:=by
  unfold opn bitI
  simp only [Bool.or_eq_true,Bool.and_eq_true,decide_eq_true_eq]
  exact h
theorem Yw {out:Int} {help:Bool} {p:Psg} (h:(¬p.kind=1∧(¬p.kind=4∨¬out/2^p.mach.toNat%2=0))∧(¬p.kind=5∨help=false)):opn out help p=false:=by
  unfold opn bitI
  simp only [Bool.or_eq_false_iff,Bool.and_eq_false_iff,decide_eq_false_iff_not]
  exact h
def othr (p:Psg) (a:Int):Int:=if p.a=a then p.b else if p.b=a then p.a else -1
def oth (out:Int) (help:Bool) (p:Psg) (a:Int):Int:=if opn out help p=false then -1 else othr p a
inductive Wk (ps:List Psg) (out:Int) (help:Bool):Nat→Nat→Nat→List Nat→Prop
  | nil (a:Nat):Wk ps out help a a 0 []
  | cons {a b c n k:Nat} {l:List Nat} (hk:k<ps.length) (ho:oth out help (ps.getD k Psg.zero) a=(b:Int)) (h:Wk ps out help b c n l):Wk ps out help a c ((ps.getD k Psg.zero).ticks.toNat+n) (k::l)
def PsV (P:Nat) (ps:List Psg):Prop:=∀ k,k<ps.length→(0≤(ps.getD k Psg.zero).a∧(ps.getD k Psg.zero).a<P)∧(0≤(ps.getD k Psg.zero).b∧(ps.getD k Psg.zero).b<P)∧1≤(ps.getD k Psg.zero).ticks∧(ps.getD k Psg.zero).ticks≤20
theorem StV.psv {P:Nat} {ps:List Psg} {xs:List Int} (h:StV P ps xs):PsV P ps:=fun k hk=>by
  have:=dD.1 (h.pas k hk)
  omega
theorem qO {P:Nat} {ps:List Psg} (V:PsV P ps) {out:Int} {help:Bool} {k:Nat} (hk:k<ps.length) {a:Int} (h:0≤oth out help (ps.getD k Psg.zero) a):opn out help (ps.getD k Psg.zero)=true∧oth out help (ps.getD k Psg.zero) a<P∧((ps.getD k Psg.zero).a=a∧oth out help (ps.getD k Psg.zero) a=(ps.getD k Psg.zero).b∨(ps.getD k Psg.zero).b=a∧oth out help (ps.getD k Psg.zero) a=(ps.getD k Psg.zero).a):=by
  have:=V k hk
  unfold oth othr at h ⊢
  split at h
  · omega
  · rename_i h1
    refine ⟨by simpa using h1,?_⟩
    rw [if_neg h1]
    split at h
    · rename_i h2;rw [if_pos h2];exact ⟨by omega,.inl ⟨h2,rfl⟩⟩
    · rename_i h2
      rw [if_neg h2]
      split at h
      · rename_i h3;rw [if_pos h3];exact ⟨by omega,.inr ⟨h3,rfl⟩⟩
      · omega
def FixAt (ps:List Psg) (out:Int) (help:Bool) (tk:Nat→Int) (i k:Nat):Prop:=∀ b:Nat,oth out help (ps.getD k Psg.zero) i=(b:Int)→0≤tk b→0≤tk i∧tk i≤tk b+(ps.getD k Psg.zero).ticks
def potF (P:Nat) (tk:Nat→Int):Int:=sm (fun i=>if tk i<0 then 1000 else tk i) P
def cntF (P:Nat) (tk:Nat→Int):Int:=sm (fun i=>if tk i<0 then 0 else 1) P
structure FarI (P:Nat) (ps:List Psg) (out:Int) (help:Bool) (to:Nat) (tk:Nat→Int):Prop where
  to0:tk to=0
  low:∀ i,-1≤tk i
  walk:∀ i,i<P→0≤tk i→∃ l,Wk ps out help i to (tk i).toNat l
  bd:∀ i,i<P→tk i≤20*(cntF P tk-1)
theorem Ru {P:Nat} {tk:Nat→Int}:cntF P tk≤P:=by
  unfold cntF
  induction P with
  | zero=>exact Int.le_refl 0
  | succ n ih=>rw [sm];split <;> omega
theorem Fq {P:Nat} {tk:Nat→Int}:0≤potF P tk:=iC fun i _=>by split <;> omega
def tk0 (to:Nat) (i:Nat):Int:=if i=to then 0 else -1
section
variable {P:Nat} {ps:List Psg} {out:Int} {help:Bool} {to:Nat} {tk:Nat→Int}
theorem FarI.init (hto:to<P):FarI P ps out help to (tk0 to):=by
  have h1:tk0 to to=0:=by unfold tk0;rw [if_pos rfl]
  have hc:1≤cntF P (tk0 to):=by
    have:=Vm (f:=fun i=>if tk0 to i<0 then 0 else 1) (fun i _=>by split <;> omega) hto
    rw [h1] at this
    exact this
  refine ⟨h1,fun i=>?_,fun i _ h0=>?_,fun i _=>?_⟩
  · unfold tk0;split <;> omega
  · unfold tk0 at h0 ⊢
    split at h0
    · rename_i e;subst e;rw [if_pos rfl];exact ⟨_,Wk.nil _⟩
    · omega
  · unfold tk0 at hc ⊢;split <;> omega
theorem FarI.small (I:FarI P ps out help to tk) (hP:P≤10) {i:Nat} (hi:i<P):tk i≤180:=by
  have:=I.bd i hi
  have:=Ru (P:=P) (tk:=tk)
  omega
theorem FarI.relax (I:FarI P ps out help to tk) (V:PsV P ps) {i b k:Nat} (hi:i<P) (hb:b<P) (hk:k<ps.length) (ho:oth out help (ps.getD k Psg.zero) i=(b:Int)) (h0:0≤tk b) (hl:tk i<0∨tk b+(ps.getD k Psg.zero).ticks<tk i) :
    FarI P ps out help to (upd tk i (tk b+(ps.getD k Psg.zero).ticks))∧potF P (upd tk i (tk b+(ps.getD k Psg.zero).ticks))+1≤potF P tk∨900<tk b+(ps.getD k Psg.zero).ticks:=by
  by_cases hbig:900<tk b+(ps.getD k Psg.zero).ticks
  · exact .inr hbig
  refine .inl ?_
  have ht:1≤(ps.getD k Psg.zero).ticks∧(ps.getD k Psg.zero).ticks≤20:=(V k hk).2.2
  have hti:i≠to:=fun e=>by subst e;have:=I.to0;omega
  have hbi:b≠i:=fun e=>by subst e;omega
  have hc:cntF P (upd tk i (tk b+(ps.getD k Psg.zero).ticks))=cntF P tk+(if tk i<0 then 1 else 0):=by
    unfold cntF
    rw [qE (f:=fun i=>if tk i<0 then 0 else 1) hi (fun j _ hj=>by rw [bR _ _ hj]),bQ,if_neg (by omega)]
    split <;> omega
  refine ⟨⟨by rw [bR _ _ (fun e=>hti e.symm)];exact I.to0,fun j=>?_,fun j hj h=>?_,fun j hj=>?_⟩,?_⟩
  · by_cases e:j=i
    · subst e;rw [bQ];omega
    · rw [bR _ _ e];exact I.low j
  · by_cases e:j=i
    · subst e
      rw [bQ]
      obtain ⟨l,hw⟩:=I.walk b hb h0
      have:=Wk.cons hk ho hw
      rw [show (tk b+(ps.getD k Psg.zero).ticks).toNat=(ps.getD k Psg.zero).ticks.toNat+(tk b).toNat by omega]
      exact ⟨_,this⟩
    · rw [bR _ _ e] at h ⊢;exact I.walk j hj h
  · rw [hc]
    have hbb:=I.bd b hb
    by_cases e:j=i
    · subst e
      rw [bQ]
      have:=I.bd j hj
      split <;> omega
    · rw [bR _ _ e];have:=I.bd j hj;split <;> omega
  · unfold potF
    rw [qE (f:=fun i=>if tk i<0 then 1000 else tk i) hi (fun j _ hj=>by rw [bR _ _ hj]),bQ,if_neg (by omega)]
    split <;> omega
theorem FarI.step (I:FarI P ps out help to tk) (V:PsV P ps) (hP:P≤10) {i b k:Nat} (hi:i<P) (hb:b<P) (hk:k<ps.length) (ho:oth out help (ps.getD k Psg.zero) i=(b:Int)) (h0:0≤tk b) (hl:tk i<0∨tk b+(ps.getD k Psg.zero).ticks<tk i) :
    FarI P ps out help to (upd tk i (tk b+(ps.getD k Psg.zero).ticks))∧potF P (upd tk i (tk b+(ps.getD k Psg.zero).ticks))+1≤potF P tk:=by
  rcases I.relax V hi hb hk ho h0 hl with h|h
  · exact h
  · exfalso
    have:=I.small hP hb
    have:(ps.getD k Psg.zero).ticks≤20:=(V k hk).2.2.2
    omega
end
theorem tV {ps:List Psg} {out:Int} {help:Bool} {tk:Nat→Int} {i k:Nat} (h:oth out help (ps.getD k Psg.zero) i<0∨tk (oth out help (ps.getD k Psg.zero) i).toNat<0∨(0≤tk i∧tk i≤tk (oth out help (ps.getD k Psg.zero) i).toNat+(ps.getD k Psg.zero).ticks)):FixAt ps out help tk i k:=fun b hb h0=>by
  rw [hb,Int.toNat_natCast] at h
  omega
def b2i (b:Bool):Int:=if b=true then 1 else 0
theorem yE {P:Nat} {ps:List Psg} {out:Int} {help:Bool} {tk:Nat→Int} {m:Bool} {f k:Nat} (h:m=false→(∀ i,i<f→∀ k,k<ps.length→FixAt ps out help tk i k)∧∀ q,q<k→FixAt ps out help tk f q) (hk:FixAt ps out help tk f k) :
    m=false→(∀ i,i<f→∀ k,k<ps.length→FixAt ps out help tk i k)∧∀ q,q<k+1→FixAt ps out help tk f q:=fun e=>⟨(h e).1,fun q hq=>by
  by_cases e2:q=k
  · subst e2;exact hk
  · exact (h e).2 q (by omega)⟩
theorem Wb {P:Nat} {ps:List Psg} {out:Int} {help:Bool} {tk:Nat→Int} {m:Bool} {f k:Nat} (hk:ps.length≤k) (h:m=false→(∀ i,i<f→∀ k,k<ps.length→FixAt ps out help tk i k)∧∀ q,q<k→FixAt ps out help tk f q) :
    m=false→∀ i,i<f+1→∀ k,k<ps.length→FixAt ps out help tk i k:=fun e i hi q hq=>by
  by_cases e2:i=f
  · subst e2;exact (h e).2 q (by omega)
  · exact (h e).1 i (by omega) q hq
theorem FarI.up {P:Nat} {ps:List Psg} {out:Int} {help:Bool} {to:Nat} {tk:Nat→Int} (I:FarI P ps out help to tk) (V:PsV P ps) (hP:P≤10) {i k:Nat} {X:Int} {m:Bool} {Q:Prop} (hi:i<P) (hk:k<ps.length) (ho:0≤oth out help (ps.getD k Psg.zero) i) (hb:oth out help (ps.getD k Psg.zero) i<P) (h0:0≤tk (oth out help (ps.getD k Psg.zero) i).toNat)
    (hl:tk i<0∨tk (oth out help (ps.getD k Psg.zero) i).toNat+(ps.getD k Psg.zero).ticks<tk i) (hp:potF P tk+b2i m≤X) :
    FarI P ps out help to (upd tk i (tk (oth out help (ps.getD k Psg.zero) i).toNat+(ps.getD k Psg.zero).ticks))∧potF P (upd tk i (tk (oth out help (ps.getD k Psg.zero) i).toNat+(ps.getD k Psg.zero).ticks))+b2i true≤X∧(true=false→Q):=by
  have h:=I.step V hP hi (b:=(oth out help (ps.getD k Psg.zero) i).toNat) (by omega) hk (by omega) h0 hl
  have h8:b2i true=1:=rfl
  have h9:0≤b2i m:=by unfold b2i;split <;> omega
  exact ⟨h.1,by omega,fun e=>by cases e⟩
structure FarOk (P:Nat) (ps:List Psg) (out:Int) (help:Bool) (to:Nat) (tk:Nat→Int):Prop where
  to0:tk to=0
  low:∀ i,-1≤tk i
  walk:∀ i,i<P→0≤tk i→∃ l,Wk ps out help i to (tk i).toNat l
  fix:∀ i,i<P→∀ k,k<ps.length→FixAt ps out help tk i k
  sml:∀ i,i<P→tk i≤200
section
variable {P:Nat} {ps:List Psg} {out:Int} {help:Bool} {to:Nat} {tk tk':Nat→Int}
theorem FarI.done (I:FarI P ps out help to tk) (hP:P≤10) (h:∀ i,i<P→∀ k,k<ps.length→FixAt ps out help tk i k):FarOk P ps out help to tk:=
  ⟨I.to0,I.low,I.walk,h,fun i hi=>by have:=I.small hP hi;omega⟩
theorem FarOk.least (h:FarOk P ps out help to tk) (V:PsV P ps) {a c n:Nat} {l:List Nat} (W:Wk ps out help a c n l):a<P→c=to→0≤tk a∧tk a≤n:=by
  induction W with
  | nil a=>intro _ e;subst e;rw [h.to0];exact ⟨Int.le_refl 0,Int.le_refl 0⟩
  | @cons a b c n k l hk ho _ ih=>
    intro ha e
    have hb:=(qO V hk (a:=(a:Int)) (by rw [ho];omega)).2.1
    rw [ho] at hb
    have h1:=ih (by omega) e
    have h2:=h.fix a ha k hk b ho h1.1
    have:=(V k hk).2.2
    omega
theorem FarOk.unique (h:FarOk P ps out help to tk) (h':FarOk P ps out help to tk') (V:PsV P ps) {i:Nat} (hi:i<P):tk i=tk' i:=by
  have key:∀ {t t':Nat→Int},FarOk P ps out help to t→FarOk P ps out help to t'→0≤t i→0≤t' i∧t' i≤t i:=fun {t t'} H H' h0=>by
    obtain ⟨l,W⟩:=H.walk i hi h0
    have:=H'.least V W hi rfl
    omega
  have l1:=h.low i
  have l2:=h'.low i
  by_cases h0:0≤tk i
  · have h1:=key h h' h0
    have h2:=key h' h h1.1
    omega
  · by_cases h1:0≤tk' i
    · have:=key h' h h1;omega
    · omega
end
open Classical in
noncomputable def dst (P:Nat) (ps:List Psg) (out:Int) (help:Bool) (to:Nat) (i:Nat):Int:=if h:∃ tk,FarOk P ps out help to tk then (if i<P then Classical.choose h i else -1) else 0
section
variable {P:Nat} {ps:List Psg} {out:Int} {help:Bool} {to:Nat} {tk:Nat→Int}
theorem nU (V:PsV P ps) (h:FarOk P ps out help to tk) {i:Nat} (hi:i<P):dst P ps out help to i=tk i:=by
  have he:∃ tk,FarOk P ps out help to tk:=⟨tk,h⟩
  unfold dst
  rw [dif_pos he,if_pos hi]
  exact (Classical.choose_spec he).unique h V hi
theorem Wc (V:PsV P ps) (hto:to<P) (h:FarOk P ps out help to tk):FarOk P ps out help to (dst P ps out help to):=by
  have he:∃ tk,FarOk P ps out help to tk:=⟨tk,h⟩
  have hd:∀ i,¬ i<P→dst P ps out help to i = -1:=fun i hi=>by unfold dst;rw [dif_pos he,if_neg hi]
  refine ⟨(nU V h hto).trans h.to0,fun i=>?_,fun i hi=>?_,fun i hi k hk b hb h0=>?_,fun i hi=>?_⟩
  · by_cases hi:i<P
    · rw [nU V h hi];exact h.low i
    · rw [hd i hi];omega
  · rw [nU V h hi];exact h.walk i hi
  · have hb2:=(qO V hk (a:=(i:Int)) (by rw [hb];omega)).2.1
    rw [hb] at hb2
    rw [nU V h (i:=b) (by omega)] at h0 ⊢
    rw [nU V h hi]
    exact h.fix i hi k hk b hb h0
  · rw [nU V h hi];exact h.sml i hi
end
def stepB (ps:List Psg) (out:Int) (help:Bool) (d:Nat→Int) (at_ k:Nat):Bool:=
  decide (0≤oth out help (ps.getD k Psg.zero) at_)&&(decide (0≤d (oth out help (ps.getD k Psg.zero) at_).toNat)&&decide (d (oth out help (ps.getD k Psg.zero) at_).toNat+(ps.getD k Psg.zero).ticks=d at_))
def stepK (ps:List Psg) (out:Int) (help:Bool) (d:Nat→Int) (at_:Nat):Nat:=fstB (stepB ps out help d at_) ps.length
def wayG (ps:List Psg) (out:Int) (help:Bool) (d:Nat→Int) (to:Nat):Nat→Nat→List Nat
  | 0,_=>[]
  | g+1,a=>if a=to then [] else stepK ps out help d a::wayG ps out help d to g (oth out help (ps.getD (stepK ps out help d a) Psg.zero) a).toNat
section
variable {P:Nat} {ps:List Psg} {out:Int} {help:Bool} {to:Nat} {d:Nat→Int}
theorem yF {g:Nat}:wayG ps out help d to g to=[]:=by
  cases g with
  | zero=>rfl
  | succ g=>unfold wayG;rw [if_pos rfl]
theorem Rv {a k:Nat} (h1:∀ q,q<k→stepB ps out help d a q=false) (h2:stepB ps out help d a k=true) (hk:k<ps.length):stepK ps out help d a=k:=yC h1 h2 hk
theorem yG (V:PsV P ps) {a k:Nat} (hk:k<ps.length) (h:stepB ps out help d a k=true):∃ b:Nat,oth out help (ps.getD k Psg.zero) a=(b:Int)∧b<P∧0≤d b∧d b+(ps.getD k Psg.zero).ticks=d a∧1≤(ps.getD k Psg.zero).ticks:=by
  unfold stepB at h
  simp only [Bool.and_eq_true,decide_eq_true_eq] at h
  have h1:=qO V hk h.1
  have hV:=(V k hk).2.2
  exact ⟨(oth out help (ps.getD k Psg.zero) a).toNat,by omega,by omega,h.2.1,h.2.2,hV.1⟩
theorem FarOk.step_ex (h:FarOk P ps out help to d) (V:PsV P ps) {a:Nat} (ha:a<P) (h0:0≤d a) (hne:a≠to):∃ k,k<ps.length∧stepB ps out help d a k=true:=by
  obtain ⟨l,W⟩:=h.walk a ha h0
  generalize hn:(d a).toNat=n at W
  cases W with
  | nil=>exact absurd rfl hne
  | @cons _ b _ n2 k l2 hk ho W2=>
    have hb:=(qO V hk (a:=(a:Int)) (by rw [ho];omega)).2.1
    rw [ho] at hb
    have h1:=h.least V W2 (by omega) rfl
    have h2:=h.fix a ha k hk b ho h1.1
    have:=(V k hk).2.2
    refine ⟨k,hk,?_⟩
    unfold stepB
    simp only [Bool.and_eq_true,decide_eq_true_eq]
    rw [ho,Int.toNat_natCast]
    omega
theorem FarOk.stp (h:FarOk P ps out help to d) (V:PsV P ps) {a:Nat} (ha:a<P) (h0:0≤d a) (hne:a≠to):stepK ps out help d a<ps.length∧stepB ps out help d a (stepK ps out help d a)=true∧∀ q,q<stepK ps out help d a→stepB ps out help d a q=false:=by
  obtain ⟨k,hk,hs⟩:=h.step_ex V ha h0 hne
  have key:∀ n,(∃ k,k<n∧stepB ps out help d a k=true)→fstB (stepB ps out help d a) n<n∧stepB ps out help d a (fstB (stepB ps out help d a) n)=true∧∀ q,q<fstB (stepB ps out help d a) n→stepB ps out help d a q=false:=by
    intro n
    induction n with
    | zero=>rintro ⟨k,hk,_⟩;omega
    | succ n ih=>
      rintro ⟨k,hk,hs⟩
      by_cases he:∃ k,k<n∧stepB ps out help d a k=true
      · obtain ⟨h1,h2,h3⟩:=ih he
        rw [fstB,if_pos h1]
        exact ⟨by omega,h2,h3⟩
      · have hno:∀ q,q<n→stepB ps out help d a q=false:=fun q hq=>by
          cases hb:stepB ps out help d a q with
          | false=>rfl
          | true=>exact absurd ⟨q,hq,hb⟩ he
        have hkn:k=n:=by
          by_cases e:k<n
          · exact absurd ⟨k,e,hs⟩ he
          · omega
        subst hkn
        rw [fstB,kR hno,if_neg (by omega),if_pos hs]
        exact ⟨by omega,hs,hno⟩
  exact key _ ⟨k,hk,hs⟩
theorem wA {a k g:Nat} (hne:a≠to) (h:stepK ps out help d a=k):wayG ps out help d to (g+1) a=k::wayG ps out help d to g (oth out help (ps.getD k Psg.zero) a).toNat:=by
  rw [wayG,if_neg hne,h]
theorem FarOk.way (h:FarOk P ps out help to d) (V:PsV P ps):∀ (g a:Nat),a<P→0≤d a→d a≤g→Wk ps out help a to (d a).toNat (wayG ps out help d to g a):=by
  intro g
  induction g with
  | zero=>
    intro a ha h0 hg
    by_cases e:a=to
    · subst e;rw [yF,h.to0];exact Wk.nil _
    · obtain ⟨h1,h2,h3⟩:=h.stp V ha h0 e
      obtain ⟨b,hb,hbP,hb0,hbd,hbt⟩:=yG V h1 h2
      omega
  | succ g ih=>
    intro a ha h0 hg
    by_cases e:a=to
    · subst e;rw [yF,h.to0];exact Wk.nil _
    · obtain ⟨h1,h2,h3⟩:=h.stp V ha h0 e
      obtain ⟨b,hb,hbP,hb0,hbd,hbt⟩:=yG V h1 h2
      rw [wA e rfl,hb,Int.toNat_natCast]
      have:=Wk.cons h1 hb (ih b hbP hb0 (by omega))
      rw [show (d a).toNat=(ps.getD (stepK ps out help d a) Psg.zero).ticks.toNat+(d b).toNat by omega]
      exact this
end
noncomputable def wayL (P:Nat) (ps:List Psg) (out:Int) (help:Bool) (fr to:Nat):List Nat:=wayG ps out help (dst P ps out help to) to (dst P ps out help to fr).toNat fr
def plOk (P:Int) (l:List Int):Bool:=allN (fun k=>decide (0≤l.getD k 0∧l.getD k 0≤P-1)) l.length
def askE (P:Int) (ps:List Psg) (xs:List Int) (out:Int) (l:List Int):Int:=
  if stE P ps xs≠0 then stE P ps xs else if (decide (0≤out∧out≤4095)&&plOk P l)=true then 0 else 1
theorem Rw {P:Int} {ps:List Psg} {xs:List Int} {out:Int} {l:List Int} (h:askE P ps xs out l=0):stE P ps xs=0∧(0≤out∧out≤4095)∧∀ k,k<l.length→0≤l.getD k 0∧l.getD k 0≤P-1:=by
  unfold askE at h
  split at h
  · omega
  · rename_i h1
    split at h
    · rename_i h2
      simp only [Bool.and_eq_true,decide_eq_true_eq] at h2
      refine ⟨by omega,h2.1,fun k hk=>?_⟩
      have:=bX.1 h2.2 k hk
      simpa using this
    · cases h
theorem Dv {P:Int} {l:List Int} {k:Nat} (hk:k<l.length) (h:¬ (0≤l.getD k 0∧l.getD k 0≤P-1)):plOk P l=false:=gC hk (decide_eq_false h)
theorem Mw {ps:List Psg} {out:Int} {help:Bool} {d:Nat→Int} {to:Nat}:∀ g a,(wayG ps out help d to g a).length≤g:=by
  intro g
  induction g with
  | zero=>intro a;exact Nat.le_refl 0
  | succ g ih=>intro a;unfold wayG;split;exact Nat.zero_le _;simp only [List.length_cons];have:=ih (oth out help (ps.getD (stepK ps out help d a) Psg.zero) a).toNat;omega
def wcl (l:List Nat) (k _j:Nat):Value := .int .i64 ((l.getD k 0:Nat):Int)
theorem Aq {l:List Nat} {x:Nat} {v:Value} (hv:v = .int .i64 (x:Int)):∀ k j,k<l.length+1→j<1→capp l.length (wcl l) (fun k' j=>([[v]].getD k' []).getD j undef) k j=wcl (l++[x]) k j:=by
  intro k j hk hj
  have:j=0:=by omega
  subst this
  subst hv
  unfold capp wcl
  by_cases h:k<l.length
  · rw [if_pos h,List.getD_eq_getElem?_getD,List.getD_eq_getElem?_getD,List.getElem?_append_left h]
  · have e:k=l.length:=by omega
    subst e
    rw [if_neg h,Nat.sub_self,List.getD_eq_getElem?_getD,List.getElem?_append_right (Nat.le_refl _),Nat.sub_self]
    rfl
theorem wB {x y:Int}:∀ k j,k<2→j<1→([[Value.int .i64 x],[Value.int .i64 y]].getD k []).getD j undef=icl [x,y] k j:=by
  intro k j hk hj
  have:j=0:=by omega
  subst this
  match k,hk with
  | 0,_=>rfl
  | 1,_=>rfl
theorem Mx {ps:List Psg} {out:Int} {help:Bool} {d:Nat→Int} {to g p k b:Nat} {wl W:List Nat} (h:wl++wayG ps out help d to g p=W) (hg:1≤g) (hne:p≠to) (hk:stepK ps out help d p=k) (hb:oth out help (ps.getD k Psg.zero) p=(b:Int)):(wl++[k])++wayG ps out help d to (g-1) b=W:=by
  obtain ⟨g,rfl⟩:∃ n,g=n+1:=⟨g-1,by omega⟩
  rw [wA hne hk,hb,Int.toNat_natCast] at h
  rw [←h,Nat.add_sub_cancel,List.append_assoc]
  rfl
theorem Rx {ps:List Psg} {out:Int} {help:Bool} {d:Nat→Int} {to g:Nat} {wl W:List Nat} (h:wl++wayG ps out help d to g to=W):wl=W:=by rw [yF,List.append_nil] at h;exact h
theorem Ry {ps:List Psg} {out:Int} {help:Bool} {d:Nat→Int} {p k:Nat} (h:(0≤oth out help (ps.getD k Psg.zero) p∧0≤d (oth out help (ps.getD k Psg.zero) p).toNat)∧d (oth out help (ps.getD k Psg.zero) p).toNat+(ps.getD k Psg.zero).ticks=d p):stepB ps out help d p k=true:=by
  unfold stepB
  simp only [Bool.and_eq_true,decide_eq_true_eq]
  exact ⟨h.1.1,h.1.2,h.2⟩
theorem Rz {ps:List Psg} {out:Int} {help:Bool} {d:Nat→Int} {p k:Nat} (h:(oth out help (ps.getD k Psg.zero) p<0∨d (oth out help (ps.getD k Psg.zero) p).toNat<0)∨¬ d (oth out help (ps.getD k Psg.zero) p).toNat+(ps.getD k Psg.zero).ticks=d p):stepB ps out help d p k=false:=by
  unfold stepB
  simp only [Bool.and_eq_false_iff,decide_eq_false_iff_not]
  omega
theorem Sa {f:Nat→Bool} {k:Nat} (h:∀ q,q<k→f q=false) (hk:f k=false):∀ q,q<k+1→f q=false:=fun q hq=>by
  by_cases e:q=k
  · subst e;exact hk
  · exact h q (by omega)
section
variable {ps:List Psg} {out:Int} {help:Bool} {d:Nat→Int} {p:Nat} {k:Nat}
theorem Fs {q:Psg} {a:Int} (h:opn out help q=true):oth out help q a=othr q a:=by unfold oth;rw [if_neg (by rw [h];simp)]
theorem My {q:Psg} {a:Int} (h:opn out help q=false):oth out help q a = -1:=by unfold oth;rw [if_pos h]
end
def machB (ps:List Psg) (out kind:Int) (m i:Nat):Bool:=(decide ((ps.getD i Psg.zero).kind=kind)&&decide ((ps.getD i Psg.zero).mach=(m:Int)))&&!decide (out/2^m%2=1)
def machR (ps:List Psg) (out kind:Int) (m:Nat):Nat→List Nat
  | 0=>[]
  | i+1=>machR ps out kind m i++(if machB ps out kind m i=true then [m] else [])
def machL (ps:List Psg) (out kind:Int):Nat→List Nat
  | 0=>[]
  | m+1=>machL ps out kind m++machR ps out kind m ps.length
section
variable {ps:List Psg} {out kind:Int}
theorem Id {m:Nat}:∀ i,(machR ps out kind m i).length≤i:=by
  intro i
  induction i with
  | zero=>exact Nat.le_refl 0
  | succ i ih=>rw [machR,List.length_append];split <;> simp <;> omega
theorem Ie (h:ps.length≤24):∀ m,(machL ps out kind m).length≤24*m:=by
  intro m
  induction m with
  | zero=>exact Nat.le_refl 0
  | succ m ih=>rw [machL,List.length_append];have:=Id (ps:=ps) (out:=out) (kind:=kind) (m:=m) ps.length;omega
theorem wC {m:Nat}:∀ {n},(∀ i,i<n→machB ps out kind m i=false)→machR ps out kind m n=[]:=by
  intro n
  induction n with
  | zero=>intro _;rfl
  | succ n ih=>intro h;rw [machR,ih (fun i hi=>h i (by omega)),if_neg (by rw [h n (by omega)];simp)];rfl
theorem Ig {m i:Nat} (hb:machB ps out kind m i=true):∀ {n},i<n→(∀ j,j<n→j≠i→machB ps out kind m j=false)→machR ps out kind m n=[m]:=by
  intro n
  induction n with
  | zero=>intro h;omega
  | succ n ih=>
    intro hi h
    rw [machR]
    by_cases e:i=n
    · subst e
      rw [wC (fun j hj=>h j (by omega) (by omega)),if_pos hb]
      rfl
    · rw [ih (by omega) (fun j hj=>h j (by omega)),if_neg (by rw [h n (by omega) (by omega)];simp)]
      rfl
end
theorem Wk.mono' {ps:List Psg} {out out':Int} {help help':Bool} {a c n:Nat} {l:List Nat} (W:Wk ps out help a c n l):(∀ k,k ∈ l→k<ps.length→opn out help (ps.getD k Psg.zero)=true→opn out' help' (ps.getD k Psg.zero)=true)→Wk ps out' help' a c n l:=by
  induction W with
  | nil a=>exact fun _ => .nil a
  | @cons a b c n k l hk ho _ ih=>
    intro h
    have ho1:opn out help (ps.getD k Psg.zero)=true:=by
      cases hb:opn out help (ps.getD k Psg.zero) with
      | true=>rfl
      | false=>rw [My hb] at ho;omega
    refine .cons hk ?_ (ih fun q hq=>h q (List.mem_cons_of_mem _ hq))
    rw [Fs (h k (List.mem_cons_self ..) hk ho1),←Fs ho1]
    exact ho
theorem Wk.mono {ps:List Psg} {out out':Int} {help help':Bool} (h:∀ k,k<ps.length→opn out help (ps.getD k Psg.zero)=true→opn out' help' (ps.getD k Psg.zero)=true) {a c n:Nat} {l:List Nat} (W:Wk ps out help a c n l):Wk ps out' help' a c n l:=W.mono' fun k _=>h k
def toI (l:List Nat):List Int:=l.map fun (n:Nat)=>(n:Int)
theorem mW (l:List Nat):(toI l).length=l.length:=List.length_map ..
theorem Mz (l:List Nat) (k:Nat):(toI l).getD k 0=((l.getD k 0:Nat):Int):=by
  unfold toI
  rw [List.getD_eq_getElem?_getD,List.getD_eq_getElem?_getD,List.getElem?_map]
  cases l[k]? <;> rfl
theorem Sb (l:List Nat):wcl l=icl (toI l):=by
  funext k j
  unfold wcl icl
  rw [Mz]
theorem Na {out:Int} {m:Nat} (ho:0≤out∧out≤4095) (hm:m<12) (h:¬ out/2^m%2=1):0≤out+2^m∧out+2^m≤4095:=by
  obtain ⟨o,rfl⟩:=Int.eq_ofNat_of_zero_le ho.1
  have h1:o/2^m%2=0:=by
    have h2:((o/2^m%2:Nat):Int)≠1:=by push_cast;exact h
    omega
  have h2:o ||| 2^m<2^12:=Nat.or_lt_two_pow (by omega) (Nat.pow_lt_pow_right (by omega) hm)
  rw [Dd h1,show (2:Nat)^12=4096 by decide] at h2
  have h3:((o+2^m:Nat):Int)=(o:Int)+2^m:=by push_cast;rfl
  have:(0:Int)<2^m:=Int.pow_pos (by decide)
  omega
end
section
theorem Nb {b:Nat}:∀ k j,j<1→cput (fun _ _ => .int .i64 (-1)) b 0 (.int .i64 0) k j=lcl (fun v=>if v=b then 0 else -1) k j:=by
  intro k j hj
  have:j=0:=by omega
  subst this
  unfold cput lcl
  by_cases e:k=b <;> simp [e]
theorem Sc {L:Nat→Int} {p:Nat} {v:Int}:∀ k j,j<1→cput (lcl L) p 0 (.int .i64 v) k j=lcl (upd L p v) k j:=by
  intro k j hj
  have:j=0:=by omega
  subst this
  unfold cput lcl upd
  by_cases e:k=p <;> simp [e]
theorem Yx {q:Nat→Nat} {n ql h v:Nat} (hn:h+n=ql):∀ k,k<n+1→(if k=n then ((v:Nat):Int) else ((q (h+k):Nat):Int))=((upd q ql v (h+k):Nat):Int):=by
  intro k hk
  unfold upd
  by_cases e:k=n
  · rw [if_pos e,if_pos (by omega)]
  · rw [if_neg e,if_neg (by omega)]
theorem Nc (N:Net) (r:RM) (mv:Nat→Nat→Mv) (nb:Nat) (pl tk:Int) (st1 st2:Value) (EA:Option Addr) (A:Nat→Option Addr) (c:Nat→Nat) (b x:Nat) (p t:Int) (w:World) (F:Nat→Prop) (S:St w F [boxM nb 158 [.int .i64 pl,st1,st2,.int .i64 tk,.slice EA N.k N.k,.int .i64 (b:Int),.int .i64 (x:Int)]] w) (hp : -100000≤p∧p≤100000) (ht:i64ok (pl*t)) (ht2:i64ok (pl*t+p)) :
    Calls Tryz.prog 72 [.pointer (some ⟨nb,0,none⟩),.int .i64 p,.int .i64 t].toArray w (Ret (fun u w'=>u = .int .i64 (pl*t+p)∧St w F [boxM nb 158 [.int .i64 pl,st1,st2,.int .i64 tk,.slice EA N.k N.k,.int .i64 (b:Int),.int .i64 (x:Int)]] w')):=by
 refine enter Tryz.func72 rfl Tryz.ntmps72 rfl (fun a H=>?_)
 skip
 refine sS H fun K1 k1=>sr 1 rfl<|sE ?_;clear H a;intro a H
 refine k1 _ ?_;clear k1 K1
 replace H:=H.keep [0,1,2] rfl
 refine sS H fun K2 k2=>sr 2 rfl<|sf Ln rfl<|sf dU rfl<|sl S 0 aD G G G<|sr 1 rfl<|sd (iR G G (ht))<|sr 1 rfl<|sd (aK G G (ht2))<|sr 1 rfl<|sE ?_;clear H a;intro a H
 refine k2 _ ?_;clear k2 K2
 refine wp_ret ?_
 refine ret1 (fn:=Tryz.f72) rfl H rfl ?_
 exact ⟨rfl,(S.sel [0] G G)⟩
theorem Dw (N:Net) (r:RM) (mv:Nat→Nat→Mv) (nb:Nat) (pl tk:Int) (st1 st2:Value) (EA:Option Addr) (A:Nat→Option Addr) (c:Nat→Nat) (b x:Nat) (w:World) (F:Nat→Prop) (S:St w F [boxM nb 158 [.int .i64 pl,st1,st2,.int .i64 tk,.slice EA N.k N.k,.int .i64 (b:Int),.int .i64 (x:Int)],ownM 201 1 EA N.k N.k (hdc A N.n c),ragM 203 7 (fun q=>q<N.k) A N.n c (edgeC N r mv)] w) (W:N.Wf) (hO:Ok N r 2199023255552) (hb:b<N.k) (hx:x<N.k) (hbx:b≠x) (hk:N.k≤1000000) :
    Calls Tryz.prog 74 [.pointer (some ⟨nb,0,none⟩)].toArray w (Ret (fun u w'=>∃ LA L,u = .slice LA N.k N.k∧LevOk N r b L∧St w F [ownM 3 1 LA N.k N.k (lcl L),boxM nb 158 [.int .i64 pl,st1,st2,.int .i64 tk,.slice EA N.k N.k,.int .i64 (b:Int),.int .i64 (x:Int)],ownM 201 1 EA N.k N.k (hdc A N.n c),ragM 203 7 (fun q=>q<N.k) A N.n c (edgeC N r mv)] w')):=by
 refine enter Tryz.func74 rfl Tryz.ntmps74 rfl (fun a H=>?_)
 skip
 refine sS H fun K1 k1=>sr 1 rfl<|sE ?_;clear H a;intro a H
 refine k1 _ ?_;clear k1 K1
 refine seq_list fun K2 k2=>?_
 refine aZ H rfl S aT bA fO G G G G G G G G G ?_;clear H a S;intro A1 _ a hA1 S H
 refine ls 5 H<|sr 2 rfl<|sf eT rfl<|sl S 1 fU G G G<|sL gQ rfl<|sE ?_;clear H a;intro a H
 refine aA H G G Tryz.func108 G G (rP _ _ (-1) N.k _ ((ownM.inS S (i:=0) rfl).congr (fun k j hk hj=>Fk hk hj)) (by omega) (by omega)) ?_;clear H a
 rintro _ _ a ⟨lb,rfl,S2⟩ H
 replace S:=S.call S2;clear S2
 refine ls 1 H<|sr 1 rfl<|sE ?_;clear H a;intro a H
 refine k2 _ _ ?_;clear k2 K2
 replace H:=H.keep [0,3] rfl
 refine seq_list fun K3 k3=>?_
 refine ls 6 H<|sr 3 rfl<|sf oW rfl<|sl S 2 aD G G G<|si aT bA G G (ownM.adr S (i:=0) rfl (by omega)) (by omega)<|sE ?_;clear H a;intro a H
 refine bN H S (i:=0) G G G (by omega) (by omega) bA rfl ?_
 clear H a S;intro _ a S H
 replace S:=S.recell (i:=0) rfl (cell':=lcl (fun v=>if v=b then 0 else -1)) (fun k j hk hj=>Nb k j hj)
 refine k3 _ _ ?_;clear k3 K3
 replace H:=H.keep [0,3] rfl
 refine seq_list fun K4 k4=>?_
 refine ls 4 H<|sr 2 rfl<|sf oW rfl<|sl S 2 aD G G G<|sE ?_;clear H a;intro a H
 refine aZ H rfl S aT bA fO G G G G G G G G G ?_;clear H a S;intro A2 _ a hA2 S H
 replace S:=queM.of_own S (i:=0) rfl (f:=fun i=>(((fun _=>b:Nat→Nat) (0+i):Nat):Int)) (by omega) (fun k hk=>Fk hk (by omega))
 refine ls 1 H<|sr 1 rfl<|sE ?_;clear H a;intro a H
 refine k4 _ _ ?_;clear k4 K4
 refine wp_seq_k fun K5 k5=>?_
 refine wp_block ?_
 refine loop_st (X:=(Nat→Int)×(Nat→Nat)×Nat×Nat×Option Addr×Nat) (R0:=_) [0,3] H rfl (fun ⟨L,qf,ql,h,QA,qc⟩=>[(4,.slice QA (ql-h) qc)]) (fun ⟨L,qf,ql,h,QA,qc⟩=>[ownM 3 1 (some ⟨lb,0,none⟩) N.k N.k (lcl L),queM 3 QA (ql-h) qc (fun i=>((qf (h+i):Nat):Int))]) (fun g ⟨L,qf,ql,h,QA,qc⟩=>Bfs N r b L qf ql h 0∧h≤ql∧g+h=N.k) (N.k) (fun v=>if v=b then 0 else -1,fun _=>b,1,0,_,_) ?_ (S.sel [1,0,2,3,4,5] G G) (H.keep [4,0,3] rfl) ?_
 · exact ⟨Bfs.start hb (fun _ _=>rfl) rfl,by omega,by omega⟩
 clear H S a
 intro g1 x1 a w1 hp S H K6 k6
 obtain ⟨L,qf,ql,h,QA,qc⟩:=x1
 dsimp only at hp S H
 obtain ⟨hB,hhq,hgh⟩:=hp
 have hql:=hB.le
 refine wp_seq_k fun K7 k7=>?_
 refine sS H fun K8 k8=>sr 1 rfl<|sL aT rfl<|sr 1 rfl<|sE ?_;clear H a;intro a H
 refine k8 _ ?_;clear k8 K8
 refine condL H rfl (fun hc1=>?_) (fun hc1=>?_)
 ·skip
  refine wp_skip ?_
  refine k7 _ _ ?_
  refine wp_block ?_
  have hqk:qf h<N.k:=(hB.mem h (by omega)).1
  refine sS H fun K9 k9=>sr 1 rfl<|sI aT bA G G (queM.adr S (i:=1) rfl) (by omega) (by omega)<|sd ((aE aD rfl (queM.rd S (i:=1) (k:=0) rfl (by omega)):Does _ _ _ _ (.int .i64 (qf h:Int))))<|sr 1 rfl<|sE ?_;clear H a;intro a H
  refine k9 _ ?_;clear k9 K9
  have hqle:=queM.le S (i:=1) rfl
  replace H:=H.keep [0,3,4,5] rfl
  refine sS H fun K10 k10=>sr 1 rfl<|sd (iB aT bA rfl (lo:=1) (hi:=ql-h) (.inr ⟨_,rfl,_,rfl⟩) (.inl ⟨rfl,rfl⟩) (by omega) (by omega))<|sr 1 rfl<|sE ?_;clear H a;intro a H
  refine k10 _ ?_;clear k10 K10
  replace S:=queM.cut1 S (i:=1) rfl (by omega)
  replace H:=H.keep [0,3,4,5] rfl
  refine sS H fun K11 k11=>sr 2 rfl<|sf eT rfl<|sl S 3 fU G G G<|sr 1 rfl<|si gQ gP G G (ownM.adr S (i:=4) rfl (by omega)) (by omega)<|slm jX rfl (ownM.rd S (i:=4) rfl (by omega) (by omega))<|sL iW rfl<|sr 1 rfl<|sE ?_;clear H a;intro a H
  refine k11 _ ?_;clear k11 K11
  refine wp_block ?_
  replace S:=queM.congr S (i:=1) rfl (f':=fun i=>((qf (h+1+i):Nat):Int)) (fun k hk=>by (try dsimp only);rw [show h+1+k=h+(k+1) by omega])
  rw [show ql-h-1=ql-(h+1) by omega] at H S
  refine loop_st (X:=(Nat→Int)×(Nat→Nat)×Nat×Nat×Option Addr×Nat) (R0:=_) [0,3,5,40,41] H rfl (fun ⟨L2,qf2,ql2,J,QA2,qc2⟩=>[(4,.slice QA2 (ql2-(h+1)) qc2),(42,.int .i64 (J:Int))]) (fun ⟨L2,qf2,ql2,J,QA2,qc2⟩=>[ownM 3 1 (some ⟨lb,0,none⟩) N.k N.k (lcl L2),queM 3 QA2 (ql2-(h+1)) qc2 (fun i=>((qf2 (h+1+i):Nat):Int))]) (fun g ⟨L2,qf2,ql2,J,QA2,qc2⟩=>Bfs N r b L2 qf2 ql2 h J∧h<ql2∧J≤N.n (qf h)∧g+J=N.n (qf h)∧qf2 h=qf h) (N.n (qf h)) (L,qf,ql,0,_,_) ?_ (S.sel [0,1,2,3,4,5] G G) (H.keep [4,42,0,3,5,40,41] rfl) ?_
  · exact ⟨hB,by omega,by omega,by omega,rfl⟩
  clear H S a
  intro g2 x2 a w2 hp S H K12 k12
  obtain ⟨L2,qf2,ql2,J,QA2,qc2⟩:=x2
  dsimp only at hp S H
  obtain ⟨hB2,hhq2,hJn,hgJ,hqe⟩:=hp
  have hql2:=hB2.le
  have hr2:=hB2.low
  refine sS H fun K13 k13=>sr 1 rfl<|sE ?_;clear H a;intro a H
  refine k13 _ ?_;clear k13 K13
  refine wp_seq_k fun K14 k14=>?_
  refine condL H rfl (fun hc2=>?_) (fun hc2=>?_)
  ·skip
   refine wp_skip ?_
   refine k14 _ _ ?_
   refine wp_seq_k fun K15 k15=>?_
   refine wp_block ?_
   have htk:=W.to_lt (qf h) hqk J (by omega)
   have hnl:=ragM.le S (i:=5) rfl hqk
   have hmx:maxLen=9223372036854775807:=rfl
   refine seq_list fun K16 k16=>?_
   refine ls 2 H<|si iW kG G G (ragM.adr S (i:=5) rfl hqk (by omega)) (by omega)<|sd ((oK Rl kG rfl (ragM.pull S (i:=5) rfl hqk) (i:=0) rfl (by omega) (by omega)))<|sE ?_;clear H a;intro a H
   refine aI H rfl S qL ?_;clear H a S;intro b7 _ a hb7 hbw7 S H
   refine aF H S (i:=0) G G G G kG G G ?_
   clear H a S;intro _ a S H
   refine k16 _ _ ?_;clear k16 K16
   replace H:=H.keep [0,3,4,5,7,40,41,42] rfl
   refine sS H fun K17 k17=>sf jO rfl<|sl S 0 aD G G G<|sr 2 rfl<|sg 6 3 49 55 true G G (fun hg4=>sy hg4<|sr 1 rfl<|sy hg4<|sf kQ rfl<|sy hg4<|sl S 0 aD G G G<|sy hg4<|si aT bA G G (ownM.adr S (i:=1) rfl (by omega)) (by omega)<|sy hg4<|slm aD rfl (ownM.rd S (i:=1) rfl (by omega) (by omega))<|sy hg4<|sr 1 rfl<|sz 6 G G G)<|sa G G G<|sE ?_;clear H a;intro a H
   refine k17 _ ?_;clear k17 K17
   refine cond_ H rfl (fun hc3=>?_) (fun hc3=>?_)
   ·skip
    try simp only [o1,o2,o3,o4,o5,o6,o7,o8,o9,oa] at hc3
    have hLu:=(hB2.mem h (by omega)).2
    rw [hqe] at hLu
    replace H:=H.keep [0,3,4,5,7,40,41,42] rfl
    refine lM 9 (by kernel_rfl) (by kernel_rfl) fun K18 k18=>?_
    replace S:=S.drew
    refine sF H<|sr 1 rfl<|sf kQ rfl<|sl S 0 aD G G G<|sr 2 rfl<|si aT bA G G (ownM.adr S (i:=1) rfl (by omega)) (by omega)<|slm aD rfl (ownM.rd S (i:=1) rfl (by omega) (by omega))<|sd (aK G G (by unfold i64ok;omega))<|si aT bA G G (ownM.adr S (i:=1) rfl (by omega)) (by omega)<|sE ?_;clear H a;intro a H
    refine bN H S (i:=1) G G G htk (by omega) bA rfl ?_
    clear H a S;intro _ a S H
    replace S:=S.recell (i:=1) rfl (cell':=lcl (upd L2 (N.to (qf h) J) (L2 (qf h)+1))) (fun k j hk hj=>Sc k j hj)
    refine k18 _ _ ?_;clear k18 K18
    replace H:=H.keep [0,3,4,5,7,40,41,42] rfl
    refine one_list ?_
    refine ls 3 H<|sr 1 rfl<|sf kQ rfl<|sl S 0 aD G G G<|sE ?_;clear H a;intro a H
    refine aZ H rfl S aT bA fO G G G G G G G G G ?_;clear H a S;intro A3 _ a hA3 S H
    refine Ho H rfl S aT bA fO oY rfl (i:=3) G G G (ownM.inS S (i:=0) rfl) (v:=((N.to (qf h) J:Nat):Int)) rfl (by omega) (by omega) ?_;clear H a S;intro QA3 qc3 _ a S H
    replace S:=queM.congr S (i:=3) rfl (f':=fun i=>((upd qf2 ql2 (N.to (qf h) J) (h+1+i):Nat):Int)) (fun k hk=>Yx (by omega) k hk)
    rw [show ql2-(h+1)+1=ql2+1-(h+1) by omega] at H S
    refine ls 1 H<|sr 1 rfl<|sE ?_;clear H a;intro a H
    refine k15 _ _ ?_
    refine sO H<|sd (aK G G (by unfold i64ok;omega))<|sr 1 rfl<|sE ?_;clear H a;intro a H
    exact k12 (g2-1) (_,_,_,J+1,_,_) a _ (by omega) (by first|exact ⟨(by have:=hB2.visit W hhq2 (by rw [hqe];omega) (by rw [hqe];exact hc3.1) (by rw [hqe];exact hc3.2);rw [hqe] at this;exact this),by omega,by omega,by omega,by rw [bR _ _ (by omega)];exact hqe⟩|exact ⟨hB2.skip (by rw [hqe];intro h9;omega),hhq2,by omega,by omega,hqe⟩) (S.sel [2,3,4,5,6,7] G G) (H.keep [4,42,0,3,5,40,41] rfl)
   try simp only [o1,o2,o3,o4,o5,o6,o7,o8,o9,oa] at hc3
   refine wp_skip ?_
   refine k15 _ _ ?_
   replace H:=H.keep [0,3,4,5,40,41,42] rfl
   refine sO H<|sd (aK G G (by unfold i64ok;omega))<|sr 1 rfl<|sE ?_;clear H a;intro a H
   exact k12 (g2-1) (_,_,_,J+1,_,_) a _ (by omega) (by first|exact ⟨(by have:=hB2.visit W hhq2 (by rw [hqe];omega) (by rw [hqe];exact hc3.1) (by rw [hqe];exact hc3.2);rw [hqe] at this;exact this),by omega,by omega,by omega,by rw [bR _ _ (by omega)];exact hqe⟩|exact ⟨hB2.skip (by rw [hqe];intro h9;omega),hhq2,by omega,by omega,hqe⟩) (S.sel [1,2,3,4,5,6] G G) (H.keep [4,42,0,3,5,40,41] rfl)
  refine wp_exit ?_
  exact k6 (g1-1) (L2,qf2,ql2,h+1,QA2,qc2) a _ (by omega) (⟨hB2.next (by rw [hqe];omega),by omega,by omega⟩) (S.sel [0,1,2,3,4,5] G G) (H.keep [4,0,3] rfl)
 refine wp_exit ?_
 refine k5 _ _ ?_
 refine sS H fun K22 k22=>sr 2 rfl<|sE ?_;clear H a;intro a H
 refine k22 _ ?_;clear k22 K22
 refine wp_ret ?_
 refine ret1 (fn:=Tryz.f74) rfl H rfl ?_
 exact ⟨_,L,rfl,hB.done (by omega),(S.sel [0,3,4,5] G G)⟩
end
section
theorem tW {N:Net} {r:RM} {mv:Nat→Nat→Mv} {p q:Nat} {v:Int}:∀ i k j,k<N.n i→j<7→upd (edgeC N r mv) p (cput (edgeC N r mv p) q (0+1) (.int .i64 v)) i k j=edgeC N (put2 r p q v) mv i k j:=by
  intro i k j _ _
  rw [show (0+1:Nat)=1 from rfl,Hv]
theorem Ih {n:Nat→Nat} {p v:Nat} {x:Int} (h:x=(v:Int)):∀ k j,j<1→cput (ncl n) p 0 (.int .i64 x) k j=ncl (upd n p v) k j:=by
  intro k j hj
  have:j=0:=by omega
  subst this
  rw [Rp h]
  exact if_pos rfl
theorem PushI.same {N:Net} {L:Nat→Int} {x u:Nat} {r r1:RM} {nx nx1:Nat→Nat} {j:Nat} (I:PushI N L x u r nx 0 r1 nx1) (hu:u<N.k) (hj:j<N.n u) (h:¬ (0<r1 u j∧L (N.to u j)=L u+1)) (hr:0<r u j) (hl:L (N.to u j)=L u+1):False:=by
  have:=(I.zero rfl).1 u hu j hj
  exact h ⟨by omega,hl⟩
def PushC (N:Net) (mv:Nat→Nat→Mv) (nb:Nat) (pl tk:Int) (st1 st2:Value) (EA:Option Addr) (A:Nat→Option Addr) (c:Nat→Nat) (b x:Nat) (L:Nat→Int) (LA:Option Addr) (lc:Nat) (NA:Option Addr) (d:Int):Prop:=
  ∀ (u:Nat) (most:Int) (r:RM) (nx:Nat→Nat) (w:World) (F:Nat→Prop) (S:St w F [boxM nb 158 [.int .i64 pl,st1,st2,.int .i64 tk,.slice EA N.k N.k,.int .i64 (b:Int),.int .i64 (x:Int)],ownM 201 1 EA N.k N.k (hdc A N.n c),ragM 203 7 (fun q=>q<N.k) A N.n c (edgeC N r mv),ownM 3 1 NA N.k N.k (ncl nx)] w) (hl:InS w F 1 LA N.k (lcl L)) (hO:Ok N r 2199023255552) (hn:∀ i,i<N.k→nx i≤N.n i) (hu:u<N.k) (hm:0≤most∧most≤2199023255552) (_:d≤L u),Calls Tryz.prog 75 [.pointer (some ⟨nb,0,none⟩),.int .i64 (u:Int),.int .i64 most,.slice LA N.k lc,.slice NA N.k N.k].toArray w (Ret (fun v w'=>∃ m r' nx',v = .int .i64 m∧PushR N L x u r nx most m r' nx'∧St w F [boxM nb 158 [.int .i64 pl,st1,st2,.int .i64 tk,.slice EA N.k N.k,.int .i64 (b:Int),.int .i64 (x:Int)],ownM 201 1 EA N.k N.k (hdc A N.n c),ragM 203 7 (fun q=>q<N.k) A N.n c (edgeC N r' mv),ownM 3 1 NA N.k N.k (ncl nx')] w'))
theorem Ii (N:Net) (r:RM) (mv:Nat→Nat→Mv) (nb:Nat) (pl tk:Int) (st1 st2:Value) (EA:Option Addr) (A:Nat→Option Addr) (c:Nat→Nat) (b x:Nat) (L:Nat→Int) (LA:Option Addr) (lc:Nat) (NA:Option Addr) (d:Int) (u:Nat) (most:Int) (nx:Nat→Nat) (W:N.Wf) (hb:b<N.k) (hx:x<N.k) (hk:N.k≤1000000) (hL:∀ v,v<N.k → -1≤L v∧L v<N.k) (w:World) (F:Nat→Prop) (S:St w F [boxM nb 158 [.int .i64 pl,st1,st2,.int .i64 tk,.slice EA N.k N.k,.int .i64 (b:Int),.int .i64 (x:Int)],ownM 201 1 EA N.k N.k (hdc A N.n c),ragM 203 7 (fun q=>q<N.k) A N.n c (edgeC N r mv),ownM 3 1 NA N.k N.k (ncl nx)] w) (hl:InS w F 1 LA N.k (lcl L)) (hO:Ok N r 2199023255552) (hn:∀ i,i<N.k→nx i≤N.n i) (hu:u<N.k) (hm:0≤most∧most≤2199023255552) (hd:d≤L u+1) (ih:PushC N mv nb pl tk st1 st2 EA A c b x L LA lc NA d) :
    Calls Tryz.prog 75 [.pointer (some ⟨nb,0,none⟩),.int .i64 (u:Int),.int .i64 most,.slice LA N.k lc,.slice NA N.k N.k].toArray w (Ret (fun v w'=>∃ m r' nx',v = .int .i64 m∧PushR N L x u r nx most m r' nx'∧St w F [boxM nb 158 [.int .i64 pl,st1,st2,.int .i64 tk,.slice EA N.k N.k,.int .i64 (b:Int),.int .i64 (x:Int)],ownM 201 1 EA N.k N.k (hdc A N.n c),ragM 203 7 (fun q=>q<N.k) A N.n c (edgeC N r' mv),ownM 3 1 NA N.k N.k (ncl nx')] w')):=by
 refine enter Tryz.func75 rfl Tryz.ntmps75 rfl (fun a H=>?_)
 skip
 refine sS H fun K1 k1=>sr 1 rfl<|sE ?_;clear H a;intro a H
 refine k1 _ ?_;clear k1 K1
 refine wp_seq_k fun K2 k2=>?_
 refine sS H fun K3 k3=>sr 3 rfl<|sf tR rfl<|sl S 0 aD G G G<|sr 1 rfl<|sE ?_;clear H a;intro a H
 refine k3 _ ?_;clear k3 K3
 refine condE H rfl (fun hc1=>?_) (fun hc1=>?_)
 ·skip
  refine sS H fun K4 k4=>sr 2 rfl<|sE ?_;clear H a;intro a H
  refine k4 _ ?_;clear k4 K4
  refine wp_ret ?_
  refine ret1 (fn:=Tryz.f75) rfl H rfl ?_
  have hux:u=x:=by omega
  subst hux
  exact ⟨_,r,nx,rfl,PushR.here hO hn hm.1,(S.sel [0,1,2,3] G G)⟩
 refine wp_skip ?_
 refine k2 _ _ ?_
 replace H:=H.keep [0,1,2,3,4] rfl
 refine sS H fun K5 k5=>sr 1 rfl<|sE ?_;clear H a;intro a H
 refine k5 _ ?_;clear k5 K5
 refine wp_seq_k fun K6 k6=>?_
 refine wp_block ?_
 refine loop_st (X:=Int×RM×(Nat→Nat)) (R0:=_) [0,1,2,3,4] H rfl (fun ⟨sent,r1,nx1⟩=>[(11,.int .i64 sent)]) (fun ⟨sent,r1,nx1⟩=>[ragM 203 7 (fun q=>q<N.k) A N.n c (edgeC N r1 mv),ownM 3 1 NA N.k N.k (ncl nx1)]) (fun g ⟨sent,r1,nx1⟩=>PushI N L x u r nx sent r1 nx1∧0≤sent∧sent≤most∧g+nx1 u=N.n u) (N.n u-nx u) (0,r,nx) ?_ (S.sel [2,3,0,1] G G) (H.keep [11,0,1,2,3,4] rfl) ?_
 · exact ⟨PushI.start hO hn,by omega,by omega,by have:=hn u hu;omega⟩
 clear H S a
 intro g1 x1 a w1 hp S H K7 k7
 obtain ⟨sent,r1,nx1⟩:=x1
 dsimp only at hp S H
 obtain ⟨hI,h0s,hsm,hgj⟩:=hp
 have hO1:=hI.fl.ok hO
 have hxn:=(hI.nxl u hu).2
 refine wp_seq_k fun K8 k8=>?_
 replace H:=H.keep [0,1,2,3,4,11] rfl
 replace S:=S.drew
 refine sD H fun K9 k9=>sr 2 rfl<|si aT bA G G (ownM.adr S (i:=1) rfl (by omega)) (by omega)<|slm aD rfl (ownM.rd S (i:=1) rfl (by omega) (by omega))<|sr 2 rfl<|sf eT rfl<|sl S 2 fU G G G<|sr 1 rfl<|si gQ gP G G (ownM.adr S (i:=3) rfl (by omega)) (by omega)<|slm jX rfl (ownM.rd S (i:=3) rfl (by omega) (by omega))<|sL iW rfl<|sr 1 rfl<|sE ?_;clear H a;intro a H
 refine k9 _ ?_;clear k9 K9
 refine condL H rfl (fun hc2=>?_) (fun hc2=>?_)
 ·skip
  refine wp_skip ?_
  refine k8 _ _ ?_
  refine wp_seq_k fun K10 k10=>?_
  refine wp_block ?_
  obtain ⟨j,hjd⟩:∃ j,j=nx1 u:=⟨_,rfl⟩
  have hjn:j<N.n u:=by omega
  have htk:=W.to_lt u hu j hjn
  have hbk:=W.bk_lt u hu j hjn
  have hru0:=hO1.nn u hu j hjn;have hrl0:=hO1.le W hu hjn
  have hLu:=hL u hu;have hLt:=hL _ htk
  have hnl:=ragM.le S (i:=0) rfl hu
  have hmx:maxLen=9223372036854775807:=rfl
  replace H:=H.keep [0,1,2,3,4,11] rfl
  replace S:=S.drew
  refine sD H fun K11 k11=>sr 2 rfl<|sf eT rfl<|sl S 2 fU G G G<|sr 1 rfl<|si gQ gP G G (ownM.adr S (i:=3) rfl (by omega)) (by omega)<|slm jX rfl (ownM.rd S (i:=3) rfl (by omega) (by omega))<|sr 2 rfl<|si aT bA G G (ownM.adr S (i:=1) rfl (by omega)) (by omega)<|sd ((aE aD rfl (ownM.rd S (i:=1) rfl (by omega) (by omega))).to (v' := .int .i64 (j:Int)) (by rw [hjd];rfl))<|si iW kG G G (ragM.adr S (i:=0) (p:=u) rfl hu (by omega)) (by omega)<|sr 1 rfl<|sE ?_;clear H a;intro a H
  refine k11 _ ?_;clear k11 K11
  have SR:=(S.sel [2,3] G G)
  refine meet_sr (X:=Int×RM×(Nat→Nat)) [0,1,2,3,4] H rfl (fun ⟨sent2,r2,nx2⟩=>[(11,.int .i64 sent2)]) (fun ⟨sent2,r2,nx2⟩=>[ragM 203 7 (fun q=>q<N.k) A N.n c (edgeC N r2 mv),ownM 3 1 NA N.k N.k (ncl nx2)]) (fun ⟨sent2,r2,nx2⟩=>PushI N L x u r nx sent2 r2 nx2∧0≤sent2∧sent2≤most∧nx2 u=j∧(sent2≠most→sent2=0→Dead N r L x nx→0<r u j→L (N.to u j)=L u+1→¬ Path N r L x (N.to u j))) SR (fun K13 k13=>?_) ?_
  ·skip
   replace H:=H.keep [0,1,2,3,4,11,12] rfl
   replace S:=S.drew
   refine sD H fun K14 k14=>sr 2 rfl<|sp jO rfl<|slm aD rfl (ragM.rd S (i:=0) (p:=u) rfl hu (by omega) (by omega))<|sr 2 rfl<|sg 13 5 57 70 true G G (fun hg6=>sy hg6<|sr 1 rfl<|sy hg6<|sr 1 rfl<|sy hg6<|sr 1 rfl<|sy hg6<|sp kQ rfl<|sy hg6<|slm aD rfl (ragM.rd S (i:=0) (p:=u) rfl hu (by omega) (by omega))<|sy hg6<|si aT bA G G (hl.adr (by omega)) (by omega)<|sy hg6<|slm aD rfl (hl.rd S (by omega) (by omega))<|sy hg6<|sr 1 rfl<|sy hg6<|sr 1 rfl<|sy hg6<|si aT bA G G (hl.adr (by omega)) (by omega)<|sy hg6<|slm aD rfl (hl.rd S (by omega) (by omega))<|sy hg6<|sd (aK G G (by unfold i64ok;omega))<|sy hg6<|sr 1 rfl<|sz 13 G G G)<|sa G G G<|sE ?_;clear H a;intro a H
   refine k14 _ ?_;clear k14 K14
   refine cond_ H rfl (fun hc3=>?_) (fun hc3=>?_)
   ·skip
    try simp only [o1,o2,o3,o4,o5,o6,o7,o8,o9,oa] at hc3
    replace H:=H.keep [0,1,2,3,4,11,12] rfl
    refine lM 15 (by kernel_rfl) (by kernel_rfl) fun K15 k15=>?_
    replace S:=S.drew
    refine sF H<|sr 3 rfl<|sp kQ rfl<|slm aD rfl (ragM.rd S (i:=0) (p:=u) rfl hu (by omega) (by omega))<|sr 2 rfl<|sd (aU G G (by unfold i64ok;omega))<|sr 2 rfl<|sp jO rfl<|slm aD rfl (ragM.rd S (i:=0) (p:=u) rfl hu (by omega) (by omega))<|sd (sT G G)<|sr 2 rfl<|sE ?_;clear H a;intro a H
    have S1:=(S.sel [2,3,0,1] G G)
    refine aA H G G Tryz.func75 G G (ih (N.to u j) (min (most-sent) (r1 u j)) r1 nx1 _ _ S1.startR (hl.nowR S1) hO1 (fun i hi=>(hI.nxl i hi).2) htk (by omega) (by omega)) ?_;clear H a
    rintro _ _ a ⟨m2,r2,nx2,rfl,hK,S2⟩ H
    replace S:=(S.sel [2,3,0,1] G G).callR (M:=[_,_,_,_]) S2;clear S1 S2
    have hru:r2 u j=r1 u j:=hK.low u hu j hjn (by omega)
    have hO2:=hK.fl.ok hO1
    have hkm:=hK.ml;have hk0:=hK.m0
    have hr2n:=hO2.nn _ htk _ hbk;have hr2l:=hO2.le W htk hbk
    have hpn:put2 r2 u j (r2 u j-m2) (N.to u j) (N.back u j)=r2 (N.to u j) (N.back u j):=jC (fun h=>W.to_ne u hu j hjn h.1)
    have hce:put2 (put2 r2 u j (r2 u j-m2)) (N.to u j) (N.back u j) (put2 r2 u j (r2 u j-m2) (N.to u j) (N.back u j)+m2)=along N r2 u j m2:=by rw [hpn];rfl
    have hE:=hI.edge W hu hjn hc3.2 h0s hK
    refine ls 1 H<|sr 1 rfl<|sE ?_;clear H a;intro a H
    refine k15 _ _ ?_;clear k15 K15
    replace H:=H.keep [0,1,2,3,4,11,12,13] rfl
    refine seq_list fun K16 k16=>?_
    refine ls 8 H<|sr 2 rfl<|sp jO rfl<|slm aD rfl (ragM.rd S (i:=2) (p:=u) rfl hu (by omega) (by omega))<|sr 1 rfl<|sd (aU G G (by unfold i64ok;omega))<|sr 1 rfl<|sp jO rfl<|sE ?_;clear H a;intro a H
    refine lQ H S (i:=2) (p:=u) G G G hu hjn (by omega) bA rfl ?_;clear H a S;intro _ a S H
    replace S:=ragM.congr S (i:=2) rfl (cell':=edgeC N (put2 r2 u j (r2 u j-m2)) mv) (fun _ _=>rfl) (fun _ _=>rfl) (fun _ _=>rfl) (fun i _=>tW i)
    refine k16 _ _ ?_;clear k16 K16
    replace H:=H.keep [0,1,2,3,4,11,12,13] rfl
    refine lM 21 (by kernel_rfl) (by kernel_rfl) fun K17 k17=>?_
    replace S:=S.drew
    refine sF H<|sr 2 rfl<|sf eT rfl<|sl S 0 fU G G G<|sr 2 rfl<|sp kQ rfl<|slm aD rfl (ragM.rd S (i:=2) (p:=u) rfl hu (by omega) (by omega))<|si gQ gP G G (ownM.adr S (i:=1) rfl (by omega)) (by omega)<|slm jX rfl (ownM.rd S (i:=1) rfl (by omega) (by omega))<|sr 2 rfl<|sp Lu rfl<|slm aD rfl (ragM.rd S (i:=2) (p:=u) rfl hu (by omega) (by omega))<|si iW kG G G (ragM.adr S (i:=2) (p:=N.to u j) rfl htk (by omega)) (by omega)<|sp jO rfl<|slm aD rfl (ragM.rd S (i:=2) (p:=N.to u j) rfl htk hbk (by omega))<|sr 1 rfl<|sd (aK G G (by rw [hpn];unfold i64ok;omega))<|si iW kG G G (ragM.adr S (i:=2) (p:=N.to u j) rfl htk (by omega)) (by omega)<|sp jO rfl<|sE ?_;clear H a;intro a H
    refine lQ H S (i:=2) (p:=N.to u j) G G G htk hbk (by omega) bA rfl ?_;clear H a S;intro _ a S H
    replace S:=ragM.congr S (i:=2) rfl (cell':=edgeC N (along N r2 u j m2) mv) (fun _ _=>rfl) (fun _ _=>rfl) (fun _ _=>rfl) (fun i _ k j hk hj=>by rw [tW i k j hk hj];exact congrArg (fun r=>edgeC N r mv i k j) hce)
    refine k17 _ _ ?_;clear k17 K17
    replace H:=H.keep [0,1,2,3,4,11,13] rfl
    refine sO H<|sr 2 rfl<|sd (aK G G (by unfold i64ok;omega))<|sr 1 rfl<|sE ?_;clear H a;intro a H
    exact k13 (sent+m2,along N r2 u j m2,nx2) a _ (⟨hE,by omega,by omega,by rw [hK.nlow u hu (by omega)];omega,fun h1 h2 hd h3 h4=>(by
      have h5:sent=0:=by omega
      obtain ⟨e1,e2⟩:=hI.zero h5
      have h6:=hK.none (by omega) (nP W e1 (e2 hd)) (by omega)
      exact fun hp=>h6 (tD W (fun i hi q hq=>(e1 i hi q hq).symm) hp htk))⟩) (S.sel [2,3,0,1] G G) (H.keep [11,0,1,2,3,4] rfl)
   try simp only [o1,o2,o3,o4,o5,o6,o7,o8,o9,oa] at hc3
   refine wp_skip ?_
   exact k13 (sent,r1,nx1) a _ (⟨hI,h0s,hsm,hjd.symm,fun h1 h2 hd h3 h4=>by subst h2;exact (hI.same hu hjn (by intro h9;omega) h3 h4).elim⟩) (S.sel [0,1,2,3] G G) (H.keep [11,0,1,2,3,4] rfl)
  clear SR H S a
  intro xm a wm hp S H
  obtain ⟨sent2,r2,nx2⟩:=xm
  obtain ⟨hI2,h0s2,hsm2,hnj,hp2⟩:=hp
  refine sS H fun K19 k19=>sr 3 rfl<|sE ?_;clear H a;intro a H
  refine k19 _ ?_;clear k19 K19
  refine condE H rfl (fun hc4=>?_) (fun hc4=>?_)
  ·skip
   refine sS H fun K20 k20=>sr 2 rfl<|sE ?_;clear H a;intro a H
   refine k20 _ ?_;clear k20 K20
   refine wp_ret ?_
   refine ret1 (fn:=Tryz.f75) rfl H rfl ?_
   exact ⟨_,_,_,rfl,hI2.full h0s2 (by omega),(S.sel [2,3,0,1] G G)⟩
  refine wp_skip ?_
  refine k10 _ _ ?_
  replace H:=H.keep [0,1,2,3,4,11] rfl
  refine one_list ?_
  refine ls 6 H<|sr 2 rfl<|si aT bA G G (ownM.adr S (i:=1) rfl (by omega)) (by omega)<|slm aD rfl (ownM.rd S (i:=1) rfl (by omega) (by omega))<|sd (aK G G (by unfold i64ok;omega))<|si aT bA G G (ownM.adr S (i:=1) rfl (by omega)) (by omega)<|sE ?_;clear H a;intro a H
  refine bN H S (i:=1) G G G (by omega) (by omega) bA rfl ?_
  clear H a S;intro _ a S H
  replace S:=S.recell (i:=1) rfl (cell':=ncl (upd nx2 u (j+1))) (fun k q hk hq=>Ih (by rw [hnj];omega) k q hq)
  exact k7 (g1-1) (sent2,r2,upd nx2 u (j+1)) a _ (by omega) (⟨hI2.skip W hu hnj hjn (fun h0 hd h1 h2=>hp2 (by omega) h0 hd h1 h2),by omega,by omega,by rw [bQ];omega⟩) (S.sel [0,1,2,3] G G) (H.keep [11,0,1,2,3,4] rfl)
 refine wp_exit ?_
 refine k6 _ _ ?_
 refine sS H fun K22 k22=>sr 2 rfl<|sE ?_;clear H a;intro a H
 refine k22 _ ?_;clear k22 K22
 refine wp_ret ?_
 refine ret1 (fn:=Tryz.f75) rfl H rfl ?_
 exact ⟨_,_,_,rfl,hI.done hu (by omega) (by omega) h0s hsm,(S.sel [2,3,0,1] G G)⟩
end
section
theorem Nd (N:Net) (mv:Nat→Nat→Mv) (nb:Nat) (pl tk:Int) (st1 st2:Value) (EA:Option Addr) (A:Nat→Option Addr) (c:Nat→Nat) (b x:Nat) (L:Nat→Int) (LA:Option Addr) (lc:Nat) (NA:Option Addr) (W:N.Wf) (hb:b<N.k) (hx:x<N.k) (hk:N.k≤1000000) (hL:∀ v,v<N.k → -1≤L v∧L v<N.k):∀ n:Nat,PushC N mv nb pl tk st1 st2 EA A c b x L LA lc NA ((N.k:Int)-n):=by
  intro n
  induction n with
  | zero=>intro u most r nx w F S hl hO hn hu hm hd;have:=(hL u hu).2;omega
  | succ n ih=>
    intro u most r nx w F S hl hO hn hu hm hd
    exact Ii N r mv nb pl tk st1 st2 EA A c b x L LA lc NA _ u most nx W hb hx hk hL w F S hl hO hn hu hm (by omega) ih
theorem Fl.bound {N:Net} {r r':RM} {b x:Nat} {v B:Int} (h:Fl N r r' b x v) (o:Ok N r B) (hbx:b≠x):v≤resid N r (fun v=>decide (v=b)):=by
  have h1:=oM (S:=(fun v=>decide (v=b))) (h.ok o)
  rw [h.cut] at h1
  unfold ind at h1
  have hxb:¬ x=b:=fun e=>hbx e.symm
  simp [hxb] at h1
  omega
theorem Wd:∀ k j,j<1→[Value.int .i64 0].getD j undef=ncl (fun _=>0) k j:=by
  intro k j hj
  have:j=0:=by omega
  subst this;rfl
theorem dead0 {N:Net} {r:RM} {L:Nat→Int} {x:Nat}:Dead N r L x (fun _=>0):=fun u hu j hj=>absurd hj (Nat.not_lt_zero j)
theorem Ar (N:Net) (r:RM) (mv:Nat→Nat→Mv) (nb:Nat) (pl tk:Int) (st1 st2:Value) (EA:Option Addr) (A:Nat→Option Addr) (c:Nat→Nat) (b x:Nat) (w:World) (F:Nat→Prop) (S:St w F [boxM nb 158 [.int .i64 pl,st1,st2,.int .i64 tk,.slice EA N.k N.k,.int .i64 (b:Int),.int .i64 (x:Int)],ownM 201 1 EA N.k N.k (hdc A N.n c),ragM 203 7 (fun q=>q<N.k) A N.n c (edgeC N r mv)] w) (W:N.Wf) (hO:Ok N r 2199023255552) (hb:b<N.k) (hx:x<N.k) (hbx:b≠x) (hk:N.k≤1000000) (hV:resid N r (fun v=>decide (v=b))≤1000000000) :
    Calls Tryz.prog 47 [.pointer (some ⟨nb,0,none⟩)].toArray w (Ret (fun u w'=>∃ v r',u = .int .i64 v∧Fl N r r' b x v∧0≤v∧(∃ L,LevOk N r' b L∧L x<0)∧St w F [boxM nb 158 [.int .i64 pl,st1,st2,.int .i64 tk,.slice EA N.k N.k,.int .i64 (b:Int),.int .i64 (x:Int)],ownM 201 1 EA N.k N.k (hdc A N.n c),ragM 203 7 (fun q=>q<N.k) A N.n c (edgeC N r' mv)] w')):=by
 refine enter Tryz.func47 rfl Tryz.ntmps47 rfl (fun a H=>?_)
 skip
 refine sS H fun K1 k1=>sr 1 rfl<|sE ?_;clear H a;intro a H
 refine k1 _ ?_;clear k1 K1
 refine sS H fun K2 k2=>sr 1 rfl<|sE ?_;clear H a;intro a H
 refine k2 _ ?_;clear k2 K2
 refine wp_block ?_
 refine loop_st (X:=Int×RM) (R0:=_) [0] H rfl (fun ⟨sum,r1⟩=>[(3,.int .i64 sum)]) (fun ⟨sum,r1⟩=>[ragM 203 7 (fun q=>q<N.k) A N.n c (edgeC N r1 mv)]) (fun g ⟨sum,r1⟩=>Fl N r r1 b x sum∧0≤sum∧(g:Int)+sum=resid N r (fun v=>decide (v=b))) ((resid N r (fun v=>decide (v=b))).toNat) (0,r) ?_ (S.sel [2,0,1] G G) (H.keep [3,0] rfl) ?_
 · exact ⟨Fl.zero hO,by omega,by have:=oM (S:=(fun v=>decide (v=b))) hO;omega⟩
 clear H S a
 intro g1 x1 a w1 hp S H K3 k3
 obtain ⟨sum,r1⟩:=x1
 dsimp only at hp S H
 obtain ⟨hF,h0,hg⟩:=hp
 have hO1:=hF.ok hO
 have hFb0:=hF.bound hO hbx
 refine wp_block ?_
 refine seq_list fun K4 k4=>?_
 refine ls 1 H<|sr 1 rfl<|sE ?_;clear H a;intro a H
 have S1:=(S.sel [1,2,0] G G)
 refine aA H G G Tryz.func74 G G (Dw N r1 mv nb pl tk st1 st2 EA A c b x _ _ S1.startR W hO1 hb hx hbx hk) ?_;clear H a
 rintro _ _ a ⟨LA,L,rfl,hLv,S2⟩ H
 replace S:=(S.sel [1,2,0] G G).callR (M:=[_,_,_]) S2;clear S1 S2
 refine ls 1 H<|sr 1 rfl<|sE ?_;clear H a;intro a H
 refine k4 _ _ ?_;clear k4 K4
 refine wp_seq_k fun K5 k5=>?_
 replace H:=H.keep [0,3,4] rfl
 refine sS H fun K6 k6=>sr 3 rfl<|sf tR rfl<|sl S 1 aD G G G<|si aT bA G G (ownM.adr S (i:=0) rfl (by omega)) (by omega)<|slm aD rfl (ownM.rd S (i:=0) rfl (by omega) (by omega))<|sr 1 rfl<|sE ?_;clear H a;intro a H
 refine k6 _ ?_;clear k6 K6
 refine condL H rfl (fun hc1=>?_) (fun hc1=>?_)
 ·skip
  replace H:=H.keep [3] rfl
  refine sS H fun K7 k7=>sr 2 rfl<|sE ?_;clear H a;intro a H
  refine k7 _ ?_;clear k7 K7
  refine wp_ret ?_
  refine ret1 (fn:=Tryz.f47) rfl H rfl ?_
  exact ⟨_,_,rfl,hF,h0,⟨L,hLv,by omega⟩,(S.sel [1,2,3] G G)⟩
 refine wp_skip ?_
 refine k5 _ _ ?_
 replace H:=H.keep [0,3,4] rfl
 replace S:=S.drew
 refine one_wq [(0,true),(1,true),(2,true),(3,true),(4,true),(5,true),(6,true),(7,true),(8,true),(9,true),(10,true),(11,true),(12,false),(13,false),(14,true),(15,true)] (by kernel_rfl) (by kernel_rfl) (S.sel [0,1,2] G G) ?_
 refine qF H<|qr 4 rfl<|qd rfl (fun _ S=>(aB oW rfl))<|qd rfl (fun _ S=>aE aD rfl (boxM.rd S (i:=1) G G))<|qr 3 rfl<|qd rfl (fun _ S=>(aB eT rfl))<|qd rfl (fun _ S=>aE fU rfl (boxM.rd S (i:=1) G G))<|qd rfl (fun _ S=>cB gQ rfl)<|qK ?_;clear H a;intro a H
 refine aS rfl ?_
 refine iA (n:=_) H rfl S aT bA fO oY rfl (by decide) G G (by omega) (by omega) ?_;clear H a S;intro A1 _ a hA1 S H
 replace S:=S.recell (i:=0) rfl (cell':=ncl (fun _=>0)) (fun k j hk hj=>Wd k j hj)
 refine wpList_nil (And.intro (S.sel [1,2,3] G G) ?_)
 refine aS rfl ?_
 have S1:=(S.sel [2,3,4,0] G G)
 refine aA H G G Tryz.func75 G G ((by have:=Nd N mv nb pl tk st1 st2 EA A c b x L LA N.k _ W hb hx hk hLv.rng N.k b 1099511627776 r1 (fun _=>0) _ _ S1.startR (ownM.inF S (i:=1) rfl [2,3,4,0] G G) hO1 (fun i hi=>Nat.zero_le _) hb (by omega) (by rw [hLv.b0];omega);exact this)) ?_;clear H a
 rintro _ _ a ⟨m2,r2,nx2,rfl,hK,S2⟩ H
 replace S:=(S.sel [2,3,4,0,1] G G).callR (M:=[_,_,_,_]) S2;clear S1 S2
 have hm0:=hK.m0
 have hm1:m2≠0:=fun h=>hK.none h dead0 (by omega) (Ri hLv hx (by omega))
 have hF2:=hF.more hK.fl
 have hFb:=hF2.bound hO hbx
 refine wpList_nil (And.intro (S.sel [4,0,1] G G) ?_)
 refine qF H<|qd rfl (fun _ S=>aK G G (by unfold i64ok;omega))<|qr 1 rfl<|qK ?_;clear H a;intro a H
 refine bF ?_
 exact k3 ((resid N r (fun v=>decide (v=b))-(sum+m2)).toNat) (sum+m2,r2) a _ (by omega) (⟨hF2,by omega,by omega⟩) (S.sel [2,0,1] G G) (H.keep [3,0] rfl)
end
section
theorem seven {p:Nat→Prop} (h0:p 0) (h1:p 1) (h2:p 2) (h3:p 3) (h4:p 4) (h5:p 5) (h6:p 6):∀ j,j<7→p j:=by
  intro j hj
  match j,hj with
  | 0,_=>exact h0
  | 1,_=>exact h1
  | 2,_=>exact h2
  | 3,_=>exact h3
  | 4,_=>exact h4
  | 5,_=>exact h5
  | 6,_=>exact h6
theorem tX {T:Tab} {f:Nat} {e:Ent} (q:Nat):upd (tlen T) f (tlen T f+1) q=tlen (upd T f (T f++[e])) q:=by
  unfold tlen upd
  split <;> simp
theorem As {T:Tab} {f:Nat} {e:Ent}:((tlen (upd T f (T f++[e])) f:Nat):Int)=((T f).length:Int)+1:=by
  unfold tlen
  rw [bQ,List.length_append]
  simp
theorem Ft {T:Tab} {f t:Nat} {l:List Ent} (h:f≠t):tlen (upd T f l) t=tlen T t:=by unfold tlen;rw [bR _ _ (fun e=>h e.symm)]
theorem Ne {T:Tab} {f t:Nat} {room:Int} {mv:Mv} (h:f≠t):joinT T f t room mv=upd (upd T f (T f++[⟨t,room,(T t).length,mv⟩])) t ((upd T f (T f++[⟨t,room,(T t).length,mv⟩])) t++[⟨f,0,(T f).length,Mv.none⟩]):=by
  unfold joinT
  rw [bR (i:=t) _ _ (fun e=>h e.symm)]
theorem tY {T:Tab} {f:Nat} {e:Ent} {vs:List Value} (h:∀ j,j<7→vs.getD j undef=e.cell j):∀ i k j,k<upd (tlen T) f (tlen T f+1) i→j<7 →
    upd (tcell T) f (capp (tlen T f) (tcell T f) (fun k' j=>([vs].getD k' []).getD j undef)) i k j=tcell (upd T f (T f++[e])) i k j:=by
  intro i k j hk hj
  by_cases hi:i=f
  · subst hi
    rw [bQ] at hk ⊢
    unfold capp tcell
    rw [bQ]
    unfold tlen at hk ⊢
    by_cases h1:k<(T i).length
    · rw [if_pos h1,List.getD_eq_getElem?_getD,List.getD_eq_getElem?_getD,List.getElem?_append_left h1]
    · have h2:k=(T i).length:=by omega
      subst h2
      rw [if_neg h1,Nat.sub_self]
      rw [List.getD_eq_getElem?_getD (l:=T i++[e]),List.getElem?_append_right (Nat.le_refl _),Nat.sub_self]
      exact h j hj
  · rw [bR _ _ hi] at hk ⊢
    unfold tcell
    rw [bR _ _ hi]
theorem Nf {T:Tab} {f:Nat} {e:Ent} {A:Nat→Option Addr} {c:Nat→Nat} {A1:Option Addr} {c1:Nat}:∀ k j,j<1→cput (hdc A (tlen T) c) f 0 (.slice A1 (tlen T f+1) c1) k j=hdc (upd A f A1) (tlen (upd T f (T f++[e]))) (upd c f c1) k j:=by
  intro k j hj
  have:j=0:=by omega
  subst this
  unfold cput hdc
  rw [←tX]
  by_cases h:k=f
  · subst h;simp [bQ]
  · simp [bR _ _ h,h]
theorem Au {l:List Int} {x:Int} {k:Nat} (hk:k<l.length) (h:(l.take k).any (fun y=>decide (x=y))=false) (hx:¬ x=l.getD k 0):(l.take (k+1)).any (fun y=>decide (x=y))=false:=by
  rw [List.take_succ_eq_append_getElem hk,List.any_append,h]
  rw [List.getD_eq_getElem?_getD,List.getElem?_eq_getElem hk] at hx
  simpa using hx
theorem Ng {l:List Int} {x:Int} {k:Nat} (hk:k<l.length) (hx:x=l.getD k 0):hasI l x=true:=by
  rw [List.getD_eq_getElem?_getD,List.getElem?_eq_getElem hk] at hx
  unfold hasI
  rw [List.any_eq_true]
  exact ⟨l[k],List.getElem_mem hk,by simpa using hx⟩
theorem pC (T:Tab) (k nb:Nat) (pl tk:Int) (st1 st2:Value) (EA:Option Addr) (A:Nat→Option Addr) (c:Nat→Nat) (b x:Nat) (f t:Nat) (room m1 m2 m3 m4:Int) (w:World) (F:Nat→Prop) (S:St w F [boxM nb 158 [.int .i64 pl,st1,st2,.int .i64 tk,.slice EA k k,.int .i64 (b:Int),.int .i64 (x:Int)],ownM 201 1 EA k k (hdc A (tlen T) c),ragM 203 7 (fun q=>q<k) A (tlen T) c (tcell T)] w) (hf:f<k) (ht:t<k) (hft:f≠t) (hlen:∀ i,i<k→(T i).length≤1000000) :
    Calls Tryz.prog 71 [.pointer (some ⟨nb,0,none⟩),.int .i64 (f:Int),.int .i64 (t:Int),.int .i64 room,.agg [.int .i64 m1,.int .i64 m2,.int .i64 m3,.int .i64 m4].toArray].toArray w (Ret (fun u w'=>u = .tuple #[]∧∃ A' c',St w F [boxM nb 158 [.int .i64 pl,st1,st2,.int .i64 tk,.slice EA k k,.int .i64 (b:Int),.int .i64 (x:Int)],ownM 201 1 EA k k (hdc A' (tlen (joinT T f t room ⟨m1,m2,m3,m4⟩)) c'),ragM 203 7 (fun q=>q<k) A' (tlen (joinT T f t room ⟨m1,m2,m3,m4⟩)) c' (tcell (joinT T f t room ⟨m1,m2,m3,m4⟩))] w')):=by
 refine enter Tryz.func71 rfl Tryz.ntmps71 rfl (fun a H=>?_)
 skip
 refine seq_list fun K1 k1=>?_
 refine aO H rfl S G G ?_;clear H a S;intro b9 _ a hb9 hbw9 S H
 refine k1 _ _ ?_;clear k1 K1
 replace H:=H.keep [0,1,2,3,9] rfl
 replace S:=S.drew
 refine seq_wt 27 (.p 0 (.p 1 (.p 2 (.q 3 (.p 4 (.p 5 (.p 6 (.p 7 (.q 8 (.p 9 (.p 10 (.q 11 (.p 12 (.p 13 (.p 14 (.p 15 (.p 16 (.q 17 (.p 18 (.p 19 (.q 20 (.p 21 (.q 22 (.p 23 (.e 24 (.e 25 (.p 26 (.e 27 .nil)))))))))))))))))))))))))))) (by kernel_rfl) (by kernel_rfl) (S.sel [0,1,2] G G) fun K2 k2=>?_
 refine aV H G G (fun _=>aL rfl) ?_;clear H a;intro a H
 refine aV H G G (fun _=>bK rfl) ?_;clear H a;intro a H
 refine aV H G G (fun _=>(aB eT rfl)) ?_;clear H a;intro a H
 refine aH H G G (fun _ S=>aE fU rfl (boxM.rd S (i:=1) G G)) ?_;clear H a;intro a H
 refine aV H G G (fun _=>aL rfl) ?_;clear H a;intro a H
 refine aV H G G (fun _=>aL rfl) ?_;clear H a;intro a H
 refine aV H G G (fun _=>bK rfl) ?_;clear H a;intro a H
 refine aV H G G (fun _=>(aB eT rfl)) ?_;clear H a;intro a H
 refine aH H G G (fun _ S=>aE fU rfl (boxM.rd S (i:=1) G G)) ?_;clear H a;intro a H
 refine aV H G G (fun _=>aL rfl) ?_;clear H a;intro a H
 refine aV H G G (fun _=>bC gQ gP G G (ownM.adr S (i:=2) rfl (by omega)) (by omega)) ?_;clear H a;intro a H
 refine aH H G G (fun _ S=>aE jX rfl (ownM.rd S (i:=2) rfl (by omega) (by omega))) ?_;clear H a;intro a H
 refine aV H G G (fun _=>aL rfl) ?_;clear H a;intro a H
 refine aV H G G (fun _=>aL rfl) ?_;clear H a;intro a H
 refine aV H G G (fun _=>aL rfl) ?_;clear H a;intro a H
 refine aV H G G (fun _=>bK rfl) ?_;clear H a;intro a H
 refine aV H G G (fun _=>(aB eT rfl)) ?_;clear H a;intro a H
 refine aH H G G (fun _ S=>aE fU rfl (boxM.rd S (i:=1) G G)) ?_;clear H a;intro a H
 refine aV H G G (fun _=>aL rfl) ?_;clear H a;intro a H
 refine aV H G G (fun _=>bC gQ gP G G (ownM.adr S (i:=2) rfl (by omega)) (by omega)) ?_;clear H a;intro a H
 refine aH H G G (fun _ S=>aE jX rfl (ownM.rd S (i:=2) rfl (by omega) (by omega))) ?_;clear H a;intro a H
 refine aV H G G (fun _=>cB iW rfl) ?_;clear H a;intro a H
 refine aH H G G (fun _ S=>(aC rU tH rfl S (i:=0) G G)) ?_;clear H a;intro a H
 refine aV H G G (fun _=>aN Ml G G) ?_;clear H a;intro a H
 refine aM rfl ?_
 refine aZ H rfl S iW kG qL G G G G G G G G G ?_;clear H a S;intro A1 _ a hA1 S H
 refine wpList_nil (And.intro (Or.inr (S.sel [1,2,3] G G)) ?_)
 refine aM rfl ?_
 replace S:=ragM.pull S (i:=4) rfl hf
 refine bW H rfl S iW kG qL Mg G G (i:=0) G G G (ownM.inS S (i:=0+1) rfl) (mA (seven G G G G G G G)) (by have:=hlen f hf;have h9:tlen T f=(T f).length:=rfl;omega) (by have:=hlen f hf;have h9:tlen T f=(T f).length:=rfl;omega) ?_;clear H a S;intro Af cf _ a S H
 replace S:=ragM.put S (i:=4) (p:=f) rfl hf
 replace S:=ragM.congr S (i:=4) rfl (n':=tlen (upd T f (T f++[⟨t,room,(T t).length,⟨m1,m2,m3,m4⟩⟩]))) (cell':=tcell (upd T f (T f++[⟨t,room,(T t).length,⟨m1,m2,m3,m4⟩⟩]))) (fun _ _=>rfl) (fun q _=>tX q) (fun _ _=>rfl) (fun i _=>tY (seven G G G G G G G) i)
 refine wpList_nil (And.intro (Or.inr (S.sel [1,2,3] G G)) ?_)
 refine aV H G G (fun _=>bC gQ gP G G (ownM.adr S (i:=3) rfl (by omega)) (by omega)) ?_;clear H a;intro a H
 refine aM rfl ?_
 refine bN H S (i:=3) G G G (by omega) (by omega) gP rfl ?_
 clear H a S;intro _ a S H
 replace S:=S.recell (i:=3) rfl (cell':=hdc (upd A f Af) (tlen (upd T f (T f++[⟨t,room,(T t).length,⟨m1,m2,m3,m4⟩⟩]))) (upd c f cf)) (fun k j hk hj=>Nf k j hj)
 refine wpList_nil (And.intro (Or.inl rfl) ?_)
 refine bE ?_
 refine k2 _ _ ?_
 clear k2 K2
 replace H:=H.keep [0,1,2] rfl
 replace S:=S.drew
 refine one_wt 27 (.p 0 (.p 1 (.p 2 (.q 3 (.p 4 (.p 5 (.p 6 (.p 7 (.q 8 (.p 9 (.p 10 (.q 11 (.p 12 (.p 13 (.p 14 (.p 15 (.q 16 (.p 17 (.p 18 (.q 19 (.p 20 (.p 21 (.p 22 (.p 23 (.e 24 (.e 25 (.p 26 (.e 27 .nil)))))))))))))))))))))))))))) (by kernel_rfl) (by kernel_rfl) (S.sel [0,1,2,3] G G) ?_
 refine aV H G G (fun _=>aL rfl) ?_;clear H a;intro a H
 refine aV H G G (fun _=>bK rfl) ?_;clear H a;intro a H
 refine aV H G G (fun _=>(aB eT rfl)) ?_;clear H a;intro a H
 refine aH H G G (fun _ S=>aE fU rfl (boxM.rd S (i:=2) G G)) ?_;clear H a;intro a H
 refine aV H G G (fun _=>aL rfl) ?_;clear H a;intro a H
 refine aV H G G (fun _=>aL rfl) ?_;clear H a;intro a H
 refine aV H G G (fun _=>bK rfl) ?_;clear H a;intro a H
 refine aV H G G (fun _=>(aB eT rfl)) ?_;clear H a;intro a H
 refine aH H G G (fun _ S=>aE fU rfl (boxM.rd S (i:=2) G G)) ?_;clear H a;intro a H
 refine aV H G G (fun _=>aL rfl) ?_;clear H a;intro a H
 refine aV H G G (fun _=>bC gQ gP G G (ownM.adr S (i:=3) rfl (by omega)) (by omega)) ?_;clear H a;intro a H
 refine aH H G G (fun _ S=>aE jX rfl (ownM.rd S (i:=3) rfl (by omega) (by omega))) ?_;clear H a;intro a H
 refine aV H G G (fun _=>aL rfl) ?_;clear H a;intro a H
 refine aV H G G (fun _=>aL rfl) ?_;clear H a;intro a H
 refine aV H G G (fun _=>bK rfl) ?_;clear H a;intro a H
 refine aV H G G (fun _=>(aB eT rfl)) ?_;clear H a;intro a H
 refine aH H G G (fun _ S=>aE fU rfl (boxM.rd S (i:=2) G G)) ?_;clear H a;intro a H
 refine aV H G G (fun _=>aL rfl) ?_;clear H a;intro a H
 refine aV H G G (fun _=>bC gQ gP G G (ownM.adr S (i:=3) rfl (by omega)) (by omega)) ?_;clear H a;intro a H
 refine aH H G G (fun _ S=>aE jX rfl (ownM.rd S (i:=3) rfl (by omega) (by omega))) ?_;clear H a;intro a H
 refine aV H G G (fun _=>cB iW rfl) ?_;clear H a;intro a H
 refine aV H G G (fun _=>(aU G G (by rw [As];have:=hlen f hf;unfold i64ok;omega)).to (v' := .int .i64 ((T f).length:Int)) (by rw [As];congr 1;omega)) ?_;clear H a;intro a H
 refine aV H G G (fun _=>aN Dl G G) ?_;clear H a;intro a H
 refine aV H G G (fun _=>aN Ml G G) ?_;clear H a;intro a H
 refine aM rfl ?_
 refine aZ H rfl S iW kG qL G G G G G G G G G ?_;clear H a S;intro A2 _ a hA2 S H
 refine wpList_nil (And.intro (Or.inr (S.sel [1,2,3,4] G G)) ?_)
 refine aM rfl ?_
 replace S:=ragM.pull S (i:=5) rfl ht
 refine bW H rfl S iW kG qL Mg G G (i:=0) G G G (ownM.inS S (i:=0+1) rfl) (mA (seven G G G G G G G)) (by have:=hlen t ht;rw [Ft hft];have h9:tlen T t=(T t).length:=rfl;omega) (by have:=hlen t ht;rw [Ft hft];have h9:tlen T t=(T t).length:=rfl;omega) ?_;clear H a S;intro At ct _ a S H
 replace S:=ragM.put S (i:=5) (p:=t) rfl ht
 replace S:=ragM.congr S (i:=5) rfl (n':=tlen (upd (upd T f (T f++[⟨t,room,(T t).length,⟨m1,m2,m3,m4⟩⟩])) t ((upd T f (T f++[⟨t,room,(T t).length,⟨m1,m2,m3,m4⟩⟩])) t++[⟨f,0,(T f).length,Mv.none⟩]))) (cell':=tcell (upd (upd T f (T f++[⟨t,room,(T t).length,⟨m1,m2,m3,m4⟩⟩])) t ((upd T f (T f++[⟨t,room,(T t).length,⟨m1,m2,m3,m4⟩⟩])) t++[⟨f,0,(T f).length,Mv.none⟩]))) (fun _ _=>rfl) (fun q _=>tX q) (fun _ _=>rfl) (fun i _=>tY (seven G G G G G G G) i)
 refine wpList_nil (And.intro (Or.inr (S.sel [1,2,3,4] G G)) ?_)
 refine aV H G G (fun _=>bC gQ gP G G (ownM.adr S (i:=4) rfl (by omega)) (by omega)) ?_;clear H a;intro a H
 refine aM rfl ?_
 refine bN H S (i:=4) G G G (by omega) (by omega) gP rfl ?_
 clear H a S;intro _ a S H
 replace S:=S.recell (i:=4) rfl (cell':=hdc (upd (upd A f Af) t At) (tlen (upd (upd T f (T f++[⟨t,room,(T t).length,⟨m1,m2,m3,m4⟩⟩])) t ((upd T f (T f++[⟨t,room,(T t).length,⟨m1,m2,m3,m4⟩⟩])) t++[⟨f,0,(T f).length,Mv.none⟩]))) (upd (upd c f cf) t ct)) (fun k j hk hj=>Nf k j hj)
 refine wpList_nil (And.intro (Or.inl rfl) ?_)
 refine bE ?_
 refine ret0 (fn:=Tryz.f71) rfl H ?_
 rw [Ne hft]
 exact ⟨rfl,_,_,(S.sel [3,4,5] G G)⟩
theorem yH (l:List Int) (A:Option Addr) (cp:Nat) (x:Int) (w:World) (hl:InS w noF 1 A l.length (icl l)) (hn:l.length≤9223372036854775807) :
    Calls Tryz.prog 63 [.slice A l.length cp,.int .i64 x].toArray w (Ret (fun u w'=>∃ n:Int,u = .int .i64 n∧decide (0≤n)=hasI l x∧St w noF [] w')):=by
 refine enter Tryz.func63 rfl Tryz.ntmps63 rfl (fun a H=>?_)
 have S:=St.start w
 refine sS H fun K1 k1=>sr 1 rfl<|sE ?_;clear H a;intro a H
 refine k1 _ ?_;clear k1 K1
 refine wp_seq_k fun K2 k2=>?_
 refine sS H fun K3 k3=>sr 1 rfl<|sL aT rfl<|sr 1 rfl<|sE ?_;clear H a;intro a H
 refine k3 _ ?_;clear k3 K3
 refine wp_block ?_
 refine loop_st (X:=Nat) (R0:=_) [0,1,7] H rfl (fun k=>[(8,.int .i64 (k:Int))]) (fun k=>[]) (fun g k=>k≤l.length∧g+k=l.length∧(l.take k).any (fun y=>decide (x=y))=false) (l.length) 0 ?_ (S.sel [] G G) (H.keep [8,0,1,7] rfl) ?_
 · exact ⟨by omega,by omega,rfl⟩
 clear H S a
 intro g1 x1 a w1 hp S H K4 k4
 obtain ⟨k,rfl⟩:∃ y,y=x1:=⟨_,rfl⟩
 refine sS H fun K5 k5=>sr 1 rfl<|sE ?_;clear H a;intro a H
 refine k5 _ ?_;clear k5 K5
 refine wp_seq_k fun K6 k6=>?_
 refine condL H rfl (fun hc1=>?_) (fun hc1=>?_)
 ·skip
  refine wp_skip ?_
  refine k6 _ _ ?_
  refine wp_seq_k fun K7 k7=>?_
  refine wp_block ?_
  refine sS H fun K8 k8=>sr 2 rfl<|sE ?_;clear H a;intro a H
  refine k8 _ ?_;clear k8 K8
  refine sS H fun K9 k9=>sr 3 rfl<|si aT bA G G (hl.adr (by omega)) (by omega)<|slm aD rfl (hl.rd S (by omega) (by omega))<|sr 1 rfl<|sE ?_;clear H a;intro a H
  refine k9 _ ?_;clear k9 K9
  refine condE H rfl (fun hc2=>?_) (fun hc2=>?_)
  ·skip
   replace H:=H.keep [5] rfl
   refine sS H fun K10 k10=>sr 2 rfl<|sE ?_;clear H a;intro a H
   refine k10 _ ?_;clear k10 K10
   refine wp_ret ?_
   refine ret1 (fn:=Tryz.f63) rfl H rfl ?_
   exact ⟨_,rfl,by rw [Ng (k:=k) (by omega) hc2];exact decide_eq_true (by omega),(S.sel [] G G)⟩
  refine wp_skip ?_
  refine k7 _ _ ?_
  refine sO H<|sd (aK G G (by unfold i64ok;omega))<|sr 1 rfl<|sE ?_;clear H a;intro a H
  exact k4 (g1-1) (k+1) a _ (by omega) (⟨by omega,by omega,Au (by omega) hp.2.2 hc2⟩) (S.sel [] G G) (H.keep [8,0,1,7] rfl)
 refine wp_exit ?_
 refine k2 _ _ ?_
 refine sS H fun K12 k12=>sr 1 rfl<|sE ?_;clear H a;intro a H
 refine k12 _ ?_;clear k12 K12
 refine wp_ret ?_
 refine ret1 (fn:=Tryz.f63) rfl H rfl ?_
 exact ⟨_,rfl,by unfold hasI;rw [←List.take_of_length_le (l:=l) (i:=k) (by omega),hp.2.2];rfl,(S.sel [] G G)⟩
theorem eU (l:List Int) (A:Option Addr) (cp:Nat) (x:Int) (w:World) (hl:InS w noF 1 A l.length (icl l)) (hn:l.length≤9223372036854775807) :
    Calls Tryz.prog 35 [.slice A l.length cp,.int .i64 x].toArray w (Ret (fun u w'=>u = .bool (hasI l x)∧St w noF [] w')):=by
 refine enter Tryz.func35 rfl Tryz.ntmps35 rfl (fun a H=>?_)
 have S:=St.start w
 refine sS H fun K1 k1=>sr 1 rfl<|sE ?_;clear H a;intro a H
 refine k1 _ ?_;clear k1 K1
 refine seq_list fun K2 k2=>?_
 refine ls 2 H<|sr 2 rfl<|sE ?_;clear H a;intro a H
 refine aA H G G Tryz.func63 G G (yH l A cp x _ (hl.now S) hn) ?_;clear H a
 rintro _ _ a ⟨n,rfl,hn2,S2⟩ H
 replace S:=S.call S2;clear S2
 refine ls 2 H<|sr 2 rfl<|sE ?_;clear H a;intro a H
 refine k2 _ _ ?_;clear k2 K2
 refine wp_ret ?_
 refine ret1 (fn:=Tryz.f35) rfl H rfl ?_
 exact ⟨congrArg Value.bool hn2,(S.sel [] G G)⟩
end
section
theorem vM (pl:Int) (ps:List Psg) (PA:Option Addr) (pc:Nat) (xs:List Int) (XA:Option Addr) (xc:Nat) (out:Int) (w:World) :
    Calls Tryz.prog 73 [.agg [.int .i64 pl,.slice PA ps.length pc,.slice XA xs.length xc].toArray,.int .i64 out].toArray w (Ret (fun u w'=>∃ b2 b3,u = .func (.func 107) #[] #[.pointer (some ⟨b2,0,none⟩),.pointer (some ⟨b3,0,none⟩)]∧St w noF [boxM b2 25 [.int .i64 pl,.slice PA ps.length pc,.slice XA xs.length xc],boxM b3 3 [.int .i64 out]] w')):=by
 refine enter Tryz.func73 rfl Tryz.ntmps73 rfl (fun a H=>?_)
 have S:=St.start w
 refine seq_list fun K1 k1=>?_
 refine aO H rfl S G G ?_;clear H a S;intro b2 _ a hb2 hbw2 S H
 refine aO H rfl S G G ?_;clear H a S;intro b3 _ a hb3 hbw3 S H
 refine ls 1 H<|sr 1 rfl<|sE ?_;clear H a;intro a H
 refine k1 _ _ ?_;clear k1 K1
 refine sS H fun K2 k2=>sr 2 rfl<|sE ?_;clear H a;intro a H
 refine k2 _ ?_;clear k2 K2
 refine wp_ret ?_
 refine ret1 (fn:=Tryz.f73) rfl H rfl ?_
 exact ⟨_,_,rfl,(S.sel [1,0] G G)⟩
theorem Dx (pl:Int) (ps:List Psg) (PA:Option Addr) (pc:Nat) (xs:List Int) (XA:Option Addr) (xc:Nat) (out:Int) (b2 b3 l:Nat) (Jm:Nat→Mem→Prop) (m:Mem) (w:World) (F:Nat→Prop) (h0:Jm 0 m) (S:St w F [m,boxM b2 25 [.int .i64 pl,.slice PA ps.length pc,.slice XA xs.length xc],boxM b3 3 [.int .i64 out]] w) (hps:InS w F 7 PA ps.length (pcell ps)) (hpn:ps.length≤9223372036854775807) (hxs:InS w F 1 XA xs.length (icl xs)) (hxn:xs.length≤9223372036854775807) (hmv:∀ k,k<ps.length→(ps.getD k Psg.zero).kind=3→0≤(ps.getD k Psg.zero).mach∧(ps.getD k Psg.zero).mach≤11) (hout:0≤out) (hr:∀ i m' x w1,i<(hds out xs ps).length→Jm i m'→St w F [m',x] w1→Round Tryz.prog l (.agg (Hd.cells ((hds out xs ps).getD i Hd.zero)).toArray) Jm w F i x w1) :
    Calls Tryz.prog 107 [.func (.yield l) #[] #[],.pointer (some ⟨b2,0,none⟩),.pointer (some ⟨b3,0,none⟩)].toArray w (Ret (fun u w'=>∃ m',Jm (hds out xs ps).length m'∧St w F [m',boxM b2 25 [.int .i64 pl,.slice PA ps.length pc,.slice XA xs.length xc],boxM b3 3 [.int .i64 out]] w')):=by
 refine enter Tryz.func107 rfl Tryz.ntmps107 rfl (fun a H=>?_)
 skip
 refine sS H fun K1 k1=>sf eO rfl<|sl S 1 fZ G G G<|sL fS rfl<|sr 1 rfl<|sE ?_;clear H a;intro a H
 refine k1 _ ?_;clear k1 K1
 refine wp_block ?_
 refine loop_st (X:=Nat×Mem) (R0:=_) [0,1,2,9,10] H rfl (fun ⟨k,m⟩=>[(11,.int .i64 (k:Int))]) (fun ⟨k,m⟩=>[m]) (fun g ⟨k,m⟩=>k≤ps.length∧g+k=ps.length∧Jm (hdsTo out xs ps k).length m) (ps.length) (0,m) ?_ (S.sel [0,1,2] G G) (H.keep [11,0,1,2,9,10] rfl) ?_
 · exact ⟨by omega,by omega,h0⟩
 clear H S a
 intro g1 x1 a w1 hp S H K2 k2
 obtain ⟨k,m⟩:=x1
 dsimp only at hp S H
 obtain ⟨hkl,hgk,hJ⟩:=hp
 refine sS H fun K3 k3=>sr 1 rfl<|sE ?_;clear H a;intro a H
 refine k3 _ ?_;clear k3 K3
 refine wp_seq_k fun K4 k4=>?_
 refine condL H rfl (fun hc1=>?_) (fun hc1=>?_)
 ·skip
  refine wp_skip ?_
  refine k4 _ _ ?_
  refine wp_seq_k fun K5 k5=>?_
  refine wp_block ?_
  refine seq_list fun K6 k6=>?_
  refine ls 3 H<|sr 1 rfl<|si fS eK G G (hps.adr (by omega)) (by omega)<|sd ((aW jM eK rfl S hps (by omega) (by omega)))<|sE ?_;clear H a;intro a H
  refine aI H rfl S rE ?_;clear H a S;intro b5 _ a hb5 hbw5 S H
  refine ls 1 H<|sr 1 rfl<|sE ?_;clear H a;intro a H
  refine aF H S (i:=0) G G G G eK G G ?_
  clear H a S;intro _ a S H
  refine k6 _ _ ?_;clear k6 K6
  replace H:=H.keep [0,1,2,4,5,9,10,11] rfl
  refine sS H fun K7 k7=>sf oT rfl<|sl S 0 aD G G G<|sr 2 rfl<|sE ?_;clear H a;intro a H
  refine k7 _ ?_;clear k7 K7
  have SR:=(S.sel [0,1,2,3] G G)
  refine meet_sr (X:=Int×Bool) [0,1,2,4,5,9,10,11] H rfl (fun ⟨tk,bk⟩=>[(6,.int .i64 tk),(7,.bool bk)]) (fun ⟨tk,bk⟩=>[]) (fun ⟨tk,bk⟩=>¬ (ps.getD k Psg.zero).kind=4∧tk=gU out (ps.getD k Psg.zero)∧bk=lE out (ps.getD k Psg.zero)) SR (fun K9 k9=>?_) ?_
  ·skip
   refine wp_block ?_
   refine sS H fun K10 k10=>sf eP rfl<|sl S 0 aD G G G<|sr 2 rfl<|sE ?_;clear H a;intro a H
   refine k10 _ ?_;clear k10 K10
   refine condE H rfl (fun hc2=>?_) (fun hc2=>?_)
   ·skip
    refine wp_exit ?_
    refine k5 _ _ ?_
    replace H:=H.keep [0,1,2,9,10,11] rfl
    refine sO H<|sd (aK G G (by unfold i64ok;omega))<|sr 1 rfl<|sE ?_;clear H a;intro a H
    exact k2 (g1-1) (k+1,_) a _ (by omega) (by first|exact ⟨by omega,by omega,(mB (out:=out) (xs:=xs) hc2).symm ▸ hJ⟩|exact ⟨by omega,by omega,by rw [jE hk4,hqB];exact hJ2⟩|exact ⟨by omega,by omega,by rw [jE hk4,hqB];exact hJ⟩) (S.sel [1,2,3] G G) (H.keep [11,0,1,2,9,10] rfl)
   replace H:=H.keep [0,1,2,4,5,6,7,9,10,11] rfl
   refine sS H fun K12 k12=>sf eP rfl<|sl S 0 aD G G G<|sr 2 rfl<|sg 6 3 26 32 true G G (fun hg4=>by
       have hq4:=hg4;try simp only [o1,o2,o3,o4,o5,o6,o7,o8,o9,oa] at hq4
       have hmk:=hmv k (by omega) hq4
       exact sy hg4<|sl S 3 aD G G G<|sy hg4<|sf dO rfl<|sy hg4<|sl S 0 aD G G G<|sy hg4<|sd (fQ G G (by omega) (by omega))<|sy hg4<|sd (eY G G)<|sy hg4<|sr 1 rfl<|sz 6 G G G)<|sa G G G<|sr 1 rfl<|sE ?_;clear H a;intro a H
   refine k12 _ ?_;clear k12 K12
   refine cond_ H rfl (fun hc3=>?_) (fun hc3=>?_)
   ·skip
    try simp only [o1,o2,o3,o4,o5,o6,o7,o8,o9,oa] at hc3
    replace H:=H.keep [0,1,2,4,5,6,9,10,11] rfl
    refine sO H<|sr 1 rfl<|sE ?_;clear H a;intro a H
    exact k9 ((ps.getD k Psg.zero).ticks,false) a _ (⟨hc2,by unfold gU bitI;rw [if_neg (by omega)],Mn hc3⟩) (S.sel [0,1,2,3] G G) (H.keep [6,7,0,1,2,4,5,9,10,11] rfl)
   try simp only [o1,o2,o3,o4,o5,o6,o7,o8,o9,oa] at hc3
   refine sS H fun K14 k14=>sf eP rfl<|sl S 0 aD G G G<|sr 2 rfl<|sE ?_;clear H a;intro a H
   refine k14 _ ?_;clear k14 K14
   refine condE H rfl (fun hc4=>?_) (fun hc4=>?_)
   ·skip
    refine sO H<|sf kB rfl<|sl S 0 aD G G G<|sr 1 rfl<|sE ?_;clear H a;intro a H
    exact k9 ((ps.getD k Psg.zero).still,true) a _ (⟨hc2,by unfold gU bitI;rw [if_pos (by omega)],Am hc3⟩) (S.sel [0,1,2,3] G G) (H.keep [6,7,0,1,2,4,5,9,10,11] rfl)
   refine wp_skip ?_
   exact k9 ((ps.getD k Psg.zero).ticks,true) a _ (⟨hc2,by unfold gU;rw [if_neg (by omega)],Am hc3⟩) (S.sel [0,1,2,3] G G) (H.keep [6,7,0,1,2,4,5,9,10,11] rfl)
  clear SR H S a
  intro xm a wm hp S H
  obtain ⟨tk,bk⟩:=xm
  obtain ⟨hk4,rfl,rfl⟩:=hp
  have SR:=(S.sel [0,2,3] G G)
  refine meet_sr (X:=Nat×Mem) [0,1,2,4,5,6,7,9,10,11] H rfl (fun ⟨q,m⟩=>[]) (fun ⟨q,m⟩=>[m]) (fun ⟨q,m⟩=>Jm q m∧q=(hdsTo out xs ps k).length+qA xs (ps.getD k Psg.zero)) SR (fun K17 k17=>?_) ?_
  ·skip
   cases hcA:hasI xs (ps.getD k Psg.zero).a
   ·skip
    replace H:=H.keep [0,1,2,4,5,6,7,9,10,11] rfl
    refine La fun K18 k18=>?_
    refine rS 17 ?_
    refine ls 4 H<|sf iJ rfl<|sl S 2 bM G G G<|sf iM rfl<|sl S 0 aD G G G<|sE ?_;clear H a;intro a H
    refine aA H G G Tryz.func35 G G (eU xs XA xc _ _ (hxs.now S) hxn) ?_;clear H a
    rintro _ _ a ⟨rfl,S2⟩ H
    replace S:=S.call S2;clear S2
    first|rw [hcA] at H|rw [hcB] at H
    refine ls 12 H<|sr 2 rfl<|sy rfl<|sr 1 rfl<|sy rfl<|sr 1 rfl<|sy rfl<|sf iM rfl<|sy rfl<|sl S 0 aD G G G<|sy rfl<|sf iN rfl<|sy rfl<|sl S 0 aD G G G<|sy rfl<|sr 1 rfl<|sy rfl<|sf sG rfl<|sy rfl<|sl S 0 aD G G G<|sy rfl<|sd (aN Mj G G)<|sE ?_;clear H a;intro a H
    refine wpList_nil ?_
    refine Lb H G G G ?_
    have SY:=(St.pack (Ms:=[_,_,_]) (R:=[_]) (S.sel [0,2,3,1] G G)).sel [1,0] G G
    have hhd:=Hw (out:=out) (xs:=xs) (show k<ps.length by omega) hk4 hcA
    refine Aa H G G (v := .agg (Hd.cells ((hds out xs ps).getD ((hdsTo out xs ps k).length) Hd.zero)).toArray) (by rw [hhd.1];rfl) (hr _ _ _ _ hhd.2 hJ SY) (fun _ _ h=>h.1) ?_;clear H a
    rintro _ a ⟨_,m2,hJ2,S2⟩ H
    replace S:=St.unpack (S2.sel [1,0] G G);clear S2 SY
    refine rS 2 ?_
    refine ls 2 H<|sy rfl<|sr 1 rfl<|sa G G G<|sE ?_;clear H a;intro a H
    refine wpList_nil ?_
    refine k18 _ _ ?_;clear k18 K18
    refine cond_ H rfl (fun hc5=>?_) (fun hc5=>?_)
    ·skip
     try simp only [o1,o2,o3,o4,o5,o6,o7,o8,o9,oa] at hc5
     exfalso;simp at hc5
    try simp only [o1,o2,o3,o4,o5,o6,o7,o8,o9,oa] at hc5
    refine wp_skip ?_
    exact k17 ((hdsTo out xs ps k).length+1,_) a _ (⟨hJ2,by unfold qA;rw [if_neg (by rw [hcA];simp)]⟩) (S.sel [3,0,1,2] G G) (H.keep [0,1,2,4,5,6,7,9,10,11] rfl)
   replace H:=H.keep [0,1,2,4,5,6,7,9,10,11] rfl
   refine seq_list fun K19 k19=>?_
   refine ls 4 H<|sf iJ rfl<|sl S 2 bM G G G<|sf iM rfl<|sl S 0 aD G G G<|sE ?_;clear H a;intro a H
   refine aA H G G Tryz.func35 G G (eU xs XA xc _ _ (hxs.now S) hxn) ?_;clear H a
   rintro _ _ a ⟨rfl,S2⟩ H
   replace S:=S.call S2;clear S2
   first|rw [hcA] at H|rw [hcB] at H
   refine ls 15 H<|sr 2 rfl<|sn G G G<|sn G G G<|sn G G G<|sn G G G<|sn G G G<|sn G G G<|sn G G G<|sn G G G<|sn G G G<|sn G G G<|sn G G G<|sn G G G<|sd ((aR G G G))<|sE ?_;clear H a;intro a H
   refine k19 _ _ ?_;clear k19 K19
   refine cond_ H rfl (fun hc6=>?_) (fun hc6=>?_)
   ·skip
    try simp only [o1,o2,o3,o4,o5,o6,o7,o8,o9,oa] at hc6
    exfalso;simp at hc6
   try simp only [o1,o2,o3,o4,o5,o6,o7,o8,o9,oa] at hc6
   refine wp_skip ?_
   exact k17 ((hdsTo out xs ps k).length,_) a _ (⟨hJ,by unfold qA;rw [if_pos hcA];rfl⟩) (S.sel [1,0,2,3] G G) (H.keep [0,1,2,4,5,6,7,9,10,11] rfl)
  clear SR H S a
  intro xm a wm hp S H
  obtain ⟨q,m⟩:=xm
  obtain ⟨hJ,rfl⟩:=hp
  rcases bk3 (lE out (ps.getD k Psg.zero)) (hasI xs (ps.getD k Psg.zero).b) with hbk|⟨hbk,hcB⟩|⟨hbk,hcB⟩
  ·skip
   rw [hbk] at H
   have hqB:qB out xs (ps.getD k Psg.zero)=0:=by unfold qB;rw [hbk];rfl
   replace H:=H.keep [0,1,2,4,5,6,7,9,10,11] rfl
   refine seq_list fun K20 k20=>?_
   refine ls 23 H<|sr 2 rfl<|sn G G G<|sn G G G<|sn G G G<|sn G G G<|sn G G G<|sn G G G<|sd ((aR G G G))<|sr 1 rfl<|sn G G G<|sn G G G<|sn G G G<|sn G G G<|sn G G G<|sn G G G<|sn G G G<|sn G G G<|sn G G G<|sn G G G<|sn G G G<|sn G G G<|sd ((aR G G G))<|sE ?_;clear H a;intro a H
   refine k20 _ _ ?_;clear k20 K20
   refine cond_ H rfl (fun hc7=>?_) (fun hc7=>?_)
   ·skip
    try simp only [o1,o2,o3,o4,o5,o6,o7,o8,o9,oa] at hc7
    exfalso;simp at hc7
   try simp only [o1,o2,o3,o4,o5,o6,o7,o8,o9,oa] at hc7
   refine wp_skip ?_
   refine k5 _ _ ?_
   replace H:=H.keep [0,1,2,9,10,11] rfl
   refine sO H<|sd (aK G G (by unfold i64ok;omega))<|sr 1 rfl<|sE ?_;clear H a;intro a H
   exact k2 (g1-1) (k+1,_) a _ (by omega) (by first|exact ⟨by omega,by omega,(mB (out:=out) (xs:=xs) hc2).symm ▸ hJ⟩|exact ⟨by omega,by omega,by rw [jE hk4,hqB];exact hJ2⟩|exact ⟨by omega,by omega,by rw [jE hk4,hqB];exact hJ⟩) (S.sel [0,2,3] G G) (H.keep [11,0,1,2,9,10] rfl)
  ·skip
   rw [hbk] at H
   have hqB:qB out xs (ps.getD k Psg.zero)=0:=by unfold qB;rw [hbk,hcB];rfl
   replace H:=H.keep [0,1,2,4,5,6,7,9,10,11] rfl
   refine seq_list fun K22 k22=>?_
   refine ls 6 H<|sr 2 rfl<|sy rfl<|sf iJ rfl<|sy rfl<|sl S 2 bM G G G<|sy rfl<|sf iN rfl<|sy rfl<|sl S 1 aD G G G<|sE ?_;clear H a;intro a H
   refine aX H G G ?_
   refine aA H G G Tryz.func35 G G (eU xs XA xc _ _ (hxs.now S) hxn) ?_;clear H a
   rintro _ _ a ⟨rfl,S2⟩ H
   replace S:=S.call S2;clear S2
   first|rw [hcA] at H|rw [hcB] at H
   refine ls 16 H<|sy rfl<|sr 1 rfl<|sa G G G<|sr 1 rfl<|sn G G G<|sn G G G<|sn G G G<|sn G G G<|sn G G G<|sn G G G<|sn G G G<|sn G G G<|sn G G G<|sn G G G<|sn G G G<|sn G G G<|sd ((aR G G G))<|sE ?_;clear H a;intro a H
   refine k22 _ _ ?_;clear k22 K22
   refine cond_ H rfl (fun hc8=>?_) (fun hc8=>?_)
   ·skip
    try simp only [o1,o2,o3,o4,o5,o6,o7,o8,o9,oa] at hc8
    exfalso;simp at hc8
   try simp only [o1,o2,o3,o4,o5,o6,o7,o8,o9,oa] at hc8
   refine wp_skip ?_
   refine k5 _ _ ?_
   replace H:=H.keep [0,1,2,9,10,11] rfl
   refine sO H<|sd (aK G G (by unfold i64ok;omega))<|sr 1 rfl<|sE ?_;clear H a;intro a H
   exact k2 (g1-1) (k+1,_) a _ (by omega) (by first|exact ⟨by omega,by omega,(mB (out:=out) (xs:=xs) hc2).symm ▸ hJ⟩|exact ⟨by omega,by omega,by rw [jE hk4,hqB];exact hJ2⟩|exact ⟨by omega,by omega,by rw [jE hk4,hqB];exact hJ⟩) (S.sel [0,2,3] G G) (H.keep [11,0,1,2,9,10] rfl)
  rw [hbk] at H
  have hqB:qB out xs (ps.getD k Psg.zero)=1:=by unfold qB;rw [hbk,hcB];rfl
  replace H:=H.keep [0,1,2,4,5,6,7,9,10,11] rfl
  refine La fun K24 k24=>?_
  refine rS 20 ?_
  refine ls 6 H<|sr 2 rfl<|sy rfl<|sf iJ rfl<|sy rfl<|sl S 2 bM G G G<|sy rfl<|sf iN rfl<|sy rfl<|sl S 1 aD G G G<|sE ?_;clear H a;intro a H
  refine aX H G G ?_
  refine aA H G G Tryz.func35 G G (eU xs XA xc _ _ (hxs.now S) hxn) ?_;clear H a
  rintro _ _ a ⟨rfl,S2⟩ H
  replace S:=S.call S2;clear S2
  first|rw [hcA] at H|rw [hcB] at H
  refine ls 13 H<|sy rfl<|sr 1 rfl<|sa G G G<|sr 1 rfl<|sy rfl<|sr 1 rfl<|sy rfl<|sr 1 rfl<|sy rfl<|sf iN rfl<|sy rfl<|sl S 1 aD G G G<|sy rfl<|sf iM rfl<|sy rfl<|sl S 1 aD G G G<|sy rfl<|sr 1 rfl<|sy rfl<|sf sG rfl<|sy rfl<|sl S 1 aD G G G<|sy rfl<|sd (aN Mj G G)<|sE ?_;clear H a;intro a H
  refine wpList_nil ?_
  refine Lb H G G G ?_
  have SY:=(St.pack (Ms:=[_,_,_]) (R:=[_]) (S.sel [1,2,3,0] G G)).sel [1,0] G G
  have hhd:=Dq (out:=out) (xs:=xs) (show k<ps.length by omega) hk4 (by rw [hbk,hcB];rfl)
  refine Aa H G G (v := .agg (Hd.cells ((hds out xs ps).getD ((hdsTo out xs ps k).length+qA xs (ps.getD k Psg.zero)) Hd.zero)).toArray) (by rw [hhd.1];rfl) (hr _ _ _ _ hhd.2 hJ SY) (fun _ _ h=>h.1) ?_;clear H a
  rintro _ a ⟨_,m2,hJ2,S2⟩ H
  replace S:=St.unpack (S2.sel [1,0] G G);clear S2 SY
  refine rS 2 ?_
  refine ls 2 H<|sy rfl<|sr 1 rfl<|sa G G G<|sE ?_;clear H a;intro a H
  refine wpList_nil ?_
  refine k24 _ _ ?_;clear k24 K24
  refine cond_ H rfl (fun hc9=>?_) (fun hc9=>?_)
  ·skip
   try simp only [o1,o2,o3,o4,o5,o6,o7,o8,o9,oa] at hc9
   exfalso;simp at hc9
  try simp only [o1,o2,o3,o4,o5,o6,o7,o8,o9,oa] at hc9
  refine wp_skip ?_
  refine k5 _ _ ?_
  replace H:=H.keep [0,1,2,9,10,11] rfl
  refine sO H<|sd (aK G G (by unfold i64ok;omega))<|sr 1 rfl<|sE ?_;clear H a;intro a H
  exact k2 (g1-1) (k+1,_) a _ (by omega) (by first|exact ⟨by omega,by omega,(mB (out:=out) (xs:=xs) hc2).symm ▸ hJ⟩|exact ⟨by omega,by omega,by rw [jE hk4,hqB];exact hJ2⟩|exact ⟨by omega,by omega,by rw [jE hk4,hqB];exact hJ⟩) (S.sel [3,1,2] G G) (H.keep [11,0,1,2,9,10] rfl)
 refine wp_exit ?_
 refine ret0 (fn:=Tryz.f107) rfl H ?_
 have hkn:k=ps.length:=by omega
 subst hkn
 exact ⟨_,hJ,(S.sel [0,1,2] G G)⟩
end
section
theorem kS (P T:Nat) (ps:List Psg) (PA:Option Addr) (pc:Nat) (xs:List Int) (XA:Option Addr) (xc:Nat) (b31:Nat) (EA:Option Addr) (p t:Nat) (w:World) (F:Nat→Prop) (S:St w F [boxM b31 158 [.int .i64 (P:Int),.slice PA ps.length pc,.slice XA xs.length xc,.int .i64 (T:Int),.slice EA ((P*(T+1))+2) ((P*(T+1))+2),.int .i64 (((P*(T+1)):Nat):Int),.int .i64 (((P*(T+1))+1:Nat):Int)]] w) (hp:p≤100000) (ht:t≤100000) (hP:P≤1000) :
    Calls Tryz.prog 72 [.pointer (some ⟨b31,0,none⟩),.int .i64 (p:Int),.int .i64 (t:Int)].toArray w (Ret fun u w'=>u = .int .i64 ((nd P t p:Nat):Int)∧St w F [boxM b31 158 [.int .i64 (P:Int),.slice PA ps.length pc,.slice XA xs.length xc,.int .i64 (T:Int),.slice EA ((P*(T+1))+2) ((P*(T+1))+2),.int .i64 (((P*(T+1)):Nat):Int),.int .i64 (((P*(T+1))+1:Nat):Int)]] w'):=by
  have hb:P*t≤1000*100000:=Nat.mul_le_mul hP ht
  have hb2:((P*t:Nat):Int)=(P:Int)*(t:Int):=Int.natCast_mul P t
  have h:=Nc ⟨(P*(T+1))+2,fun _=>0,fun _ _=>0,fun _ _=>0⟩ (fun _ _=>0) (fun _ _=>Mv.zero) b31 (P:Int) (T:Int) _ _ EA (fun _=>none) (fun _=>0) (P*(T+1)) ((P*(T+1))+1) (p:Int) (t:Int) w F S (by omega) (by unfold i64ok;omega) (by unfold i64ok;omega)
  refine qN h fun v w' h=>⟨h.1.trans ?_,h.2⟩
  unfold nd
  rw [Int.natCast_add,hb2]
def JG (P T:Nat) (J:List Jn) (n:Nat):Prop:=(∀ j ∈ J,JOk P T j)∧J.length≤n
theorem JG.snoc {P T n:Nat} {J:List Jn} {j:Jn} (h:JG P T J n) (hj:JOk P T j):JG P T (J++[j]) (n+1):=
  ⟨fun x hx=>by
    rcases List.mem_append.1 hx with hx|hx
    · exact h.1 x hx
    · rw [List.mem_singleton.1 hx];exact hj,by have:=h.2;simp;omega⟩
theorem JG.len {P T n:Nat} {J:List Jn} (h:JG P T J n) (hn:n≤1000000):∀ i,i<(P*(T+1))+2→(joins J i).length≤1000000:=fun i _=>Nat.le_trans (Hx J (fun j hj=>(h.1 j hj).1) i) (Nat.le_trans h.2 hn)
theorem JG.places {P T p:Nat} {pe xs:List Int} (hp:p≤P):JG P T (bB P T pe xs p) (p*(2*T+2)):=⟨nT hp,rF p⟩
theorem tZ {P p t:Nat} {A:List Jn} {b:Jn}:A++(b::cV P p (t+1))=(A++(b::cV P p t))++[jWait P p t]:=by unfold cV;rw [nS];simp
theorem uA {P T p t:Nat} {A B:List Jn} {b:Jn}:A++(b::(B++eQ P T p (t+1)))=(A++(b::(B++eQ P T p t)))++[jExit P T p t]:=by unfold eQ;rw [nS];simp
theorem uB {P t:Nat} {h:Hd} {A:List Jn}:A++gB P h (t+1)=(A++gB P h t)++[jHead P h t]:=by unfold gB;rw [nS];simp
theorem Nh {P T p:Nat} {A:List Jn} {b:Jn}:A++(b::cV P p T)=A++(b::(cV P p T++eQ P T p 0)):=by rw [show eQ P T p 0=[] from rfl,List.append_nil]
theorem Ni {P:Nat} {h:Hd} {A:List Jn}:A=A++gB P h 0:=(List.append_nil A).symm
theorem We {P T:Nat} {hs:List Hd} {A:List Jn}:A=A++dW P T hs 0:=(List.append_nil A).symm
theorem Nj {P T p:Nat} {pe xs:List Int} (h:hasI xs p=false):bB P T pe xs p++(jBeg P T pe p::cV P p T)=bB P T pe xs (p+1):=by
  rw [bB,jQ,if_neg (by rw [h];simp),List.append_nil]
theorem wD {P T p:Nat} {pe xs:List Int} (h:hasI xs p=true):bB P T pe xs p++(jBeg P T pe p::(cV P p T++eQ P T p (T+1)))=bB P T pe xs (p+1):=by
  rw [bB,jQ,if_pos h]
theorem wE (P T:Nat) (ps:List Psg) (PA:Option Addr) (pc:Nat) (xs:List Int) (XA:Option Addr) (xc:Nat) (b31:Nat) (EA:Option Addr) (p:Int) (t:Nat) (w:World) (F:Nat→Prop) (S:St w F [boxM b31 158 [.int .i64 (P:Int),.slice PA ps.length pc,.slice XA xs.length xc,.int .i64 (T:Int),.slice EA ((P*(T+1))+2) ((P*(T+1))+2),.int .i64 (((P*(T+1)):Nat):Int),.int .i64 (((P*(T+1))+1:Nat):Int)]] w) (hp:0≤p∧p≤100000) (ht:t≤100000) (hP:P≤1000) :
    Calls Tryz.prog 72 [.pointer (some ⟨b31,0,none⟩),.int .i64 p,.int .i64 (t:Int)].toArray w (Ret fun u w'=>u = .int .i64 ((nd P t p.toNat:Nat):Int)∧St w F [boxM b31 158 [.int .i64 (P:Int),.slice PA ps.length pc,.slice XA xs.length xc,.int .i64 (T:Int),.slice EA ((P*(T+1))+2) ((P*(T+1))+2),.int .i64 (((P*(T+1)):Nat):Int),.int .i64 (((P*(T+1))+1:Nat):Int)]] w'):=by
  have h:=kS P T ps PA pc xs XA xc b31 EA p.toNat t w F S (by omega) ht hP
  rw [Int.toNat_of_nonneg hp.1] at h
  exact h
theorem Nk:∀ k j,j<1→[Value.slice none 0 0].getD j undef=hdc (fun _=>none) (tlen (joins [])) (fun _=>0) k j:=by
  intro k j hj
  have:j=0:=by omega
  subst this;rfl
theorem Nl (P T:Nat) (ps:List Psg) (PA:Option Addr) (pc:Nat) (xs:List Int) (XA:Option Addr) (xc:Nat) (out:Int) (pe:List Int) (BA:Option Addr) (bc:Nat) (w:World) (hps:InS w noF 7 PA ps.length (pcell ps)) (hpn:ps.length≤9223372036854775807) (hxs:InS w noF 1 XA xs.length (icl xs)) (hxn:xs.length≤9223372036854775807) (hmv:∀ k,k<ps.length→(ps.getD k Psg.zero).kind=3→0≤(ps.getD k Psg.zero).mach∧(ps.getD k Psg.zero).mach≤11) (hout:0≤out) (hpe:InS w noF 1 BA pe.length (icl pe)) (hpl:pe.length=P) (hP:1≤P∧P≤10) (hT:T≤60) (hpn8:ps.length≤24) (hhd:∀ i,i<(hds out xs ps).length→HdOk P ((hds out xs ps).getD i Hd.zero)) :
    Calls Tryz.prog 46 [.agg [.int .i64 (P:Int),.slice PA ps.length pc,.slice XA xs.length xc].toArray,.int .i64 out,.slice BA pe.length bc,.int .i64 (T:Int)].toArray w (Ret (fun u w'=>∃ b31 EA A' c',u = .pointer (some ⟨b31,0,none⟩)∧St w noF [boxM b31 158 [.int .i64 (P:Int),.slice PA ps.length pc,.slice XA xs.length xc,.int .i64 (T:Int),.slice EA ((P*(T+1))+2) ((P*(T+1))+2),.int .i64 (((P*(T+1)):Nat):Int),.int .i64 (((P*(T+1))+1:Nat):Int)],ownM 201 1 EA ((P*(T+1))+2) ((P*(T+1))+2) (hdc A' (tlen (joins (jAll P T pe xs (hds out xs ps)))) c'),ragM 203 7 (fun q=>q<(P*(T+1))+2) A' (tlen (joins (jAll P T pe xs (hds out xs ps)))) c' (tcell (joins (jAll P T pe xs (hds out xs ps))))] w')):=by
 have hC:P*(T+1)≤10*61:=Nat.mul_le_mul (by omega) (by omega)
 have hC2:((P*(T+1):Nat):Int)=(P:Int)*((T:Int)+1):=by rw [Int.natCast_mul];rfl
 refine Vo Tryz.func46 rfl Tryz.ntmps46 rfl (fun a H=>?_)
 have S:=St.start w
 refine seq_list fun K1 k1=>?_
 refine aO H rfl S G G ?_;clear H a S;intro b4 _ a hb4 hbw4 S H
 refine aO H rfl S G G ?_;clear H a S;intro b7 _ a hb7 hbw7 S H
 refine ls 1 H<|sr 1 rfl<|sE ?_;clear H a;intro a H
 refine k1 _ _ ?_;clear k1 K1
 refine sS H fun K2 k2=>sf dU rfl<|sl S 1 aD G G G<|sl S 0 aD G G G<|sd (aK G G (by unfold i64ok;omega))<|sd ((iR G G (by rw [←hC2];unfold i64ok;omega)).to (v' := .int .i64 ((P*(T+1):Nat):Int)) (by rw [hC2]))<|sr 1 rfl<|sE ?_;clear H a;intro a H
 refine k2 _ ?_;clear k2 K2
 have SR:=(S.sel [0,1] G G)
 refine meet_sr (X:=Nat×Nat×Option Addr) [1,2,4,7] H rfl (fun ⟨b10,b31,EA⟩=>[(10,.pointer (some ⟨b10,0,none⟩))]) (fun ⟨b10,b31,EA⟩=>[boxM b10 116 [.pointer (some ⟨b31,0,none⟩)],boxM b31 158 [.int .i64 (P:Int),.slice PA ps.length pc,.slice XA xs.length xc,.int .i64 (T:Int),.slice EA ((P*(T+1))+2) ((P*(T+1))+2),.int .i64 (((P*(T+1)):Nat):Int),.int .i64 (((P*(T+1))+1:Nat):Int)],ownM 201 1 EA ((P*(T+1))+2) ((P*(T+1))+2) (hdc (fun _=>none) (tlen (joins [])) (fun _=>0))]) (fun ⟨b10,b31,EA⟩=>True) SR (fun K3 k3=>?_) ?_
 ·skip
  replace H:=H.keep [1,2,4,7,9] rfl
  replace S:=S.drew
  refine one_wt 999 (.q 0 (.q 1 (.q 2 (.q 3 (.q 5 (.q 6 (.q 7 (.b2 4 (.q 8 (.b2 9 (.e 10 (.e 11 .nil)) 10 (.e 9 (.e 11 .nil)))) 10 (.e 4 (.q 8 (.e 9 (.e 11 .nil)))))))))))) (by kernel_rfl) (by kernel_rfl) (S.sel [0,1] G G) ?_
  refine aH H G G (fun _ S=>(aC cA cZ rfl S (i:=1) G G)) ?_;clear H a;intro a H
  refine aH H G G (fun _ S=>aE aD rfl (boxM.rd S (i:=0) G G)) ?_;clear H a;intro a H
  refine aH H G G (fun _ S=>aL rfl) ?_;clear H a;intro a H
  refine aH H G G (fun _ S=>(aK G G (by unfold i64ok;omega)).to (v' := .int .i64 ((P*(T+1)+2:Nat):Int)) rfl) ?_;clear H a;intro a H
  refine aH H G G (fun _ S=>aL rfl) ?_;clear H a;intro a H
  refine aH H G G (fun _ S=>aL rfl) ?_;clear H a;intro a H
  refine aH H G G (fun _ S=>(aK G G (by unfold i64ok;omega)).to (v' := .int .i64 ((P*(T+1)+1:Nat):Int)) rfl) ?_;clear H a;intro a H
  refine eA G G ?_ ?_
  ·skip
   refine iA (n:=P*(T+1)+2) H rfl S gQ gP Me Mf rfl (by decide) G G (by omega) (by omega) ?_;clear H a S;intro A1 _ a hA1 S H
   replace S:=S.recell (i:=0) rfl (cell':=hdc (fun _=>none) (tlen (joins [])) (fun _=>0)) (fun k j _ hj=>Nk k j hj)
   refine wpList_nil (And.intro (Or.inr (S.sel [1,2] G G)) ?_)
   refine aH H G G (fun _ S=>aN Mi G G) ?_;clear H a;intro a H
   refine eA G G ?_ ?_
   ·skip
    refine aO H rfl S G G ?_;clear H a S;intro b31 _ a hb31 hbw31 S H
    refine wpList_nil (And.intro (Or.inr (S.sel [2,3] G G)) ?_)
    refine aM rfl ?_
    refine aI H rfl S Dk ?_;clear H a S;intro b10 _ a hb10 hbw10 S H
    refine wpList_nil (And.intro (Or.inr (S.sel [3,4] G G)) ?_)
    refine aM rfl ?_
    refine aF H S (i:=0) G G G G Df G G ?_
    clear H a S;intro _ a S H
    refine wpList_nil (And.intro (Or.inr (S.sel [3,4] G G)) ?_)
    refine bE ?_
    exact k3 (b10,b31,_) a _ (trivial) (S.sel [0,1,2,3,4] G G) (H.keep [10,1,2,4,7] rfl)
   ·skip
    refine aI H rfl S Dk ?_;clear H a S;intro b10 _ a hb10 hbw10 S H
    refine wpList_nil (And.intro (Or.inr (S.sel [2,3] G G)) ?_)
    refine aM rfl ?_
    refine aO H rfl S G G ?_;clear H a S;intro b31 _ a hb31 hbw31 S H
    refine wpList_nil (And.intro (Or.inr (S.sel [3,4] G G)) ?_)
    refine aM rfl ?_
    refine aF H S (i:=1) G G G G Df G G ?_
    clear H a S;intro _ a S H
    refine wpList_nil (And.intro (Or.inr (S.sel [3,4] G G)) ?_)
    refine bE ?_
    exact k3 (b10,b31,_) a _ (trivial) (S.sel [1,0,2,3,4] G G) (H.keep [10,1,2,4,7] rfl)
  ·skip
   refine aI H rfl S Dk ?_;clear H a S;intro b10 _ a hb10 hbw10 S H
   refine wpList_nil (And.intro (Or.inr (S.sel [1,2] G G)) ?_)
   refine aM rfl ?_
   refine iA (n:=P*(T+1)+2) H rfl S gQ gP Me Mf rfl (by decide) G G (by omega) (by omega) ?_;clear H a S;intro A2 _ a hA2 S H
   replace S:=S.recell (i:=0) rfl (cell':=hdc (fun _=>none) (tlen (joins [])) (fun _=>0)) (fun k j _ hj=>Nk k j hj)
   refine wpList_nil (And.intro (Or.inr (S.sel [2,3] G G)) ?_)
   refine aH H G G (fun _ S=>aN Mi G G) ?_;clear H a;intro a H
   refine aM rfl ?_
   refine aO H rfl S G G ?_;clear H a S;intro b31 _ a hb31 hbw31 S H
   refine wpList_nil (And.intro (Or.inr (S.sel [3,4] G G)) ?_)
   refine aM rfl ?_
   refine aF H S (i:=2) G G G G Df G G ?_
   clear H a S;intro _ a S H
   refine wpList_nil (And.intro (Or.inr (S.sel [3,4] G G)) ?_)
   refine bE ?_
   exact k3 (b10,b31,_) a _ (trivial) (S.sel [2,0,1,3,4] G G) (H.keep [10,1,2,4,7] rfl)
 clear SR H S a
 intro xm a wm hp S H
 obtain ⟨b10,b31,EA⟩:=xm
 replace H:=H.keep [1,2,4,7,10] rfl
 refine seq_list fun K5 k5=>?_
 refine ls 1 H<|sd (aN Dl G G)<|sE ?_;clear H a;intro a H
 refine aI H rfl S Ma ?_;clear H a S;intro b11 _ a hb11 hbw11 S H
 refine aF H S (i:=0) G G G G tH G G ?_
 clear H a S;intro _ a S H
 refine k5 _ _ ?_;clear k5 K5
 refine wp_seq_k fun K6 k6=>?_
 refine sS H fun K7 k7=>sf dU rfl<|sl S 5 aD G G G<|sr 1 rfl<|sE ?_;clear H a;intro a H
 refine k7 _ ?_;clear k7 K7
 refine wp_block ?_
 replace S:=ragM.zero S 203 7 (fun q=>q<P*(T+1)+2) (tcell (joins []))
 refine loop_st (X:=Nat×(Nat→Option Addr)×(Nat→Nat)) (R0:=_) [1,2,4,7,10,11,34] H rfl (fun ⟨p,A',c'⟩=>[(35,.int .i64 (p:Int))]) (fun ⟨p,A',c'⟩=>[ownM 201 1 EA ((P*(T+1))+2) ((P*(T+1))+2) (hdc A' (tlen (joins (bB P T pe xs p))) c'),ragM 203 7 (fun q=>q<(P*(T+1))+2) A' (tlen (joins (bB P T pe xs p))) c' (tcell (joins (bB P T pe xs p)))]) (fun g ⟨p,A',c'⟩=>p≤P∧g+p=P) (P) (0,_,_) ?_ (S.sel [4,0,1,2,3,5,6] G G) (H.keep [35,1,2,4,7,10,11,34] rfl) ?_
 · exact ⟨by omega,by omega⟩
 clear H S a
 intro g1 x1 a w1 hp S H K8 k8
 obtain ⟨p,A',c'⟩:=x1
 dsimp only at hp S H
 refine sS H fun K9 k9=>sr 1 rfl<|sE ?_;clear H a;intro a H
 refine k9 _ ?_;clear k9 K9
 refine wp_seq_k fun K10 k10=>?_
 refine condL H rfl (fun hc1=>?_) (fun hc1=>?_)
 ·skip
  refine wp_skip ?_
  refine k10 _ _ ?_
  refine wp_seq_k fun K11 k11=>?_
  refine wp_block ?_
  refine sS H fun K12 k12=>sr 2 rfl<|sE ?_;clear H a;intro a H
  refine k12 _ ?_;clear k12 K12
  have hpP:p<P:=by omega
  have hb1:p*(2*T+2)≤10*122:=Nat.mul_le_mul (by omega) (by omega)
  have hG:=JG.places (T:=T) (pe:=pe) (xs:=xs) (Nat.le_of_lt hpP)
  have hlen9:=hG.len (by omega)
  replace H:=H.keep [1,2,4,7,10,11,12,34,35] rfl
  replace S:=S.drew
  refine seq_wq [(0,true),(1,true),(2,true),(3,true),(4,true),(5,true),(6,true),(8,true),(9,true),(10,true),(11,true),(12,true),(7,false),(13,false)] (by kernel_rfl) (by kernel_rfl) (S.sel [2,3,4,5,6] G G) fun K13 k13=>?_
  refine qF H<|qd rfl (fun _ S=>aE fI rfl (boxM.rd S (i:=1) G G))<|qd rfl (fun _ S=>aE fI rfl (boxM.rd S (i:=1) G G))<|qr 1 rfl<|qd rfl (fun _ S=>(aB oW rfl))<|qd rfl (fun _ S=>aE aD rfl (boxM.rd S (i:=2) G G))<|qd rfl (fun _ S=>aE fI rfl (boxM.rd S (i:=1) G G))<|qr 3 rfl<|qd rfl (fun _ S=>bC aT bA G G (hpe.adr (by omega)) (by omega))<|qd rfl (fun _ S=>aE aD rfl (hpe.rd S (by omega) (by omega)))<|qd rfl (fun _ S=>(aC rU tH rfl S (i:=0) G G))<|qK ?_;clear H a;intro a H
  refine aS rfl ?_
  have S1:=(S.sel [4] G G)
  refine aA H G G Tryz.func72 G G (kS P T ps PA pc xs XA xc b31 EA p 0 _ _ S1.startR (by omega) (by omega) (by omega)) ?_;clear H a
  rintro _ _ a ⟨rfl,S2⟩ H
  replace S:=(S.sel [4,0,1,2,3,5,6] G G).callR (M:=[_]) S2;clear S1 S2
  refine wpList_nil (And.intro (S.sel [3,4,0,5,6] G G) ?_)
  refine aS rfl ?_
  have S1:=(S.sel [0,1,2] G G)
  refine aA H G G Tryz.func71 G G (pC (joins (bB P T pe xs p)) ((P*(T+1))+2) b31 (P:Int) (T:Int) _ _ EA A' c' (P*(T+1)) ((P*(T+1))+1) (P*(T+1)) (nd P 0 p) (pe.getD p 0) (-1) 0 0 0 _ _ S1.startR ((pA (T:=T) (pe:=pe) hpP)).2.1 ((pA (T:=T) (pe:=pe) hpP)).2.2 ((pA (T:=T) (pe:=pe) hpP)).1 hlen9) ?_;clear H a
  rintro _ _ a ⟨rfl,A2,c2,S2⟩ H
  replace S:=(S.sel [0,1,2,3,4,5,6] G G).callR (M:=[_,_,_]) S2;clear S1 S2
  have e9:joinT (joins (bB P T pe xs p)) (P*(T+1)) (nd P 0 p) (pe.getD p 0) ⟨-1,0,0,0⟩=joins ((bB P T pe xs p)++[jBeg P T pe p]):=(iE (bB P T pe xs p) (jBeg P T pe p)).symm
  rw [e9] at S
  refine wpList_nil (And.intro (S.sel [3,4,0,5,6] G G) ?_)
  refine bF ?_
  refine k13 _ _ ?_
  clear k13 K13
  refine wp_seq_k fun K14 k14=>?_
  replace H:=H.keep [1,2,4,7,10,11,12,34,35] rfl
  refine sS H fun K15 k15=>sl S 5 aD G G G<|sr 1 rfl<|sE ?_;clear H a;intro a H
  refine k15 _ ?_;clear k15 K15
  refine wp_block ?_
  refine loop_st (X:=Nat×(Nat→Option Addr)×(Nat→Nat)) (R0:=_) [1,2,4,7,10,11,12,34,35,52] H rfl (fun ⟨t,A',c'⟩=>[(53,.int .i64 (t:Int))]) (fun ⟨t,A',c'⟩=>[ownM 201 1 EA ((P*(T+1))+2) ((P*(T+1))+2) (hdc A' (tlen (joins ((bB P T pe xs p)++(jBeg P T pe p::cV P p t)))) c'),ragM 203 7 (fun q=>q<(P*(T+1))+2) A' (tlen (joins ((bB P T pe xs p)++(jBeg P T pe p::cV P p t)))) c' (tcell (joins ((bB P T pe xs p)++(jBeg P T pe p::cV P p t))))]) (fun g ⟨t,A',c'⟩=>t≤T∧g+t=T∧JG P T ((bB P T pe xs p)++(jBeg P T pe p::cV P p t)) (p*(2*T+2)+1+t)) (T) (0,_,_) ?_ (S.sel [1,2,0,3,4,5,6] G G) (H.keep [53,1,2,4,7,10,11,12,34,35,52] rfl) ?_
  · exact ⟨by omega,by omega,hG.snoc (pA hpP)⟩
  clear H S a
  intro g2 x2 a w2 hp S H K16 k16
  obtain ⟨t,A',c'⟩:=x2
  dsimp only at hp S H
  obtain ⟨htl,hgt,hG2⟩:=hp
  refine sS H fun K17 k17=>sr 1 rfl<|sE ?_;clear H a;intro a H
  refine k17 _ ?_;clear k17 K17
  refine wp_seq_k fun K18 k18=>?_
  refine condL H rfl (fun hc2=>?_) (fun hc2=>?_)
  ·skip
   refine wp_skip ?_
   refine k18 _ _ ?_
   refine wp_seq_k fun K19 k19=>?_
   refine wp_block ?_
   refine sS H fun K20 k20=>sr 2 rfl<|sE ?_;clear H a;intro a H
   refine k20 _ ?_;clear k20 K20
   have htT:t<T:=by omega
   have hlen9:=hG2.len (by omega)
   replace H:=H.keep [1,2,4,7,10,11,12,13,34,35,52,53] rfl
   replace S:=S.drew
   refine one_wq [(0,true),(1,true),(2,true),(3,true),(5,true),(6,true),(7,true),(8,true),(10,true),(4,false),(9,false),(11,false)] (by kernel_rfl) (by kernel_rfl) (S.sel [2,3,4,5,6] G G) ?_
   refine qF H<|qd rfl (fun _ S=>aE fI rfl (boxM.rd S (i:=2) G G))<|qd rfl (fun _ S=>aE fI rfl (boxM.rd S (i:=2) G G))<|qr 2 rfl<|qd rfl (fun _ S=>aE fI rfl (boxM.rd S (i:=2) G G))<|qr 2 rfl<|qd rfl (fun _ S=>aK G G (by unfold i64ok;omega))<|qd rfl (fun _ S=>(aC rU tH rfl S (i:=1) G G))<|qK ?_;clear H a;intro a H
   refine aS rfl ?_
   have S1:=(S.sel [2] G G)
   refine aA H G G Tryz.func72 G G (kS P T ps PA pc xs XA xc b31 EA p t _ _ S1.startR (by omega) (by omega) (by omega)) ?_;clear H a
   rintro _ _ a ⟨rfl,S2⟩ H
   replace S:=(S.sel [2,0,1,3,4,5,6] G G).callR (M:=[_]) S2;clear S1 S2
   refine wpList_nil (And.intro (S.sel [0,3,4,5,6] G G) ?_)
   refine aS rfl ?_
   have S1:=(S.sel [0] G G)
   refine aA H G G Tryz.func72 G G (kS P T ps PA pc xs XA xc b31 EA p (t+1) _ _ S1.startR (by omega) (by omega) (by omega)) ?_;clear H a
   rintro _ _ a ⟨rfl,S2⟩ H
   replace S:=(S.sel [0,1,2,3,4,5,6] G G).callR (M:=[_]) S2;clear S1 S2
   refine wpList_nil (And.intro (S.sel [0,3,4,5,6] G G) ?_)
   refine aS rfl ?_
   have S1:=(S.sel [0,1,2] G G)
   refine aA H G G Tryz.func71 G G (pC (joins ((bB P T pe xs p)++(jBeg P T pe p::cV P p t))) ((P*(T+1))+2) b31 (P:Int) (T:Int) _ _ EA A' c' (P*(T+1)) ((P*(T+1))+1) (nd P t p) (nd P (t+1) p) 1099511627776 (-1) 0 0 0 _ _ S1.startR ((mC hpP htT)).2.1 ((mC hpP htT)).2.2 ((mC hpP htT)).1 hlen9) ?_;clear H a
   rintro _ _ a ⟨rfl,A2,c2,S2⟩ H
   replace S:=(S.sel [0,1,2,3,4,5,6] G G).callR (M:=[_,_,_]) S2;clear S1 S2
   have e9:joinT (joins ((bB P T pe xs p)++(jBeg P T pe p::cV P p t))) (nd P t p) (nd P (t+1) p) 1099511627776 ⟨-1,0,0,0⟩=joins (((bB P T pe xs p)++(jBeg P T pe p::cV P p t))++[jWait P p t]):=(iE ((bB P T pe xs p)++(jBeg P T pe p::cV P p t)) (jWait P p t)).symm
   rw [e9] at S
   refine wpList_nil (And.intro (S.sel [0,3,4,5,6] G G) ?_)
   refine bF ?_
   refine k19 _ _ ?_
   replace H:=H.keep [1,2,4,7,10,11,12,34,35,52,53] rfl
   refine sO H<|sd (aK G G (by unfold i64ok;omega))<|sr 1 rfl<|sE ?_;clear H a;intro a H
   rw [←tZ] at S
   exact k16 (g2-1) (t+1,_,_) a _ (by omega) (⟨by omega,by omega,by rw [tZ];exact hG2.snoc (mC hpP htT)⟩) (S.sel [1,2,0,3,4,5,6] G G) (H.keep [53,1,2,4,7,10,11,12,34,35,52] rfl)
  refine wp_exit ?_
  refine k14 _ _ ?_
  refine seq_list fun K23 k23=>?_
  refine ls 3 H<|sf iJ rfl<|sl S 6 bM G G G<|sr 1 rfl<|sE ?_;clear H a;intro a H
  refine aA H G G Tryz.func35 G G (eU xs XA xc _ _ (hxs.now S) hxn) ?_;clear H a
  rintro _ _ a ⟨rfl,S2⟩ H
  replace S:=S.call S2;clear S2
  refine k23 _ _ ?_;clear k23 K23
  refine cond_ H rfl (fun hc3=>?_) (fun hc3=>?_)
  ·skip
   try simp only [o1,o2,o3,o4,o5,o6,o7,o8,o9,oa] at hc3
   have hTt:t=T:=by omega
   rw [hTt] at S hG2
   rw [Nh] at S
   refine sS H fun K24 k24=>sl S 5 aD G G G<|sd (aK G G (by unfold i64ok;omega))<|sr 1 rfl<|sE ?_;clear H a;intro a H
   refine k24 _ ?_;clear k24 K24
   refine wp_block ?_
   refine loop_st (X:=Nat×(Nat→Option Addr)×(Nat→Nat)) (R0:=_) [1,2,4,7,10,11,12,34,35,74] H rfl (fun ⟨t,A',c'⟩=>[(75,.int .i64 (t:Int))]) (fun ⟨t,A',c'⟩=>[ownM 201 1 EA ((P*(T+1))+2) ((P*(T+1))+2) (hdc A' (tlen (joins ((bB P T pe xs p)++(jBeg P T pe p::(cV P p T++eQ P T p t))))) c'),ragM 203 7 (fun q=>q<(P*(T+1))+2) A' (tlen (joins ((bB P T pe xs p)++(jBeg P T pe p::(cV P p T++eQ P T p t))))) c' (tcell (joins ((bB P T pe xs p)++(jBeg P T pe p::(cV P p T++eQ P T p t)))))]) (fun g ⟨t,A',c'⟩=>t≤T+1∧g+t=T+1∧JG P T ((bB P T pe xs p)++(jBeg P T pe p::(cV P p T++eQ P T p t))) (p*(2*T+2)+1+T+t)) (T+1) (0,_,_) ?_ (S.sel [0,1,2,3,4,5,6] G G) (H.keep [75,1,2,4,7,10,11,12,34,35,74] rfl) ?_
   · exact ⟨by omega,by omega,by rw [←Nh];exact hG2⟩
   clear H S a
   intro g3 x3 a w3 hp S H K25 k25
   obtain ⟨t,A',c'⟩:=x3
   dsimp only at hp S H
   obtain ⟨htl,hgt,hG2⟩:=hp
   refine sS H fun K26 k26=>sr 1 rfl<|sE ?_;clear H a;intro a H
   refine k26 _ ?_;clear k26 K26
   refine wp_seq_k fun K27 k27=>?_
   refine condL H rfl (fun hc4=>?_) (fun hc4=>?_)
   ·skip
    refine wp_skip ?_
    refine k27 _ _ ?_
    refine wp_seq_k fun K28 k28=>?_
    refine wp_block ?_
    refine sS H fun K29 k29=>sr 2 rfl<|sE ?_;clear H a;intro a H
    refine k29 _ ?_;clear k29 K29
    have htT:t≤T:=by omega
    have hlen9:=hG2.len (by omega)
    replace H:=H.keep [1,2,4,7,10,11,12,14,34,35,74,75] rfl
    replace S:=S.drew
    refine one_wq [(0,true),(1,true),(2,true),(3,true),(5,true),(6,true),(7,true),(8,true),(9,true),(4,false),(10,false)] (by kernel_rfl) (by kernel_rfl) (S.sel [2,3,4,5,6] G G) ?_
    refine qF H<|qd rfl (fun _ S=>aE fI rfl (boxM.rd S (i:=2) G G))<|qd rfl (fun _ S=>aE fI rfl (boxM.rd S (i:=2) G G))<|qr 2 rfl<|qd rfl (fun _ S=>aE fI rfl (boxM.rd S (i:=2) G G))<|qr 1 rfl<|qd rfl (fun _ S=>(aB tR rfl))<|qd rfl (fun _ S=>aE aD rfl (boxM.rd S (i:=0) G G))<|qd rfl (fun _ S=>(aC rU tH rfl S (i:=1) G G))<|qK ?_;clear H a;intro a H
    refine aS rfl ?_
    have S1:=(S.sel [2] G G)
    refine aA H G G Tryz.func72 G G (kS P T ps PA pc xs XA xc b31 EA p t _ _ S1.startR (by omega) (by omega) (by omega)) ?_;clear H a
    rintro _ _ a ⟨rfl,S2⟩ H
    replace S:=(S.sel [2,0,1,3,4,5,6] G G).callR (M:=[_]) S2;clear S1 S2
    refine wpList_nil (And.intro (S.sel [0,3,4,5,6] G G) ?_)
    refine aS rfl ?_
    have S1:=(S.sel [0,1,2] G G)
    refine aA H G G Tryz.func71 G G (pC (joins ((bB P T pe xs p)++(jBeg P T pe p::(cV P p T++eQ P T p t)))) ((P*(T+1))+2) b31 (P:Int) (T:Int) _ _ EA A' c' (P*(T+1)) ((P*(T+1))+1) (nd P t p) ((P*(T+1))+1) 1099511627776 (-1) 0 0 0 _ _ S1.startR ((mD hpP htT)).2.1 ((mD hpP htT)).2.2 ((mD hpP htT)).1 hlen9) ?_;clear H a
    rintro _ _ a ⟨rfl,A2,c2,S2⟩ H
    replace S:=(S.sel [0,1,2,3,4,5,6] G G).callR (M:=[_,_,_]) S2;clear S1 S2
    have e9:joinT (joins ((bB P T pe xs p)++(jBeg P T pe p::(cV P p T++eQ P T p t)))) (nd P t p) ((P*(T+1))+1) 1099511627776 ⟨-1,0,0,0⟩=joins (((bB P T pe xs p)++(jBeg P T pe p::(cV P p T++eQ P T p t)))++[jExit P T p t]):=(iE ((bB P T pe xs p)++(jBeg P T pe p::(cV P p T++eQ P T p t))) (jExit P T p t)).symm
    rw [e9] at S
    refine wpList_nil (And.intro (S.sel [0,3,4,5,6] G G) ?_)
    refine bF ?_
    refine k28 _ _ ?_
    replace H:=H.keep [1,2,4,7,10,11,12,34,35,74,75] rfl
    refine sO H<|sd (aK G G (by unfold i64ok;omega))<|sr 1 rfl<|sE ?_;clear H a;intro a H
    rw [←uA] at S
    exact k25 (g3-1) (t+1,_,_) a _ (by omega) (⟨by omega,by omega,by rw [uA];exact hG2.snoc (mD hpP htT)⟩) (S.sel [1,2,0,3,4,5,6] G G) (H.keep [75,1,2,4,7,10,11,12,34,35,74] rfl)
   refine wp_exit ?_
   refine k11 _ _ ?_
   refine sO H<|sd (aK G G (by unfold i64ok;omega))<|sr 1 rfl<|sE ?_;clear H a;intro a H
   first|(rw [show t=T+1 by omega,wD hc3] at S)|skip
   exact k8 (g1-1) (p+1,_,_) a _ (by omega) (⟨by omega,by omega⟩) (S.sel [0,1,3,4,2,5,6] G G) (H.keep [35,1,2,4,7,10,11,34] rfl)
  try simp only [o1,o2,o3,o4,o5,o6,o7,o8,o9,oa] at hc3
  have hTt:t=T:=by omega
  rw [hTt] at S
  rw [Nj hc3] at S
  refine wp_skip ?_
  refine k11 _ _ ?_
  refine sO H<|sd (aK G G (by unfold i64ok;omega))<|sr 1 rfl<|sE ?_;clear H a;intro a H
  first|(rw [show t=T+1 by omega,wD hc3] at S)|skip
  exact k8 (g1-1) (p+1,_,_) a _ (by omega) (⟨by omega,by omega⟩) (S.sel [0,1,3,4,2,5,6] G G) (H.keep [35,1,2,4,7,10,11,34] rfl)
 refine wp_exit ?_
 refine k6 _ _ ?_
 refine wp_seq_k fun K34 k34=>?_
 refine seq_list fun K35 k35=>?_
 refine ls 2 H<|sd ((aC cA cZ rfl S (i:=6) G G))<|sr 1 rfl<|sE ?_;clear H a;intro a H
 refine aA H G G Tryz.func73 G G (vM (P:Int) ps PA pc xs XA xc out _) ?_;clear H a
 rintro _ _ a ⟨b2,b3,rfl,S2⟩ H
 replace S:=S.call S2;clear S2
 refine k35 _ _ ?_;clear k35 K35
 refine wp_block ?_
 replace H:=H.keep [7,10,93] rfl
 have hpP:p=P:=by omega
 rw [hpP] at S
 rw [We (P:=P) (T:=T) (hs:=hds out xs ps) (A:=bB P T pe xs P)] at S
 have SB:=St.pack (Ms:=[_,_,_,_,_]) (R:=[_,_,_,_]) (S.sel [7,5,6,2,3,0,1,4,8] G G)
 refine Kz (cnt:=(hds out xs ps).length) H SB rfl Tryz.func107 G G G G G Mb (fun i=>Hd.cells ((hds out xs ps).getD i Hd.zero)) (fun _=>rfl) Vq (fun _=>rfl) (fun i M=>∃ A' c',M=bun [boxM b7 3 [.int .i64 (T:Int)],boxM b10 116 [.pointer (some ⟨b31,0,none⟩)],boxM b31 158 [.int .i64 (P:Int),.slice PA ps.length pc,.slice XA xs.length xc,.int .i64 (T:Int),.slice EA ((P*(T+1))+2) ((P*(T+1))+2),.int .i64 (((P*(T+1)):Nat):Int),.int .i64 (((P*(T+1))+1:Nat):Int)],ownM 201 1 EA ((P*(T+1))+2) ((P*(T+1))+2) (hdc A' (tlen (joins (bB P T pe xs P++dW P T (hds out xs ps) i))) c'),ragM 203 7 (fun q=>q<(P*(T+1))+2) A' (tlen (joins (bB P T pe xs P++dW P T (hds out xs ps) i))) c' (tcell (joins (bB P T pe xs P++dW P T (hds out xs ps) i)))]) (⟨_,_,rfl⟩) (fun _ _=>True) ?_ ?_ ?_
 ·intro ly Jm M w9 hJ9 S hr9
  have S1:=(S.sel [0,1,2] G G)
  refine qN (Dx (P:Int) ps PA pc xs XA xc out b2 b3 ly Jm M w9 _ hJ9 S1.startR (hps.nowR S1) hpn (hxs.nowR S1) hxn hmv hout (fun i m' x w1 hi hJ SX=>hr9 i m' x _ _ w1 hi hJ trivial SX)) ?_
  rintro _ _ ⟨m',hJ',S2⟩
  exact ⟨m',hJ',((S.sel [0,1,2,3,4] G G).callR (M:=[_,_,_]) S2).sel [0,1,2,3,4] rfl rfl⟩
 ·intro ly i m9 x9 w00 F00 w9 a b15 hi9 hJ9 hIn9 S H
  obtain ⟨A',c',rfl⟩:=hJ9
  have hH9:=hhd i hi9
  unfold HdOk at hH9
  have hcn:=Wa (out:=out) (xs:=xs) (ps:=ps) ps.length
  have hb2:i*(T+1)≤48*61:=Nat.mul_le_mul (by unfold hds at hi9;omega) (by omega)
  have hb3:P*(2*T+2)≤10*122:=Nat.mul_le_mul (by omega) (by omega)
  replace S:=St.unpack (S.sel [1,0,2] G G)
  refine Rd.wp_block ?_
  refine Rd.sS H fun K36 k36=>sr 1 rfl<|sE ?_;clear H a;intro a H
  refine k36 _ ?_;clear k36 K36
  refine Rd.wp_block ?_
  rw [Ni (P:=P) (h:=((hds out xs ps).getD i Hd.zero)) (A:=(bB P T pe xs P++dW P T (hds out xs ps) i))] at S
  refine Rd.loop_st (X:=Nat×(Nat→Option Addr)×(Nat→Nat)) (R0:=_) [7,10,15] H rfl (fun ⟨t,A',c'⟩=>[(16,.int .i64 (t:Int))]) (fun ⟨t,A',c'⟩=>[ownM 201 1 EA ((P*(T+1))+2) ((P*(T+1))+2) (hdc A' (tlen (joins ((bB P T pe xs P++dW P T (hds out xs ps) i)++gB P ((hds out xs ps).getD i Hd.zero) t))) c'),ragM 203 7 (fun q=>q<(P*(T+1))+2) A' (tlen (joins ((bB P T pe xs P++dW P T (hds out xs ps) i)++gB P ((hds out xs ps).getD i Hd.zero) t))) c' (tcell (joins ((bB P T pe xs P++dW P T (hds out xs ps) i)++gB P ((hds out xs ps).getD i Hd.zero) t)))]) (fun g ⟨t,A',c'⟩=>t≤T+1-((hds out xs ps).getD i Hd.zero).ticks.toNat∧g+t=T+1-((hds out xs ps).getD i Hd.zero).ticks.toNat∧JG P T ((bB P T pe xs P++dW P T (hds out xs ps) i)++gB P ((hds out xs ps).getD i Hd.zero) t) (P*(2*T+2)+i*(T+1)+t)) (T+1-((hds out xs ps).getD i Hd.zero).ticks.toNat) (0,_,_) ?_ (S.sel [3,4,0,1,2,5,6] G G) (H.keep [16,7,10,15] rfl) ?_
  · exact ⟨by omega,by omega,by rw [←Ni];exact ⟨fun j hj=>(List.mem_append.1 hj).elim (fun h=>nT (Nat.le_refl _) j h) (fun h=>vY hhd (Nat.le_of_lt hi9) j h),by rw [List.length_append,Nat.add_zero];exact Nat.add_le_add (rF P) (Dr i)⟩⟩
  clear H S a
  intro g4 x4 a w4 hp S H K37 k37
  obtain ⟨t,A',c'⟩:=x4
  dsimp only at hp S H
  obtain ⟨htl,hgt,hG2⟩:=hp
  refine Rd.wp_seq_k fun K38 k38=>?_
  refine Rd.sS H fun K39 k39=>sr 1 rfl<|sf Ai rfl<|sl S 5 aD G G G<|sd (aK G G (by unfold i64ok;omega))<|sl S 2 aD G G G<|sr 1 rfl<|sE ?_;clear H a;intro a H
  refine k39 _ ?_;clear k39 K39
  refine Rd.condG H rfl (fun hc5=>?_) (fun hc5=>?_)
  ·skip
   refine Rd.wp_skip ?_
   refine k38 _ _ ?_
   refine Rd.wp_seq_k fun K40 k40=>?_
   refine Rd.wp_block ?_
   have htT:t+((hds out xs ps).getD i Hd.zero).ticks.toNat≤T:=by omega
   have hlen9:=hG2.len (by omega)
   replace H:=H.keep [7,10,15,16] rfl
   replace S:=S.drew
   refine Rd.one_wq [(0,true),(1,true),(2,true),(3,true),(4,true),(6,true),(7,true),(8,true),(9,true),(10,true),(11,true),(12,true),(14,true),(15,true),(16,true),(17,true),(18,true),(19,true),(20,true),(21,true),(5,false),(13,false),(22,false)] (by kernel_rfl) (by kernel_rfl) (S.sel [2,3,4,5,6] G G) ?_
   refine qF H<|qd rfl (fun _ S=>aE fI rfl (boxM.rd S (i:=1) G G))<|qd rfl (fun _ S=>aE fI rfl (boxM.rd S (i:=1) G G))<|qd rfl (fun _ S=>(aB Ah rfl))<|qd rfl (fun _ S=>aE aD rfl (boxM.rd S (i:=3) G G))<|qr 1 rfl<|qd rfl (fun _ S=>aE fI rfl (boxM.rd S (i:=1) G G))<|qd rfl (fun _ S=>(aB Lp rfl))<|qd rfl (fun _ S=>aE aD rfl (boxM.rd S (i:=3) G G))<|qr 1 rfl<|qd rfl (fun _ S=>(aB Ai rfl))<|qd rfl (fun _ S=>aE aD rfl (boxM.rd S (i:=3) G G))<|qd rfl (fun _ S=>(aK G G (by unfold i64ok;omega)).to (v' := .int .i64 ((t+((hds out xs ps).getD i Hd.zero).ticks.toNat:Nat):Int)) (by congr 1;omega))<|qd rfl (fun _ S=>(aB Lq rfl))<|qd rfl (fun _ S=>aE aD rfl (boxM.rd S (i:=3) G G))<|qd rfl (fun _ S=>(aB Lo rfl))<|qd rfl (fun _ S=>aE aD rfl (boxM.rd S (i:=3) G G))<|qd rfl (fun _ S=>(aB Ah rfl))<|qd rfl (fun _ S=>aE aD rfl (boxM.rd S (i:=3) G G))<|qr 1 rfl<|qd rfl (fun _ S=>aN Dl G G)<|qK ?_;clear H a;intro a H
   refine aS rfl ?_
   have S1:=(S.sel [4] G G)
   refine aA H G G Tryz.func72 G G (wE P T ps PA pc xs XA xc b31 EA ((hds out xs ps).getD i Hd.zero).fr t _ _ S1.startR (by omega) (by omega) (by omega)) ?_;clear H a
   rintro _ _ a ⟨rfl,S2⟩ H
   replace S:=(S.sel [4,0,1,2,3,5,6] G G).callR (M:=[_]) S2;clear S1 S2
   refine wpList_nil (And.intro (S.sel [3,4,0,5,6] G G) ?_)
   refine aS rfl ?_
   have S1:=(S.sel [0] G G)
   refine aA H G G Tryz.func72 G G (wE P T ps PA pc xs XA xc b31 EA ((hds out xs ps).getD i Hd.zero).to (t+((hds out xs ps).getD i Hd.zero).ticks.toNat) _ _ S1.startR (by omega) (by omega) (by omega)) ?_;clear H a
   rintro _ _ a ⟨rfl,S2⟩ H
   replace S:=(S.sel [0,1,2,3,4,5,6] G G).callR (M:=[_]) S2;clear S1 S2
   refine wpList_nil (And.intro (S.sel [3,4,0,5,6] G G) ?_)
   refine aS rfl ?_
   have S1:=(S.sel [0,1,2] G G)
   refine aA H G G Tryz.func71 G G (pC (joins ((bB P T pe xs P++dW P T (hds out xs ps) i)++gB P ((hds out xs ps).getD i Hd.zero) t)) ((P*(T+1))+2) b31 (P:Int) (T:Int) _ _ EA A' c' (P*(T+1)) ((P*(T+1))+1) (nd P t ((hds out xs ps).getD i Hd.zero).fr.toNat) (nd P (t+((hds out xs ps).getD i Hd.zero).ticks.toNat) ((hds out xs ps).getD i Hd.zero).to.toNat) ((hds out xs ps).getD i Hd.zero).wide ((hds out xs ps).getD i Hd.zero).pas ((hds out xs ps).getD i Hd.zero).fr (t:Int) 0 _ _ S1.startR ((mE (T:=T) (show ((hds out xs ps).getD i Hd.zero).fr.toNat<P by omega) (show ((hds out xs ps).getD i Hd.zero).to.toNat<P by omega) (show 1≤((hds out xs ps).getD i Hd.zero).ticks.toNat by omega) htT)).2.1 ((mE (T:=T) (show ((hds out xs ps).getD i Hd.zero).fr.toNat<P by omega) (show ((hds out xs ps).getD i Hd.zero).to.toNat<P by omega) (show 1≤((hds out xs ps).getD i Hd.zero).ticks.toNat by omega) htT)).2.2 ((mE (T:=T) (show ((hds out xs ps).getD i Hd.zero).fr.toNat<P by omega) (show ((hds out xs ps).getD i Hd.zero).to.toNat<P by omega) (show 1≤((hds out xs ps).getD i Hd.zero).ticks.toNat by omega) htT)).1 hlen9) ?_;clear H a
   rintro _ _ a ⟨rfl,A2,c2,S2⟩ H
   replace S:=(S.sel [0,1,2,3,4,5,6] G G).callR (M:=[_,_,_]) S2;clear S1 S2
   have e9:joinT (joins ((bB P T pe xs P++dW P T (hds out xs ps) i)++gB P ((hds out xs ps).getD i Hd.zero) t)) (nd P t ((hds out xs ps).getD i Hd.zero).fr.toNat) (nd P (t+((hds out xs ps).getD i Hd.zero).ticks.toNat) ((hds out xs ps).getD i Hd.zero).to.toNat) ((hds out xs ps).getD i Hd.zero).wide ⟨((hds out xs ps).getD i Hd.zero).pas,((hds out xs ps).getD i Hd.zero).fr,(t:Int),0⟩=joins (((bB P T pe xs P++dW P T (hds out xs ps) i)++gB P ((hds out xs ps).getD i Hd.zero) t)++[jHead P ((hds out xs ps).getD i Hd.zero) t]):=(iE ((bB P T pe xs P++dW P T (hds out xs ps) i)++gB P ((hds out xs ps).getD i Hd.zero) t) (jHead P ((hds out xs ps).getD i Hd.zero) t)).symm
   rw [e9] at S
   refine wpList_nil (And.intro (S.sel [3,4,0,5,6] G G) ?_)
   refine bF ?_
   refine k40 _ _ ?_
   replace H:=H.keep [7,10,15,16] rfl
   refine Rd.sO H<|sr 1 rfl<|sd (aK G G (by unfold i64ok;omega))<|sr 1 rfl<|sE ?_;clear H a;intro a H
   rw [←uB] at S
   exact k37 (g4-1) (t+1,_,_) a _ (by omega) (⟨by omega,by omega,by rw [uB];exact hG2.snoc (mE (by omega) (by omega) (by omega) (by omega))⟩) (S.sel [1,2,3,4,0,5,6] G G) (H.keep [16,7,10,15] rfl)
  refine Rd.wp_exit ?_
  rw [show t=T+1-((hds out xs ps).getD i Hd.zero).ticks.toNat by omega,List.append_assoc] at S
  exact ⟨_,⟨_,_,rfl⟩,St.pack (Ms:=[_,_,_,_,_]) (R:=[_]) (S.sel [2,3,4,0,1,6] G G)⟩
 intro D m9 w9 a hJ9 S H
 obtain ⟨A',c',rfl⟩:=hJ9
 replace S:=St.unpack (S.sel [1,0,2,3,4,5] G G)
 refine k34 _ _ ?_
 refine sS H fun K43 k43=>sl S 1 fI G G G<|sr 1 rfl<|sE ?_;clear H a;intro a H
 refine k43 _ ?_;clear k43 K43
 refine wp_ret ?_
 refine retC1 (fn:=Tryz.f46) rfl H S (i:=5) G G (fun _ S=>?_)
 exact ⟨_,_,_,_,rfl,(S.sel [2,3,4] G G)⟩
end
section
theorem bZ (n lo hi:Int) (w:World) :
    Calls Tryz.prog 44 [.int .i64 n,.int .i64 lo,.int .i64 hi].toArray w (Ret (fun v w'=>v = .bool (decide (lo≤n)&&decide (n≤hi))∧w'=w)):=by
 refine enter Tryz.func44 rfl Tryz.ntmps44 rfl (fun a H=>?_)
 have S:=St.start w
 refine sS H fun K1 k1=>sr 1 rfl<|sE ?_;clear H a;intro a H
 refine k1 _ ?_;clear k1 K1
 replace H:=H.keep [0,1,2] rfl
 refine sS H fun K2 k2=>sr 4 rfl<|sg 3 3 10 13 true G G (fun hg4=>sy hg4<|sr 1 rfl<|sy hg4<|sr 1 rfl<|sy hg4<|sr 1 rfl<|sz 3 G G G)<|sa G G G<|sr 1 rfl<|sE ?_;clear H a;intro a H
 refine k2 _ ?_;clear k2 K2
 refine wp_ret ?_
 refine ret1 (fn:=Tryz.f44) rfl H rfl ?_
 exact ⟨rfl,rfl⟩
theorem yI (p1 p2 p3 p4 p5 p6 p7 pl:Int) (w:World) (hpl : -1000≤pl∧pl≤1000) :
    Calls Tryz.prog 70 [.agg [.int .i64 p1,.int .i64 p2,.int .i64 p3,.int .i64 p4,.int .i64 p5,.int .i64 p6,.int .i64 p7].toArray,.int .i64 pl].toArray w (Ret (fun v w'=>v = .bool (psgOk pl (⟨p1,p2,p3,p4,p5,p6,p7⟩:Psg))∧St w noF [] w')):=by
 refine enter Tryz.func70 rfl Tryz.ntmps70 rfl (fun a H=>?_)
 have S:=St.start w
 refine seq_list fun K1 k1=>?_
 refine aO H rfl S G G ?_;clear H a S;intro b2 _ a hb2 hbw2 S H
 refine ls 1 H<|sr 1 rfl<|sE ?_;clear H a;intro a H
 refine k1 _ _ ?_;clear k1 K1
 refine wp_seq_k fun K2 k2=>?_
 replace H:=H.keep [1,2] rfl
 refine sS H fun K3 k3=>sf iM rfl<|sl S 0 aD G G G<|sr 1 rfl<|sd (aU G G (by unfold i64ok;omega))<|sc rfl Tryz.func44 G G (bZ _ _ _ _)<|sr 2 rfl<|sg 6 6 11 17 false G G (fun hg7=>sy hg7<|sf iN rfl<|sy hg7<|sl S 0 aD G G G<|sy hg7<|sr 1 rfl<|sy hg7<|sd (aU G G (by unfold i64ok;omega))<|sy hg7<|sc rfl Tryz.func44 G G (bZ _ _ _ _)<|sy hg7<|sr 1 rfl<|sz 6 G G G)<|so G G G<|sr 1 rfl<|sg 5 14 19 24 false G G (fun hg15=>sy hg15<|sf iM rfl<|sy hg15<|sl S 0 aD G G G<|sy hg15<|sf iN rfl<|sy hg15<|sl S 0 aD G G G<|sy hg15<|sr 1 rfl<|sz 5 G G G)<|so G G G<|sr 1 rfl<|sg 4 21 26 30 false G G (fun hg22=>sy hg22<|sf oT rfl<|sy hg22<|sl S 0 aD G G G<|sy hg22<|sc rfl Tryz.func44 G G (bZ _ _ _ _)<|sy hg22<|sr 1 rfl<|sz 4 G G G)<|so G G G<|sr 1 rfl<|sg 4 27 32 36 false G G (fun hg28=>sy hg28<|sf sG rfl<|sy hg28<|sl S 0 aD G G G<|sy hg28<|sc rfl Tryz.func44 G G (bZ _ _ _ _)<|sy hg28<|sr 1 rfl<|sz 4 G G G)<|so G G G<|sE ?_;clear H a;intro a H
 refine k3 _ ?_;clear k3 K3
 refine cond_ H rfl (fun hc1=>?_) (fun hc1=>?_)
 ·skip
  try simp only [o1,o2,o3,o4,o5,o6,o7,o8,o9,oa] at hc1
  replace H:=H.keep [] rfl
  refine sS H fun K4 k4=>sr 1 rfl<|sE ?_;clear H a;intro a H
  refine k4 _ ?_;clear k4 K4
  refine wp_ret ?_
  refine ret1 (fn:=Tryz.f70) rfl H rfl ?_
  refine ⟨congrArg Value.bool ?_,(S.sel [] G G)⟩;exact (fL (by first|omega|(dsimp only;omega))).symm
 try simp only [o1,o2,o3,o4,o5,o6,o7,o8,o9,oa] at hc1
 refine wp_skip ?_
 refine k2 _ _ ?_
 refine wp_seq_k fun K5 k5=>?_
 refine sS H fun K6 k6=>sf eP rfl<|sl S 0 aD G G G<|sE ?_;clear H a;intro a H
 refine k6 _ ?_;clear k6 K6
 refine wp_block ?_
 have SR:=(S.sel [0] G G)
 refine meet_sr (X:=Bool) [2,39] H rfl (fun q=>[(40,.bool q)]) (fun q=>[]) (fun q=>q=decide (p3=1∨p3=2∨p3=5)) SR (fun K8 k8=>?_) ?_
 ·skip
  refine sS H fun K9 k9=>sr 2 rfl<|sE ?_;clear H a;intro a H
  refine k9 _ ?_;clear k9 K9
  refine condE H rfl (fun hc2=>?_) (fun hc2=>?_)
  ·skip
   refine wp_skip ?_
   exact k8 _ a _ (decide_eq_decide.2 (by omega)) (S.sel [0] G G) (H.keep [40,2,39] rfl)
  refine sS H fun K10 k10=>sr 2 rfl<|sE ?_;clear H a;intro a H
  refine k10 _ ?_;clear k10 K10
  refine condE H rfl (fun hc3=>?_) (fun hc3=>?_)
  ·skip
   refine wp_skip ?_
   exact k8 _ a _ (decide_eq_decide.2 (by omega)) (S.sel [0] G G) (H.keep [40,2,39] rfl)
  refine sO H<|sr 2 rfl<|sE ?_;clear H a;intro a H
  exact k8 _ a _ (decide_eq_decide.2 (by omega)) (S.sel [0] G G) (H.keep [40,2,39] rfl)
 clear SR H S a
 intro xm a wm hp S H
 obtain ⟨q,rfl⟩:∃ y,y=xm:=⟨_,rfl⟩
 subst hp
 refine cond_ H rfl (fun hc4=>?_) (fun hc4=>?_)
 ·skip
  simp only [o7,o8] at hc4
  replace H:=H.keep [2] rfl
  refine sS H fun K12 k12=>sf dO rfl<|sl S 0 aD G G G<|sr 2 rfl<|sg 3 3 47 50 true G G (fun hg4=>sy hg4<|sf kB rfl<|sy hg4<|sl S 0 aD G G G<|sy hg4<|sr 1 rfl<|sz 3 G G G)<|sa G G G<|sr 1 rfl<|sE ?_;clear H a;intro a H
  refine k12 _ ?_;clear k12 K12
  refine wp_ret ?_
  refine ret1 (fn:=Tryz.f70) rfl H rfl ?_
  refine ⟨congrArg Value.bool ?_,(S.sel [] G G)⟩;unfold psgOk;rw [←Bool.decide_and];exact decide_eq_decide.2 (by first|omega|(dsimp only;omega))
 simp only [o7,o8] at hc4
 replace H:=H.keep [2,39] rfl
 refine sS H fun K13 k13=>sr 2 rfl<|sE ?_;clear H a;intro a H
 refine k13 _ ?_;clear k13 K13
 refine condE H rfl (fun hc5=>?_) (fun hc5=>?_)
 ·skip
  replace H:=H.keep [2] rfl
  refine sS H fun K14 k14=>sf dO rfl<|sl S 0 aD G G G<|sc rfl Tryz.func44 G G (bZ _ _ _ _)<|sr 1 rfl<|sg 3 3 57 60 true G G (fun hg4=>sy hg4<|sf kB rfl<|sy hg4<|sl S 0 aD G G G<|sy hg4<|sc rfl Tryz.func44 G G (bZ _ _ _ _)<|sz 3 G G G)<|sa G G G<|sr 1 rfl<|sE ?_;clear H a;intro a H
  refine k14 _ ?_;clear k14 K14
  refine wp_ret ?_
  refine ret1 (fn:=Tryz.f70) rfl H rfl ?_
  refine ⟨congrArg Value.bool ?_,(S.sel [] G G)⟩;unfold psgOk;simp only [←Bool.decide_and];exact decide_eq_decide.2 (by first|omega|(dsimp only;omega))
 replace H:=H.keep [2,39] rfl
 refine sS H fun K15 k15=>sr 2 rfl<|sE ?_;clear H a;intro a H
 refine k15 _ ?_;clear k15 K15
 refine condE H rfl (fun hc6=>?_) (fun hc6=>?_)
 ·skip
  replace H:=H.keep [2] rfl
  refine sS H fun K16 k16=>sf dO rfl<|sl S 0 aD G G G<|sc rfl Tryz.func44 G G (bZ _ _ _ _)<|sr 1 rfl<|sg 3 3 67 70 true G G (fun hg4=>sy hg4<|sf kB rfl<|sy hg4<|sl S 0 aD G G G<|sy hg4<|sr 1 rfl<|sz 3 G G G)<|sa G G G<|sr 1 rfl<|sE ?_;clear H a;intro a H
  refine k16 _ ?_;clear k16 K16
  refine wp_ret ?_
  refine ret1 (fn:=Tryz.f70) rfl H rfl ?_
  refine ⟨congrArg Value.bool ?_,(S.sel [] G G)⟩;unfold psgOk;simp only [←Bool.decide_and];exact decide_eq_decide.2 (by first|omega|(dsimp only;omega))
 refine wp_skip ?_
 refine k5 _ _ ?_
 replace H:=H.keep [] rfl
 refine sS H fun K17 k17=>sr 1 rfl<|sE ?_;clear H a;intro a H
 refine k17 _ ?_;clear k17 K17
 refine wp_ret ?_
 refine ret1 (fn:=Tryz.f70) rfl H rfl ?_
 refine ⟨congrArg Value.bool ?_,(S.sel [] G G)⟩;exact (fL (by first|omega|(dsimp only;omega))).symm
theorem nV (pl:Int) (ps:List Psg) (PA:Option Addr) (pc:Nat) (xs:List Int) (XA:Option Addr) (xc:Nat) (w:World) (hps:InS w noF 7 PA ps.length (pcell ps)) (hpn:ps.length≤9223372036854775807) (hxs:InS w noF 1 XA xs.length (icl xs)) (hxn:xs.length≤9223372036854775807) :
    Calls Tryz.prog 43 [.agg [.int .i64 pl,.slice PA ps.length pc,.slice XA xs.length xc].toArray].toArray w (Ret (fun v w'=>v = .int .i64 (stE pl ps xs)∧St w noF [] w')):=by
 refine enter Tryz.func43 rfl Tryz.ntmps43 rfl (fun a H=>?_)
 have S:=St.start w
 refine seq_list fun K1 k1=>?_
 refine aO H rfl S G G ?_;clear H a S;intro b1 _ a hb1 hbw1 S H
 refine ls 1 H<|sr 1 rfl<|sE ?_;clear H a;intro a H
 refine k1 _ _ ?_;clear k1 K1
 refine wp_seq_k fun K2 k2=>?_
 replace H:=H.keep [1] rfl
 refine sS H fun K3 k3=>sf dU rfl<|sl S 0 aD G G G<|sc rfl Tryz.func44 G G (bZ _ _ _ _)<|sr 2 rfl<|sg 4 4 13 17 false G G (fun hg5=>sy hg5<|sf eO rfl<|sy hg5<|sl S 0 fZ G G G<|sy hg5<|sL fS rfl<|sy hg5<|sr 1 rfl<|sz 4 G G G)<|so G G G<|sE ?_;clear H a;intro a H
 refine k3 _ ?_;clear k3 K3
 refine cond_ H rfl (fun hc1=>?_) (fun hc1=>?_)
 ·skip
  try simp only [o1,o2,o3,o4,o5,o6,o7,o8,o9,oa] at hc1
  replace H:=H.keep [] rfl
  refine sS H fun K4 k4=>sr 1 rfl<|sE ?_;clear H a;intro a H
  refine k4 _ ?_;clear k4 K4
  refine wp_ret ?_
  refine ret1 (fn:=Tryz.f43) rfl H rfl ?_
  exact ⟨congrArg _ (Fo (by omega)).symm,(S.sel [] G G)⟩
 try simp only [o1,o2,o3,o4,o5,o6,o7,o8,o9,oa] at hc1
 refine wp_skip ?_
 refine k2 _ _ ?_
 refine seq_list fun K5 k5=>?_
 refine xJ (fun n:Int => .int .i64 n) H rfl S ?_;clear H a S;intro b19 _ a hb19 S H
 refine ls 1 H<|sr 1 rfl<|sE ?_;clear H a;intro a H
 refine k5 _ _ ?_;clear k5 K5
 refine wp_seq_k fun K6 k6=>?_
 refine sS H fun K7 k7=>sf eO rfl<|sl S 1 fZ G G G<|sL fS rfl<|sr 1 rfl<|sE ?_;clear H a;intro a H
 refine k7 _ ?_;clear k7 K7
 refine wp_block ?_
 refine loop_st (X:=Nat×List (Int×Value)) (R0:=_) [1,3,21,22] H rfl (fun ⟨k,l⟩=>[(23,.int .i64 (k:Int))]) (fun ⟨k,l⟩=>[mapM (fun n:Int => .int .i64 n) b19 l]) (fun g ⟨k,l⟩=>k≤ps.length∧g+k=ps.length∧allN (pasOk pl ps) k=true∧CntMap ps k l) (ps.length) (0,[]) ?_ (S.sel [0,1] G G) (H.keep [23,1,3,21,22] rfl) ?_
 · exact ⟨by omega,by omega,rfl,CntMap.nil ps⟩
 clear H S a
 intro g1 x1 a w1 hp S H K8 k8
 obtain ⟨k,l⟩:=x1
 dsimp only at hp S H
 obtain ⟨hkl,hgk,hA,hM⟩:=hp
 refine sS H fun K9 k9=>sr 1 rfl<|sE ?_;clear H a;intro a H
 refine k9 _ ?_;clear k9 K9
 refine wp_seq_k fun K10 k10=>?_
 refine condL H rfl (fun hc2=>?_) (fun hc2=>?_)
 ·skip
  refine wp_skip ?_
  refine k10 _ _ ?_
  refine wp_seq_k fun K11 k11=>?_
  refine wp_block ?_
  refine seq_list fun K12 k12=>?_
  refine ls 2 H<|si fS eK G G (hps.adr (by omega)) (by omega)<|sd ((aW jM eK rfl S hps (by omega) (by omega)))<|sE ?_;clear H a;intro a H
  refine aI H rfl S rE ?_;clear H a S;intro b5 _ a hb5 hbw5 S H
  refine aF H S (i:=0) G G G G eK G G ?_
  clear H a S;intro _ a S H
  refine k12 _ _ ?_;clear k12 K12
  refine wp_seq_k fun K13 k13=>?_
  replace H:=H.keep [1,3,5,21,22,23] rfl
  refine seq_list fun K14 k14=>?_
  refine ls 3 H<|sd ((aC jM eK rfl S (i:=0) G G))<|sf dU rfl<|sl S 2 aD G G G<|sE ?_;clear H a;intro a H
  refine aA H G G Tryz.func70 G G (yI _ _ _ _ _ _ _ pl _ (by omega)) ?_;clear H a
  rintro _ _ a ⟨rfl,S2⟩ H
  replace S:=S.call S2;clear S2
  refine ls 1 H<|sr 1 rfl<|sE ?_;clear H a;intro a H
  refine k14 _ _ ?_;clear k14 K14
  refine cond_ H rfl (fun hc3=>?_) (fun hc3=>?_)
  ·skip
   try simp only [o1,o2,o3,o4,o5,o6,o7,o8,o9,oa] at hc3
   refine sS H fun K15 k15=>sr 1 rfl<|sE ?_;clear H a;intro a H
   refine k15 _ ?_;clear k15 K15
   refine wp_ret ?_
   refine ret1 (fn:=Tryz.f43) rfl H rfl ?_
   exact ⟨congrArg _ (lF (k:=k) (by omega) (by unfold pasOk;rw [hc3];rfl)).symm,(S.sel [] G G)⟩
  try simp only [o1,o2,o3,o4,o5,o6,o7,o8,o9,oa] at hc3
  refine wp_skip ?_
  refine k13 _ _ ?_
  have hcn:=Rr (ps:=ps) (m:=bI ps k) k;have hc0:=Fm (ps:=ps) (m:=bI ps k) (k:=k);have hcs:cntM ps (bI ps k) (k+1)=cntM ps (bI ps k) k+1:=by unfold cntM;rw [sm,if_pos rfl]
  replace H:=H.keep [1,3,5,21,22,23] rfl
  refine seq_list fun K16 k16=>?_
  refine ls 5 H<|sr 1 rfl<|sf dO rfl<|sl S 0 aD G G G<|sd ((rB (k:=bI ps k) S (i:=1) rfl Do (fH Tryz.underlying3) Yv G G).to (hM _))<|sd (aK G G (by unfold i64ok;omega))<|sE ?_;clear H a;intro a H
  refine tC (k:=bI ps k) H S (i:=1) rfl Do (fH Tryz.underlying3) G G G ?_;clear H a S;intro _ a S H
  refine k16 _ _ ?_;clear k16 K16
  replace H:=H.keep [1,3,5,21,22,23] rfl
  refine seq_list fun K17 k17=>?_
  refine ls 4 H<|sf dO rfl<|sl S 0 aD G G G<|sr 2 rfl<|sE ?_;clear H a;intro a H
  apply cG (i:=3) (g:=40) (t:=45) (b:=true) 5 H S G G (by kernel_rfl) (by kernel_rfl) G G
  case h1=>
   intro hg4
   refine ls 5 H<|sy hg4<|sr 1 rfl<|sy hg4<|sf dO rfl<|sy hg4<|sl S 0 aD G G G<|sy hg4<|sd ((rB (k:=bI ps k) S (i:=1) rfl Do (fH Tryz.underlying3) Yv G G).to (hM.step _))<|sy hg4<|sr 1 rfl<|sE ?_;intro a H
   exact wpList_nil ⟨H.strip 5 G G,(S.sel [0,1,2] G G)⟩
  clear H a S;intro a _ H S
  refine ls 1 H<|sa G G G<|sE ?_;clear H a;intro a H
  refine k17 _ _ ?_;clear k17 K17
  refine cond_ H rfl (fun hc4=>?_) (fun hc4=>?_)
  ·skip
   try simp only [o1,o2,o3,o4,o5,o6,o7,o8,o9,oa] at hc4
   replace H:=H.keep [] rfl
   refine sS H fun K18 k18=>sr 1 rfl<|sE ?_;clear H a;intro a H
   refine k18 _ ?_;clear k18 K18
   refine wp_ret ?_
   refine ret1 (fn:=Tryz.f43) rfl H rfl ?_
   exact ⟨congrArg _ (lF (k:=k) (by omega) (by unfold pasOk;rw [decide_eq_false (by unfold bI at *;omega),Bool.and_false])).symm,(S.sel [] G G)⟩
  try simp only [o1,o2,o3,o4,o5,o6,o7,o8,o9,oa] at hc4
  refine wp_skip ?_
  refine k11 _ _ ?_
  refine sO H<|sd (aK G G (by unfold i64ok;omega))<|sr 1 rfl<|sE ?_;clear H a;intro a H
  exact k8 (g1-1) (k+1,_) a _ (by omega) (⟨by omega,by omega,cK hA (by unfold pasOk;rw [Bool.and_eq_true];refine ⟨hc3,decide_eq_true ?_⟩;unfold bI at *;omega),hM.step⟩) (S.sel [1,2] G G) (H.keep [23,1,3,21,22] rfl)
 refine wp_exit ?_
 refine k6 _ _ ?_
 refine sS H fun K20 k20=>sr 1 rfl<|sE ?_;clear H a;intro a H
 refine k20 _ ?_;clear k20 K20
 refine wp_seq_k fun K21 k21=>?_
 refine sS H fun K22 k22=>sf iJ rfl<|sl S 1 bM G G G<|sL aT rfl<|sr 1 rfl<|sE ?_;clear H a;intro a H
 refine k22 _ ?_;clear k22 K22
 refine wp_block ?_
 refine loop_st (X:=Nat) (R0:=_) [1,49,50] H rfl (fun k2=>[(6,.int .i64 (if k2=0 then -1 else xs.getD (k2-1) 0)),(51,.int .i64 (k2:Int))]) (fun k2=>[]) (fun g k2=>k2≤xs.length∧g+k2=xs.length∧allN (exOk pl xs) k2=true) (xs.length) 0 ?_ (S.sel [0,1] G G) (H.keep [6,51,1,49,50] rfl) ?_
 · exact ⟨by omega,by omega,rfl⟩
 clear H S a
 intro g2 x2 a w2 hp S H K23 k23
 obtain ⟨k2,rfl⟩:∃ y,y=x2:=⟨_,rfl⟩
 have hxb:k2≠0→0≤xs.getD (k2-1) 0∧xs.getD (k2-1) 0<pl:=fun h0=>by
   have:=bX.1 hp.2.2 (k2-1) (by omega)
   unfold exOk at this
   simp only [decide_eq_true_eq] at this
   omega
 refine sS H fun K24 k24=>sr 1 rfl<|sE ?_;clear H a;intro a H
 refine k24 _ ?_;clear k24 K24
 refine wp_seq_k fun K25 k25=>?_
 refine condL H rfl (fun hc5=>?_) (fun hc5=>?_)
 ·skip
  refine wp_skip ?_
  refine k25 _ _ ?_
  refine wp_seq_k fun K26 k26=>?_
  refine wp_block ?_
  refine sS H fun K27 k27=>si aT bA G G (hxs.adr (by omega)) (by omega)<|slm aD rfl (hxs.rd S (by omega) (by omega))<|sr 1 rfl<|sE ?_;clear H a;intro a H
  refine k27 _ ?_;clear k27 K27
  refine wp_seq_k fun K28 k28=>?_
  replace H:=H.keep [1,6,8,49,50,51] rfl
  refine sS H fun K29 k29=>sr 2 rfl<|sd (aK G G (by unfold i64ok;omega))<|sf dU rfl<|sl S 1 aD G G G<|sd (aU G G (by unfold i64ok;omega))<|sc rfl Tryz.func44 G G (bZ _ _ _ _)<|sr 1 rfl<|sE ?_;clear H a;intro a H
  refine k29 _ ?_;clear k29 K29
  refine cond_ H rfl (fun hc6=>?_) (fun hc6=>?_)
  ·skip
   try simp only [o1,o2,o3,o4,o5,o6,o7,o8,o9,oa] at hc6
   refine sS H fun K30 k30=>sr 1 rfl<|sE ?_;clear H a;intro a H
   refine k30 _ ?_;clear k30 K30
   refine wp_ret ?_
   refine ret1 (fn:=Tryz.f43) rfl H rfl ?_
   exact ⟨congrArg _ (Vg (k:=k2) (by omega) (by unfold exOk;rw [decide_eq_false_iff_not];rcases Nat.eq_zero_or_pos k2 with h0|h0 <;> first|(rw [if_pos h0] at hc6;omega)|(rw [if_neg (Nat.ne_of_gt h0)] at hc6;omega))).symm,(S.sel [] rfl rfl)⟩
  try simp only [o1,o2,o3,o4,o5,o6,o7,o8,o9,oa] at hc6
  refine wp_skip ?_
  refine k28 _ _ ?_
  replace H:=H.keep [1,8,49,50,51] rfl
  refine sO H<|sr 2 rfl<|sE ?_;clear H a;intro a H
  refine k26 _ _ ?_
  refine sO H<|sd (aK G G (by unfold i64ok;omega))<|sr 1 rfl<|sE ?_;clear H a;intro a H
  exact k23 (g2-1) (k2+1) a _ (by omega) (⟨by omega,by omega,cK hp.2.2 (by unfold exOk;rw [decide_eq_true_eq];rcases Nat.eq_zero_or_pos k2 with h0|h0 <;> first|(rw [if_pos h0] at hc6;omega)|(rw [if_neg (Nat.ne_of_gt h0)] at hc6;omega))⟩) (S.sel [0,1] rfl rfl) (H.keep [6,51,1,49,50] rfl)
 refine wp_exit ?_
 refine k21 _ _ ?_
 refine sS H fun K33 k33=>sr 1 rfl<|sE ?_;clear H a;intro a H
 refine k33 _ ?_;clear k33 K33
 refine wp_ret ?_
 refine ret1 (fn:=Tryz.f43) rfl H rfl ?_
 have hk9:k=ps.length:=by omega
 have hk8:k2=xs.length:=by omega
 exact ⟨congrArg _ (Vh (by omega) (hk9 ▸ hA) (hk8 ▸ hp.2.2)).symm,(S.sel [] G G)⟩
theorem uC (pl:Int) (ps:List Psg) (PA:Option Addr) (pc:Nat) (xs:List Int) (XA:Option Addr) (xc:Nat) (pe:List Int) (BA:Option Addr) (bc:Nat) (w:World) (hpe:InS w noF 1 BA pe.length (icl pe)) (hpen:pe.length≤9223372036854775807) :
    Calls Tryz.prog 45 [.agg [.int .i64 pl,.slice PA ps.length pc,.slice XA xs.length xc].toArray,.slice BA pe.length bc].toArray w (Ret (fun v w'=>v = .bool (eG pl pe)∧St w noF [] w')):=by
 refine enter Tryz.func45 rfl Tryz.ntmps45 rfl (fun a H=>?_)
 have S:=St.start w
 refine seq_list fun K1 k1=>?_
 refine aO H rfl S G G ?_;clear H a S;intro b2 _ a hb2 hbw2 S H
 refine ls 1 H<|sr 1 rfl<|sE ?_;clear H a;intro a H
 refine k1 _ _ ?_;clear k1 K1
 refine wp_seq_k fun K2 k2=>?_
 refine sS H fun K3 k3=>sr 1 rfl<|sL aT rfl<|sr 1 rfl<|sE ?_;clear H a;intro a H
 refine k3 _ ?_;clear k3 K3
 refine wp_block ?_
 refine loop_st (X:=Nat) (R0:=_) [1,2,7,8] H rfl (fun k=>[(9,.int .i64 (k:Int))]) (fun k=>[]) (fun g k=>k≤pe.length∧g+k=pe.length∧allN (fun k=>decide (0≤pe.getD k 0∧pe.getD k 0≤1000)) k=true) (pe.length) 0 ?_ (S.sel [0] G G) (H.keep [9,1,2,7,8] rfl) ?_
 · exact ⟨by omega,by omega,rfl⟩
 clear H S a
 intro g1 x1 a w1 hp S H K4 k4
 obtain ⟨k,rfl⟩:∃ y,y=x1:=⟨_,rfl⟩
 refine sS H fun K5 k5=>sr 1 rfl<|sE ?_;clear H a;intro a H
 refine k5 _ ?_;clear k5 K5
 refine wp_seq_k fun K6 k6=>?_
 refine condL H rfl (fun hc1=>?_) (fun hc1=>?_)
 ·skip
  refine wp_skip ?_
  refine k6 _ _ ?_
  refine wp_seq_k fun K7 k7=>?_
  refine wp_block ?_
  refine sS H fun K8 k8=>si aT bA G G (hpe.adr (by omega)) (by omega)<|slm aD rfl (hpe.rd S (by omega) (by omega))<|sr 1 rfl<|sE ?_;clear H a;intro a H
  refine k8 _ ?_;clear k8 K8
  refine sS H fun K9 k9=>sr 1 rfl<|sc rfl Tryz.func44 G G (bZ _ _ _ _)<|sr 1 rfl<|sE ?_;clear H a;intro a H
  refine k9 _ ?_;clear k9 K9
  refine cond_ H rfl (fun hc2=>?_) (fun hc2=>?_)
  ·skip
   try simp only [o1,o2,o3,o4,o5,o6,o7,o8,o9,oa] at hc2
   refine sS H fun K10 k10=>sr 1 rfl<|sE ?_;clear H a;intro a H
   refine k10 _ ?_;clear k10 K10
   refine wp_ret ?_
   refine ret1 (fn:=Tryz.f45) rfl H rfl ?_
   refine ⟨congrArg Value.bool ?_,(S.sel [] G G)⟩;unfold eG;rw [gC (k:=k) (by omega) (by rw [decide_eq_false_iff_not];omega)];rfl
  try simp only [o1,o2,o3,o4,o5,o6,o7,o8,o9,oa] at hc2
  refine wp_skip ?_
  refine k7 _ _ ?_
  replace H:=H.keep [1,2,7,8,9] rfl
  refine sO H<|sd (aK G G (by unfold i64ok;omega))<|sr 1 rfl<|sE ?_;clear H a;intro a H
  exact k4 (g1-1) (k+1) a _ (by omega) (⟨by omega,by omega,cK hp.2.2 (by rw [decide_eq_true_eq];omega)⟩) (S.sel [0] G G) (H.keep [9,1,2,7,8] rfl)
 refine wp_exit ?_
 refine k2 _ _ ?_
 refine sS H fun K12 k12=>sr 1 rfl<|sL aT rfl<|sf dU rfl<|sl S 0 aD G G G<|sr 2 rfl<|sE ?_;clear H a;intro a H
 refine k12 _ ?_;clear k12 K12
 refine wp_ret ?_
 refine ret1 (fn:=Tryz.f45) rfl H rfl ?_
 refine ⟨congrArg Value.bool ?_,(S.sel [] G G)⟩;unfold eG;rw [show pe.length=k by omega,hp.2.2,Bool.true_and]
theorem pD (pl:Int) (ps:List Psg) (PA:Option Addr) (pc:Nat) (xs:List Int) (XA:Option Addr) (xc:Nat) (out:Int) (pe:List Int) (BA:Option Addr) (bc:Nat) (T:Int) (w:World) (hps:InS w noF 7 PA ps.length (pcell ps)) (hpn:ps.length≤9223372036854775807) (hxs:InS w noF 1 XA xs.length (icl xs)) (hxn:xs.length≤9223372036854775807) (hpe:InS w noF 1 BA pe.length (icl pe)) (hpen:pe.length≤9223372036854775807) :
    Calls Tryz.prog 24 [.agg [.int .i64 pl,.slice PA ps.length pc,.slice XA xs.length xc].toArray,.int .i64 out,.slice BA pe.length bc,.int .i64 T].toArray w (Ret (fun v w'=>v = .int .i64 (cH pl ps xs out pe T)∧St w noF [] w')):=by
 refine enter Tryz.func24 rfl Tryz.ntmps24 rfl (fun a H=>?_)
 have S:=St.start w
 refine seq_list fun K1 k1=>?_
 refine aO H rfl S G G ?_;clear H a S;intro b4 _ a hb4 hbw4 S H
 refine ls 1 H<|sr 1 rfl<|sE ?_;clear H a;intro a H
 refine k1 _ _ ?_;clear k1 K1
 refine wp_seq_k fun K2 k2=>?_
 refine seq_list fun K3 k3=>?_
 refine ls 1 H<|sd ((aC cA cZ rfl S (i:=0) G G))<|sE ?_;clear H a;intro a H
 refine aA H G G Tryz.func43 G G (nV pl ps PA pc xs XA xc _ (hps.now S) hpn (hxs.now S) hxn) ?_;clear H a
 rintro _ _ a ⟨rfl,S2⟩ H
 replace S:=S.call S2;clear S2
 refine ls 1 H<|sr 1 rfl<|sE ?_;clear H a;intro a H
 refine k3 _ _ ?_;clear k3 K3
 refine sS H fun K4 k4=>sr 2 rfl<|sE ?_;clear H a;intro a H
 refine k4 _ ?_;clear k4 K4
 refine condN H rfl (fun hc1=>?_) (fun hc1=>?_)
 ·skip
  refine sS H fun K5 k5=>sr 2 rfl<|sE ?_;clear H a;intro a H
  refine k5 _ ?_;clear k5 K5
  refine wp_ret ?_
  refine ret1 (fn:=Tryz.f24) rfl H rfl ?_
  refine ⟨?_,(S.sel [] G G)⟩;unfold cH;rw [if_pos hc1]
 refine wp_skip ?_
 refine k2 _ _ ?_
 refine wp_seq_k fun K6 k6=>?_
 replace H:=H.keep [1,2,3,4] rfl
 refine seq_list fun K7 k7=>?_
 refine ls 1 H<|sr 1 rfl<|sE ?_;clear H a;intro a H
 refine aA H G G Tryz.func44 G G (bZ _ _ _ _) ?_;clear H a
 rintro _ _ a ⟨rfl,rfl⟩ H
 refine ls 2 H<|sr 2 rfl<|sE ?_;clear H a;intro a H
 apply cG (i:=3) (g:=18) (t:=22) (b:=false) 4 H S G G (by kernel_rfl) (by kernel_rfl) G G
 case h1=>
  intro hg4
  refine ls 2 H<|sy hg4<|sd ((aC cA cZ rfl S (i:=0) G G))<|sy hg4<|sr 1 rfl<|sE ?_;intro a H
  refine dC H G G (by assumption) ?_
  refine aA H G G Tryz.func45 G G (uC pl ps PA pc xs XA xc pe BA bc _ (hpe.now S) hpen) ?_
  rintro _ _ a ⟨rfl,S2⟩ H
  replace S:=S.call S2;clear S2
  refine ls 1 H<|sy hg4<|sr 1 rfl<|sE ?_;intro a H
  exact wpList_nil ⟨H.strip 4 G G,(S.sel [0] G G)⟩
 clear H a S;intro a _ H S
 refine ls 6 H<|so G G G<|sr 1 rfl<|sg 3 9 24 27 false G G (fun hg10=>sy hg10<|sr 1 rfl<|sy hg10<|sc rfl Tryz.func44 G G (bZ _ _ _ _)<|sy hg10<|sr 1 rfl<|sz 3 G G G)<|so G G G<|sE ?_;clear H a;intro a H
 refine k7 _ _ ?_;clear k7 K7
 refine cond_ H rfl (fun hc2=>?_) (fun hc2=>?_)
 ·skip
  try simp only [o1,o2,o3,o4,o5,o6,o7,o8,o9,oa] at hc2
  replace H:=H.keep [] rfl
  refine sS H fun K8 k8=>sr 1 rfl<|sE ?_;clear H a;intro a H
  refine k8 _ ?_;clear k8 K8
  refine wp_ret ?_
  refine ret1 (fn:=Tryz.f24) rfl H rfl ?_
  refine ⟨?_,(S.sel [] rfl rfl)⟩;unfold cH;rw [if_neg (by omega),if_neg (by simp only [Bool.and_eq_true,decide_eq_true_eq];rcases hc2 with (h|h)|h <;> first|(intro h9;omega)|(rw [h];simp))]
 try simp only [o1,o2,o3,o4,o5,o6,o7,o8,o9,oa] at hc2
 refine wp_skip ?_
 refine k6 _ _ ?_
 refine sS H fun K9 k9=>sr 1 rfl<|sE ?_;clear H a;intro a H
 refine k9 _ ?_;clear k9 K9
 refine wp_ret ?_
 refine ret1 (fn:=Tryz.f24) rfl H rfl ?_
 refine ⟨?_,(S.sel [] G G)⟩;unfold cH;rw [if_neg (by omega),if_pos (by simp only [Bool.and_eq_true,decide_eq_true_eq];exact ⟨⟨by omega,hc2.1.2⟩,by omega⟩)]
end
section
theorem StV.mch {P:Nat} {ps:List Psg} {xs:List Int} (h:StV P ps xs) (k:Nat) (hk:k<ps.length):(ps.getD k Psg.zero).kind=4→0≤(ps.getD k Psg.zero).mach∧(ps.getD k Psg.zero).mach≤11:=fun h4=>by
  have:=dD.1 (h.pas k hk)
  omega
theorem Nm {k:Nat}:∀ q j,j<1→cput (lcl fun i=>if i<k then -1 else 0) k 0 (.int .i64 (-1)) q j=lcl (fun i=>if i<k+1 then -1 else 0) q j:=by
  intro q j hj
  have:j=0:=by omega
  subst this
  unfold cput lcl
  dsimp only
  by_cases e:q=k
  · subst e;rw [if_pos ⟨rfl,rfl⟩,if_pos (by omega)]
  · rw [if_neg (fun h=>e h.1)]
    by_cases h:q<k
    · rw [if_pos h,if_pos (by omega)]
    · rw [if_neg h,if_neg (by omega)]
theorem Nn {P k to:Nat} (hk:k=P):∀ q j,q<P→j<1→cput (lcl fun i=>if i<k then -1 else 0) to 0 (.int .i64 0) q j=lcl (tk0 to) q j:=by
  intro q j hq hj
  have:j=0:=by omega
  subst this
  unfold cput lcl tk0
  dsimp only
  by_cases e:q=to
  · subst e;rw [if_pos ⟨rfl,rfl⟩,if_pos rfl]
  · rw [if_neg (fun h=>e h.1),if_pos (by omega),if_neg e]
theorem Sd {L:Nat→Int} {p:Nat} {v:Int}:∀ k j,j<1→cput (lcl L) p 0 (.int .i64 v) k j=lcl (upd L p v) k j:=by
  intro k j hj
  have:j=0:=by omega
  subst this
  unfold cput lcl upd
  by_cases e:k=p <;> simp [e]
theorem Zh {m:Bool} (h:m=true):b2i m=1:=by subst h;rfl
theorem Wg {P f:Nat} {ps:List Psg} {out:Int} {help:Bool} {tk:Nat→Int} {m:Bool} (e:P=f) (h:m=false→∀ i,i<f→∀ k,k<ps.length→FixAt ps out help tk i k):m=false→∀ i,i<P→∀ k,k<ps.length→FixAt ps out help tk i k:=by subst e;exact h
theorem Yy (m:Nat):(0:Int)≤2^(m:Int).toNat:=Int.pow_nonneg (by omega)
theorem Se {m:Nat} (h:m<12):(0:Int)≤2^(m:Int).toNat∧(2:Int)^(m:Int).toNat≤2048:=by
  refine ⟨Yy m,?_⟩
  have h2:2^m≤2^11:=Nat.pow_le_pow_right (by omega) (by omega)
  have h3:((2^m:Nat):Int)≤((2^11:Nat):Int):=Int.ofNat_le.2 h2
  push_cast at h3
  exact h3
theorem Wh:∀ k j,j<1→[Value.int .i64 0].getD j undef=lcl (fun i=>if i<0 then -1 else 0) k j:=by
  intro k j hj
  have:j=0:=by omega
  subst this
  rfl
theorem uD (pl:Int) (ps:List Psg) (PA:Option Addr) (pc:Nat) (xs:List Int) (XA:Option Addr) (xc:Nat) (l:List Int) (LA:Option Addr) (lc:Nat) (w:World) (hl:InS w noF 1 LA l.length (icl l)) (hln:l.length≤9223372036854775807) (hpl : -1000≤pl∧pl≤1000) :
    Calls Tryz.prog 100 [.agg [.int .i64 pl,.slice PA ps.length pc,.slice XA xs.length xc].toArray,.slice LA l.length lc].toArray w (Ret (fun v w'=>v = .bool (plOk pl l)∧St w noF [] w')):=by
 refine enter Tryz.func100 rfl Tryz.ntmps100 rfl (fun a H=>?_)
 have S:=St.start w
 refine seq_list fun K1 k1=>?_
 refine aO H rfl S G G ?_;clear H a S;intro b2 _ a hb2 hbw2 S H
 refine ls 1 H<|sr 1 rfl<|sE ?_;clear H a;intro a H
 refine k1 _ _ ?_;clear k1 K1
 refine wp_seq_k fun K2 k2=>?_
 refine sS H fun K3 k3=>sr 1 rfl<|sL aT rfl<|sr 1 rfl<|sE ?_;clear H a;intro a H
 refine k3 _ ?_;clear k3 K3
 refine wp_block ?_
 refine loop_st (X:=Nat) (R0:=_) [2,7,8] H rfl (fun k=>[(9,.int .i64 (k:Int))]) (fun k=>[]) (fun g k=>k≤l.length∧g+k=l.length∧allN (fun k=>decide (0≤l.getD k 0∧l.getD k 0≤pl-1)) k=true) (l.length) 0 ?_ (S.sel [0] G G) (H.keep [9,2,7,8] rfl) ?_
 · exact ⟨by omega,by omega,rfl⟩
 clear H S a
 intro g1 x1 a w1 hp S H K4 k4
 obtain ⟨k,rfl⟩:∃ y,y=x1:=⟨_,rfl⟩
 refine sS H fun K5 k5=>sr 1 rfl<|sE ?_;clear H a;intro a H
 refine k5 _ ?_;clear k5 K5
 refine wp_seq_k fun K6 k6=>?_
 refine condL H rfl (fun hc1=>?_) (fun hc1=>?_)
 ·skip
  refine wp_skip ?_
  refine k6 _ _ ?_
  refine wp_seq_k fun K7 k7=>?_
  refine wp_block ?_
  refine sS H fun K8 k8=>si aT bA G G (hl.adr (by omega)) (by omega)<|slm aD rfl (hl.rd S (by omega) (by omega))<|sr 1 rfl<|sE ?_;clear H a;intro a H
  refine k8 _ ?_;clear k8 K8
  replace H:=H.keep [2,6,7,8,9] rfl
  refine sS H fun K9 k9=>sr 1 rfl<|sf dU rfl<|sl S 0 aD G G G<|sd (aU G G (by unfold i64ok;omega))<|sc rfl Tryz.func44 G G (bZ _ _ _ _)<|sr 1 rfl<|sE ?_;clear H a;intro a H
  refine k9 _ ?_;clear k9 K9
  refine cond_ H rfl (fun hc2=>?_) (fun hc2=>?_)
  ·skip
   try simp only [o1,o2,o3,o4,o5,o6,o7,o8,o9,oa] at hc2
   refine sS H fun K10 k10=>sr 1 rfl<|sE ?_;clear H a;intro a H
   refine k10 _ ?_;clear k10 K10
   refine wp_ret ?_
   refine ret1 (fn:=Tryz.f100) rfl H rfl ?_
   exact ⟨congrArg Value.bool (Dv (k:=k) (by omega) (by omega)).symm,(S.sel [] G G)⟩
  try simp only [o1,o2,o3,o4,o5,o6,o7,o8,o9,oa] at hc2
  refine wp_skip ?_
  refine k7 _ _ ?_
  refine sO H<|sd (aK G G (by unfold i64ok;omega))<|sr 1 rfl<|sE ?_;clear H a;intro a H
  exact k4 (g1-1) (k+1) a _ (by omega) (⟨by omega,by omega,cK hp.2.2 (by rw [decide_eq_true_eq];omega)⟩) (S.sel [0] G G) (H.keep [9,2,7,8] rfl)
 refine wp_exit ?_
 refine k2 _ _ ?_
 replace H:=H.keep [] rfl
 refine sS H fun K12 k12=>sr 1 rfl<|sE ?_;clear H a;intro a H
 refine k12 _ ?_;clear k12 K12
 refine wp_ret ?_
 refine ret1 (fn:=Tryz.f100) rfl H rfl ?_
 refine ⟨congrArg Value.bool ?_,(S.sel [] G G)⟩;unfold plOk;rw [show l.length=k by omega,hp.2.2]
theorem rH (P:Nat) (ps:List Psg) (PA:Option Addr) (pc:Nat) (xs:List Int) (XA:Option Addr) (xc:Nat) (out:Int) (help:Bool) (p:Psg) (f:Int) (w:World) (hm:p.kind=4→0≤p.mach∧p.mach≤11) (hou:0≤out) :
    Calls Tryz.prog 105 [.agg [.int .i64 (P:Int),.slice PA ps.length pc,.slice XA xs.length xc,.int .i64 out,.bool help].toArray,.agg [.int .i64 p.a,.int .i64 p.b,.int .i64 p.kind,.int .i64 p.ticks,.int .i64 p.wide,.int .i64 p.mach,.int .i64 p.still].toArray,.int .i64 f].toArray w (Ret (fun v w'=>v = .int .i64 (oth out help p f)∧St w noF [] w')):=by
 refine enter Tryz.func105 rfl Tryz.ntmps105 rfl (fun a H=>?_)
 have S:=St.start w
 refine seq_list fun K1 k1=>?_
 refine aO H rfl S G G ?_;clear H a S;intro b3 _ a hb3 hbw3 S H
 refine aO H rfl S G G ?_;clear H a S;intro b4 _ a hb4 hbw4 S H
 refine ls 1 H<|sr 1 rfl<|sE ?_;clear H a;intro a H
 refine k1 _ _ ?_;clear k1 K1
 replace H:=H.keep [2,3,4] rfl
 refine sS H fun K2 k2=>sf eP rfl<|sl S 0 aD G G G<|sr 2 rfl<|sg 12 3 11 23 false G G (fun hg4=>by
     have hq4:=hg4;try simp only [o1,o2,o3,o4,o5,o6,o7,o8,o9,oa] at hq4
     exact sy hg4<|sf eP rfl<|sy hg4<|sl S 0 aD G G G<|sy hg4<|sr 1 rfl<|sy hg4<|sr 1 rfl<|sg 7 7 15 22 true G G (fun hg8=>by
          have hq8:=hg8;try simp only [o1,o2,o3,o4,o5,o6,o7,o8,o9,oa] at hq8
          exact sy hg8<|sf Ls rfl<|sy hg8<|sl S 1 aD G G G<|sy hg8<|sf dO rfl<|sy hg8<|sl S 0 aD G G G<|sy hg8<|sd (fQ G G (by omega) (by omega))<|sy hg8<|sd (eY G G)<|sy hg8<|sr 1 rfl<|sz 7 G G G)<|sy hg4<|sa G G G<|sz 6 G G G)<|so G G G<|sr 1 rfl<|sg 7 17 25 32 false G G (fun hg18=>by
     have hq18:=hg18;try simp only [o1,o2,o3,o4,o5,o6,o7,o8,o9,oa] at hq18
     exact sy hg18<|sf eP rfl<|sy hg18<|sl S 0 aD G G G<|sy hg18<|sr 1 rfl<|sy hg18<|sr 1 rfl<|sg 2 21 29 31 true G G (fun hg22=>by
          have hq22:=hg22;try simp only [o1,o2,o3,o4,o5,o6,o7,o8,o9,oa] at hq22
          exact sy hg22<|sf Lt rfl<|sy hg22<|sl S 1 iY G G G<|sz 2 G G G)<|sy hg18<|sa G G G<|sz 6 G G G)<|so G G G<|sr 1 rfl<|sE ?_;clear H a;intro a H
 refine k2 _ ?_;clear k2 K2
 refine wp_seq_k fun K3 k3=>?_
 refine wp_block ?_
 replace H:=H.keep [2,4,7] rfl
 refine sS H fun K4 k4=>sr 3 rfl<|sE ?_;clear H a;intro a H
 refine k4 _ ?_;clear k4 K4
 refine cond_ H rfl (fun hc1=>?_) (fun hc1=>?_)
 ·skip
  try simp only [o1,o2,o3,o4,o5,o6,o7,o8,o9,oa] at hc1
  refine sS H fun K5 k5=>sr 1 rfl<|sE ?_;clear H a;intro a H
  refine k5 _ ?_;clear k5 K5
  refine wp_ret ?_
  refine ret1 (fn:=Tryz.f105) rfl H rfl ?_
  refine ⟨congrArg (Value.int .i64) ?_,(S.sel [] G G)⟩;unfold oth;rw [if_pos (Yw hc1)]
 try simp only [o1,o2,o3,o4,o5,o6,o7,o8,o9,oa] at hc1
 refine sS H fun K6 k6=>sf iM rfl<|sl S 0 aD G G G<|sr 3 rfl<|sE ?_;clear H a;intro a H
 refine k6 _ ?_;clear k6 K6
 refine condE H rfl (fun hc2=>?_) (fun hc2=>?_)
 ·skip
  replace H:=H.keep [4] rfl
  refine sS H fun K7 k7=>sf iN rfl<|sl S 0 aD G G G<|sr 1 rfl<|sE ?_;clear H a;intro a H
  refine k7 _ ?_;clear k7 K7
  refine wp_ret ?_
  refine ret1 (fn:=Tryz.f105) rfl H rfl ?_
  refine ⟨congrArg (Value.int .i64) ?_,(S.sel [] G G)⟩;unfold oth othr;rw [if_neg (by rw [Mu hc1];simp),if_pos hc2]
 refine sS H fun K8 k8=>sf iN rfl<|sl S 0 aD G G G<|sr 3 rfl<|sE ?_;clear H a;intro a H
 refine k8 _ ?_;clear k8 K8
 refine condE H rfl (fun hc3=>?_) (fun hc3=>?_)
 ·skip
  replace H:=H.keep [4] rfl
  refine sS H fun K9 k9=>sf iM rfl<|sl S 0 aD G G G<|sr 1 rfl<|sE ?_;clear H a;intro a H
  refine k9 _ ?_;clear k9 K9
  refine wp_ret ?_
  refine ret1 (fn:=Tryz.f105) rfl H rfl ?_
  refine ⟨congrArg (Value.int .i64) ?_,(S.sel [] G G)⟩;unfold oth othr;rw [if_neg (by rw [Mu hc1];simp),if_neg hc2,if_pos hc3]
 refine wp_skip ?_
 refine k3 _ _ ?_
 refine sS H fun K10 k10=>sr 1 rfl<|sE ?_;clear H a;intro a H
 refine k10 _ ?_;clear k10 K10
 refine wp_ret ?_
 refine ret1 (fn:=Tryz.f105) rfl H rfl ?_
 refine ⟨congrArg (Value.int .i64) ?_,(S.sel [] G G)⟩;unfold oth othr;rw [if_neg (by rw [Mu hc1];simp),if_neg hc2,if_neg hc3]
theorem wF (P:Nat) (ps:List Psg) (PA:Option Addr) (pc:Nat) (xs:List Int) (XA:Option Addr) (xc:Nat) (out:Int) (help:Bool) (to:Int) (w:World) (hps:InS w noF 7 PA ps.length (pcell ps)) (hpn:ps.length≤9223372036854775807) (hxs:InS w noF 1 XA xs.length (icl xs)) (hxn:xs.length≤9223372036854775807) (hV:StV P ps xs) (hou:0≤out) (hto:0≤to∧to<P) :
    Calls Tryz.prog 104 [.agg [.int .i64 (P:Int),.slice PA ps.length pc,.slice XA xs.length xc,.int .i64 out,.bool help].toArray,.int .i64 to].toArray w (Ret (fun v w'=>∃ A c,v = .slice A P c∧FarOk P ps out help to.toNat (dst P ps out help to.toNat)∧St w noF [ownM 3 1 A P c (lcl (dst P ps out help to.toNat))] w')):=by
 have hP10:=hV.size
 refine enter Tryz.func104 rfl Tryz.ntmps104 rfl (fun a H=>?_)
 have S:=St.start w
 refine seq_list fun K1 k1=>?_
 refine aO H rfl S G G ?_;clear H a S;intro b2 _ a hb2 hbw2 S H
 refine ls 1 H<|sr 1 rfl<|sE ?_;clear H a;intro a H
 refine k1 _ _ ?_;clear k1 K1
 refine seq_list fun K2 k2=>?_
 refine ls 3 H<|sf tS rfl<|sf dU rfl<|sl S 0 aD G G G<|sE ?_;clear H a;intro a H
 refine iA (n:=_) H rfl S aT bA fO oY rfl (by decide) G G (by omega) (by omega) ?_;clear H a S;intro A1 _ a hA1 S H
 replace S:=S.recell (i:=0) rfl (cell':=lcl (fun i=>if i<0 then -1 else 0)) (fun k j hk hj=>Wh k j hj)
 refine ls 1 H<|sr 1 rfl<|sE ?_;clear H a;intro a H
 refine k2 _ _ ?_;clear k2 K2
 refine wp_seq_k fun K3 k3=>?_
 replace H:=H.keep [1,2,5] rfl
 refine sS H fun K4 k4=>sr 1 rfl<|sL aT rfl<|sr 1 rfl<|sE ?_;clear H a;intro a H
 refine k4 _ ?_;clear k4 K4
 refine wp_block ?_
 refine loop_st (X:=Nat) (R0:=_) [1,2,5,18] H rfl (fun k=>[(19,.int .i64 (k:Int))]) (fun k=>[ownM 3 1 A1 P P (lcl (fun i=>if i<k then -1 else 0))]) (fun g k=>k≤P∧g+k=P) (P) 0 ?_ (S.sel [0,1] G G) (H.keep [19,1,2,5,18] rfl) ?_
 · exact ⟨by omega,by omega⟩
 clear H S a
 intro g1 x1 a w1 hp S H K5 k5
 obtain ⟨k,rfl⟩:∃ y,y=x1:=⟨_,rfl⟩
 refine sS H fun K6 k6=>sr 1 rfl<|sE ?_;clear H a;intro a H
 refine k6 _ ?_;clear k6 K6
 refine wp_seq_k fun K7 k7=>?_
 refine condL H rfl (fun hc1=>?_) (fun hc1=>?_)
 ·skip
  refine wp_skip ?_
  refine k7 _ _ ?_
  refine wp_seq_k fun K8 k8=>?_
  refine wp_block ?_
  refine sS H fun K9 k9=>sr 2 rfl<|sE ?_;clear H a;intro a H
  refine k9 _ ?_;clear k9 K9
  refine one_list ?_
  refine ls 3 H<|sr 2 rfl<|si aT bA G G (ownM.adr S (i:=0) rfl (by omega)) (by omega)<|sE ?_;clear H a;intro a H
  refine bN H S (i:=0) G G G (by omega) (by omega) bA rfl ?_
  clear H a S;intro _ a S H
  replace S:=S.recell (i:=0) rfl (cell':=lcl (fun i=>if i<k+1 then -1 else 0)) (fun q j hq hj=>Nm q j hj)
  refine k8 _ _ ?_
  refine sO H<|sd (aK G G (by unfold i64ok;omega))<|sr 1 rfl<|sE ?_;clear H a;intro a H
  exact k5 (g1-1) (k+1) a _ (by omega) (⟨by omega,by omega⟩) (S.sel [0,1] G G) (H.keep [19,1,2,5,18] rfl)
 refine wp_exit ?_
 refine k3 _ _ ?_
 replace H:=H.keep [1,2,5] rfl
 refine seq_list fun K12 k12=>?_
 refine ls 3 H<|sr 2 rfl<|sI aT bA G G (ownM.adr S (i:=0) rfl (by omega)) (by omega) (by omega)<|sE ?_;clear H a;intro a H
 refine bN H S (i:=0) G G G (by omega) (by omega) bA rfl ?_
 clear H a S;intro _ a S H
 replace S:=S.recell (i:=0) rfl (cell':=lcl (tk0 to.toNat)) (fun q j hq hj=>Nn (by omega) q j hq hj)
 refine k12 _ _ ?_;clear k12 K12
 refine wp_seq_k fun K13 k13=>?_
 refine sS H fun K14 k14=>sr 1 rfl<|sE ?_;clear H a;intro a H
 refine k14 _ ?_;clear k14 K14
 refine wp_block ?_
 refine loop_st (X:=(Nat→Int)×Bool) (R0:=_) [2,5] H rfl (fun ⟨tk,mo⟩=>[(7,.bool mo)]) (fun ⟨tk,mo⟩=>[ownM 3 1 A1 P P (lcl tk)]) (fun g ⟨tk,mo⟩=>FarI P ps out help to.toNat tk∧potF P tk+b2i mo≤(g:Int)∧(mo=false→∀ i,i<P→∀ k,k<ps.length→FixAt ps out help tk i k)) ((potF P (tk0 to.toNat)+1).toNat) (tk0 to.toNat,true) ?_ (S.sel [0,1] G G) (H.keep [7,2,5] rfl) ?_
 · exact ⟨FarI.init (by omega),by have:=Fq (P:=P) (tk:=tk0 to.toNat);show potF P (tk0 to.toNat)+1≤_;omega,fun h=>by cases h⟩
 clear H S a
 intro g2 x2 a w2 hp S H K15 k15
 obtain ⟨tk,mo⟩:=x2
 dsimp only at hp S H
 obtain ⟨hI,hpot,hfx⟩:=hp
 have hpn0:=Fq (P:=P) (tk:=tk)
 refine wp_seq_k fun K16 k16=>?_
 refine sS H fun K17 k17=>sr 1 rfl<|sE ?_;clear H a;intro a H
 refine k17 _ ?_;clear k17 K17
 refine cond_ H rfl (fun hc2=>?_) (fun hc2=>?_)
 ·skip
  try simp only [o1,o2,o3,o4,o5,o6,o7,o8,o9,oa] at hc2
  have hb9:=Zh hc2
  refine wp_skip ?_
  refine k16 _ _ ?_
  refine wp_block ?_
  refine sS H fun K18 k18=>sr 1 rfl<|sE ?_;clear H a;intro a H
  refine k18 _ ?_;clear k18 K18
  refine sS H fun K19 k19=>sf tS rfl<|sf dU rfl<|sl S 1 aD G G G<|sr 1 rfl<|sE ?_;clear H a;intro a H
  refine k19 _ ?_;clear k19 K19
  refine wp_block ?_
  refine loop_st (X:=Nat×(Nat→Int)×Bool) (R0:=_) [2,5,32] H rfl (fun ⟨f,tk1,m1⟩=>[(7,.bool m1),(33,.int .i64 (f:Int))]) (fun ⟨f,tk1,m1⟩=>[ownM 3 1 A1 P P (lcl tk1)]) (fun g ⟨f,tk1,m1⟩=>f≤P∧g+f=P∧FarI P ps out help to.toNat tk1∧potF P tk1+b2i m1≤potF P tk∧(m1=false→∀ i,i<f→∀ k,k<ps.length→FixAt ps out help tk1 i k)) (P) (0,tk,false) ?_ (S.sel [0,1] G G) (H.keep [7,33,2,5,32] rfl) ?_
  · exact ⟨by omega,by omega,hI,by show potF P tk+0≤_;omega,fun _ i hi=>absurd hi (Nat.not_lt_zero i)⟩
  clear H S a
  intro g3 x3 a w3 hp S H K20 k20
  obtain ⟨f,tk1,m1⟩:=x3
  dsimp only at hp S H
  obtain ⟨hfP,hgf,hI1,hpot1,hfx1⟩:=hp
  refine sS H fun K21 k21=>sr 1 rfl<|sE ?_;clear H a;intro a H
  refine k21 _ ?_;clear k21 K21
  refine wp_seq_k fun K22 k22=>?_
  refine condL H rfl (fun hc3=>?_) (fun hc3=>?_)
  ·skip
   refine wp_skip ?_
   refine k22 _ _ ?_
   refine wp_seq_k fun K23 k23=>?_
   refine wp_block ?_
   refine sS H fun K24 k24=>sr 2 rfl<|sE ?_;clear H a;intro a H
   refine k24 _ ?_;clear k24 K24
   refine sS H fun K25 k25=>sf tS rfl<|sf eO rfl<|sl S 1 fZ G G G<|sL fS rfl<|sr 1 rfl<|sE ?_;clear H a;intro a H
   refine k25 _ ?_;clear k25 K25
   refine wp_block ?_
   refine loop_st (X:=Nat×(Nat→Int)×Bool) (R0:=_) [2,5,8,32,33,38,39] H rfl (fun ⟨k,tk2,m2⟩=>[(7,.bool m2),(40,.int .i64 (k:Int))]) (fun ⟨k,tk2,m2⟩=>[ownM 3 1 A1 P P (lcl tk2)]) (fun g ⟨k,tk2,m2⟩=>k≤ps.length∧g+k=ps.length∧FarI P ps out help to.toNat tk2∧potF P tk2+b2i m2≤potF P tk∧(m2=false→(∀ i,i<f→∀ k,k<ps.length→FixAt ps out help tk2 i k)∧∀ q,q<k→FixAt ps out help tk2 f q)) (ps.length) (0,tk1,m1) ?_ (S.sel [0,1] G G) (H.keep [7,40,2,5,8,32,33,38,39] rfl) ?_
   · exact ⟨by omega,by omega,hI1,hpot1,fun h=>⟨hfx1 h,fun q hq=>absurd hq (Nat.not_lt_zero q)⟩⟩
   clear H S a
   intro g4 x4 a w4 hp S H K26 k26
   obtain ⟨k,tk2,m2⟩:=x4
   dsimp only at hp S H
   obtain ⟨hkl,hgk,hI2,hpot2,hfx2⟩:=hp
   refine sS H fun K27 k27=>sr 1 rfl<|sE ?_;clear H a;intro a H
   refine k27 _ ?_;clear k27 K27
   refine wp_seq_k fun K28 k28=>?_
   refine condL H rfl (fun hc4=>?_) (fun hc4=>?_)
   ·skip
    refine wp_skip ?_
    refine k28 _ _ ?_
    refine wp_seq_k fun K29 k29=>?_
    refine wp_block ?_
    refine seq_list fun K30 k30=>?_
    refine ls 2 H<|si fS eK G G (hps.adr (by omega)) (by omega)<|sd ((aW jM eK rfl S hps (by omega) (by omega)))<|sE ?_;clear H a;intro a H
    refine aI H rfl S rE ?_;clear H a S;intro b10 _ a hb10 hbw10 S H
    refine aF H S (i:=0) G G G G eK G G ?_
    clear H a S;intro _ a S H
    refine k30 _ _ ?_;clear k30 K30
    replace H:=H.keep [2,5,7,8,10,32,33,38,39,40] rfl
    refine seq_list fun K31 k31=>?_
    refine ls 3 H<|sd ((aC rV tI rfl S (i:=2) G G))<|sd ((aC jM eK rfl S (i:=0) G G))<|sr 1 rfl<|sE ?_;clear H a;intro a H
    refine aA H G G Tryz.func105 G G (rH P ps PA pc xs XA xc out help (ps.getD k Psg.zero) (f:Int) _ (hV.mch k (by omega)) hou) ?_;clear H a
    rintro _ _ a ⟨rfl,S2⟩ H
    replace S:=S.call S2;clear S2
    have hoi:0≤oth out help (ps.getD k Psg.zero) (f:Int)→oth out help (ps.getD k Psg.zero) (f:Int)<P:=fun h=>(qO hV.psv (show k<ps.length by omega) h).2.1
    have htb:=(hV.psv k (by omega)).2.2
    refine ls 1 H<|sr 1 rfl<|sE ?_;clear H a;intro a H
    refine k31 _ _ ?_;clear k31 K31
    refine wp_seq_k fun K32 k32=>?_
    replace H:=H.keep [2,5,7,8,10,11,32,33,38,39,40] rfl
    refine sS H fun K33 k33=>sr 3 rfl<|sg 5 2 50 55 false G G (fun hg3=>by
        have hq3:=hg3;try simp only [o1,o2,o3,o4,o5,o6,o7,o8,o9,oa] at hq3
        exact sy hg3<|sr 1 rfl<|sy hg3<|sr 1 rfl<|sy hg3<|sI aT bA G G (ownM.adr S (i:=1) rfl (by omega)) (by omega) (by omega)<|sy hg3<|slm aD rfl (ownM.rd S (i:=1) rfl (by omega) (by omega))<|sy hg3<|sr 1 rfl<|sz 5 G G G)<|so G G G<|sE ?_;clear H a;intro a H
    refine k33 _ ?_;clear k33 K33
    refine cond_ H rfl (fun hc5=>?_) (fun hc5=>?_)
    ·skip
     try simp only [o1,o2,o3,o4,o5,o6,o7,o8,o9,oa] at hc5
     refine wp_exit ?_
     refine k29 _ _ ?_
     replace H:=H.keep [2,5,7,8,32,33,38,39,40] rfl
     refine sO H<|sd (aK G G (by unfold i64ok;omega))<|sr 1 rfl<|sE ?_;clear H a;intro a H
     exact k26 (g4-1) (k+1,_,_) a _ (by omega) (by first|exact ⟨by omega,by omega,hI2.up hV.psv (by omega) (by omega) (by omega) (by omega) (by omega) (by omega) (by omega) hpot2⟩|exact ⟨by omega,by omega,hI2,hpot2,yE (P:=P) hfx2 (tV (by omega))⟩) (S.sel [1,2] G G) (H.keep [7,40,2,5,8,32,33,38,39] rfl)
    try simp only [o1,o2,o3,o4,o5,o6,o7,o8,o9,oa] at hc5
    refine wp_skip ?_
    refine k32 _ _ ?_
    have hsm:=hI2.small (by omega) (i:=(oth out help (ps.getD k Psg.zero) f).toNat) (by omega)
    replace H:=H.keep [2,5,7,8,10,11,32,33,38,39,40] rfl
    replace S:=S.drew
    refine sD H fun K35 k35=>sr 2 rfl<|sI aT bA G G (ownM.adr S (i:=1) rfl (by omega)) (by omega) (by omega)<|slm aD rfl (ownM.rd S (i:=1) rfl (by omega) (by omega))<|sf oT rfl<|sl S 0 aD G G G<|sd (aK G G (by unfold i64ok;omega))<|sr 1 rfl<|sE ?_;clear H a;intro a H
    refine k35 _ ?_;clear k35 K35
    replace H:=H.keep [2,5,7,8,12,32,33,38,39,40] rfl
    refine sS H fun K36 k36=>sr 2 rfl<|si aT bA G G (ownM.adr S (i:=1) rfl (by omega)) (by omega)<|slm aD rfl (ownM.rd S (i:=1) rfl (by omega) (by omega))<|sr 2 rfl<|sg 6 5 69 75 false G G (fun hg6=>by
        have hq6:=hg6;try simp only [o1,o2,o3,o4,o5,o6,o7,o8,o9,oa] at hq6
        exact sy hg6<|sr 1 rfl<|sy hg6<|sr 1 rfl<|sy hg6<|sr 1 rfl<|sy hg6<|si aT bA G G (ownM.adr S (i:=1) rfl (by omega)) (by omega)<|sy hg6<|slm aD rfl (ownM.rd S (i:=1) rfl (by omega) (by omega))<|sy hg6<|sr 1 rfl<|sz 6 G G G)<|so G G G<|sE ?_;clear H a;intro a H
    refine k36 _ ?_;clear k36 K36
    refine cond_ H rfl (fun hc6=>?_) (fun hc6=>?_)
    ·skip
     try simp only [o1,o2,o3,o4,o5,o6,o7,o8,o9,oa] at hc6
     replace H:=H.keep [2,5,8,12,32,33,38,39,40] rfl
     refine one_list ?_
     refine ls 4 H<|sr 3 rfl<|si aT bA G G (ownM.adr S (i:=1) rfl (by omega)) (by omega)<|sE ?_;clear H a;intro a H
     refine bN H S (i:=1) G G G (by omega) (by omega) bA rfl ?_
     clear H a S;intro _ a S H
     replace S:=S.recell (i:=1) rfl (cell':=lcl (upd tk2 f (tk2 (oth out help (ps.getD k Psg.zero) f).toNat+(ps.getD k Psg.zero).ticks))) (fun q j hq hj=>Sd q j hj)
     refine ls 1 H<|sr 1 rfl<|sE ?_;clear H a;intro a H
     refine k29 _ _ ?_
     refine sO H<|sd (aK G G (by unfold i64ok;omega))<|sr 1 rfl<|sE ?_;clear H a;intro a H
     exact k26 (g4-1) (k+1,_,_) a _ (by omega) (by first|exact ⟨by omega,by omega,hI2.up hV.psv (by omega) (by omega) (by omega) (by omega) (by omega) (by omega) (by omega) hpot2⟩|exact ⟨by omega,by omega,hI2,hpot2,yE (P:=P) hfx2 (tV (by omega))⟩) (S.sel [1,2] G G) (H.keep [7,40,2,5,8,32,33,38,39] rfl)
    try simp only [o1,o2,o3,o4,o5,o6,o7,o8,o9,oa] at hc6
    refine wp_skip ?_
    refine k29 _ _ ?_
    replace H:=H.keep [2,5,7,8,32,33,38,39,40] rfl
    refine sO H<|sd (aK G G (by unfold i64ok;omega))<|sr 1 rfl<|sE ?_;clear H a;intro a H
    exact k26 (g4-1) (k+1,_,_) a _ (by omega) (by first|exact ⟨by omega,by omega,hI2.up hV.psv (by omega) (by omega) (by omega) (by omega) (by omega) (by omega) (by omega) hpot2⟩|exact ⟨by omega,by omega,hI2,hpot2,yE (P:=P) hfx2 (tV (by omega))⟩) (S.sel [1,2] G G) (H.keep [7,40,2,5,8,32,33,38,39] rfl)
   refine wp_exit ?_
   refine k23 _ _ ?_
   refine sO H<|sd (aK G G (by unfold i64ok;omega))<|sr 1 rfl<|sE ?_;clear H a;intro a H
   exact k20 (g3-1) (f+1,tk2,m2) a _ (by omega) (⟨by omega,by omega,hI2,hpot2,Wb (P:=P) (by omega) hfx2⟩) (S.sel [0,1] G G) (H.keep [7,33,2,5,32] rfl)
  refine wp_exit ?_
  exact k15 (g2-1) (tk1,m1) a _ (by omega) (⟨hI1,by omega,Wg (by omega) hfx1⟩) (S.sel [0,1] G G) (H.keep [7,2,5] rfl)
 try simp only [o1,o2,o3,o4,o5,o6,o7,o8,o9,oa] at hc2
 refine wp_exit ?_
 refine k13 _ _ ?_
 refine sS H fun K41 k41=>sr 2 rfl<|sE ?_;clear H a;intro a H
 refine k41 _ ?_;clear k41 K41
 refine wp_ret ?_
 refine ret1 (fn:=Tryz.f104) rfl H rfl ?_
 have hmf:mo=false:=by (cases mo <;> simp_all)
 have hok:=hI.done (by omega) (hfx hmf)
 have hdo:=Wc hV.psv (by omega) hok
 replace S:=S.recell (i:=0) rfl (cell':=lcl (dst P ps out help to.toNat)) (fun q j hq hj=>by unfold lcl;rw [nU hV.psv hok hq])
 exact ⟨_,_,rfl,hdo,(S.sel [0] G G)⟩
theorem yJ (P:Nat) (ps:List Psg) (PA:Option Addr) (pc:Nat) (xs:List Int) (XA:Option Addr) (xc:Nat) (out:Int) (help:Bool) (fr to:Int) (w:World) (hps:InS w noF 7 PA ps.length (pcell ps)) (hpn:ps.length≤9223372036854775807) (hxs:InS w noF 1 XA xs.length (icl xs)) (hxn:xs.length≤9223372036854775807) (hV:StV P ps xs) (hou:0≤out) (hfr:0≤fr∧fr<P) (hto:0≤to∧to<P) :
    Calls Tryz.prog 101 [.agg [.int .i64 (P:Int),.slice PA ps.length pc,.slice XA xs.length xc,.int .i64 out,.bool help].toArray,.int .i64 fr,.int .i64 to].toArray w (Ret (fun v w'=>v = .bool (decide (0≤dst P ps out help to.toNat fr.toNat))∧FarOk P ps out help to.toNat (dst P ps out help to.toNat)∧St w noF [] w')):=by
 refine enter Tryz.func101 rfl Tryz.ntmps101 rfl (fun a H=>?_)
 have S:=St.start w
 refine seq_list fun K1 k1=>?_
 refine aO H rfl S G G ?_;clear H a S;intro b3 _ a hb3 hbw3 S H
 refine ls 1 H<|sr 1 rfl<|sE ?_;clear H a;intro a H
 refine k1 _ _ ?_;clear k1 K1
 replace H:=H.keep [1,2,3] rfl
 refine seq_list fun K2 k2=>?_
 refine ls 2 H<|sd ((aC rV tI rfl S (i:=0) G G))<|sr 1 rfl<|sE ?_;clear H a;intro a H
 refine aA H G G Tryz.func104 G G (wF P ps PA pc xs XA xc out help to _ (hps.now S) hpn (hxs.now S) hxn hV hou hto) ?_;clear H a
 rintro _ _ a ⟨A5,c5,rfl,hdo,S2⟩ H
 replace S:=S.call S2;clear S2
 refine ls 5 H<|sr 1 rfl<|sI aT bA G G (ownM.adr S (i:=0) rfl (by omega)) (by omega) (by omega)<|slm aD rfl (ownM.rd S (i:=0) rfl (by omega) (by omega))<|sr 2 rfl<|sE ?_;clear H a;intro a H
 refine k2 _ _ ?_;clear k2 K2
 refine wp_ret ?_
 refine ret1 (fn:=Tryz.f101) rfl H rfl ?_
 exact ⟨rfl,hdo,(S.sel [] G G)⟩
theorem Dy (pl:Int) (ps:List Psg) (PA:Option Addr) (pc:Nat) (xs:List Int) (XA:Option Addr) (xc:Nat) (out:Int) (l:List Int) (LA:Option Addr) (lc:Nat) (w:World) (hps:InS w noF 7 PA ps.length (pcell ps)) (hpn:ps.length≤9223372036854775807) (hxs:InS w noF 1 XA xs.length (icl xs)) (hxn:xs.length≤9223372036854775807) (hl:InS w noF 1 LA l.length (icl l)) (hln:l.length≤9223372036854775807) :
    Calls Tryz.prog 103 [.agg [.int .i64 pl,.slice PA ps.length pc,.slice XA xs.length xc].toArray,.int .i64 out,.slice LA l.length lc].toArray w (Ret (fun v w'=>v = .int .i64 (askE pl ps xs out l)∧St w noF [] w')):=by
 refine enter Tryz.func103 rfl Tryz.ntmps103 rfl (fun a H=>?_)
 have S:=St.start w
 refine seq_list fun K1 k1=>?_
 refine aO H rfl S G G ?_;clear H a S;intro b3 _ a hb3 hbw3 S H
 refine ls 1 H<|sr 1 rfl<|sE ?_;clear H a;intro a H
 refine k1 _ _ ?_;clear k1 K1
 refine wp_seq_k fun K2 k2=>?_
 refine seq_list fun K3 k3=>?_
 refine ls 1 H<|sd ((aC cA cZ rfl S (i:=0) G G))<|sE ?_;clear H a;intro a H
 refine aA H G G Tryz.func43 G G (nV pl ps PA pc xs XA xc _ (hps.now S) hpn (hxs.now S) hxn) ?_;clear H a
 rintro _ _ a ⟨rfl,S2⟩ H
 replace S:=S.call S2;clear S2
 refine ls 1 H<|sr 1 rfl<|sE ?_;clear H a;intro a H
 refine k3 _ _ ?_;clear k3 K3
 refine sS H fun K4 k4=>sr 2 rfl<|sE ?_;clear H a;intro a H
 refine k4 _ ?_;clear k4 K4
 refine condN H rfl (fun hc1=>?_) (fun hc1=>?_)
 ·skip
  refine sS H fun K5 k5=>sr 2 rfl<|sE ?_;clear H a;intro a H
  refine k5 _ ?_;clear k5 K5
  refine wp_ret ?_
  refine ret1 (fn:=Tryz.f103) rfl H rfl ?_
  refine ⟨?_,(S.sel [] G G)⟩;unfold askE;rw [if_pos hc1]
 have hst:stE pl ps xs=0:=by omega
 refine wp_skip ?_
 refine k2 _ _ ?_
 refine wp_seq_k fun K6 k6=>?_
 replace H:=H.keep [1,2,3] rfl
 refine seq_list fun K7 k7=>?_
 refine ls 1 H<|sr 1 rfl<|sE ?_;clear H a;intro a H
 refine aA H G G Tryz.func44 G G (bZ _ _ _ _) ?_;clear H a
 rintro _ _ a ⟨rfl,rfl⟩ H
 refine ls 2 H<|sr 2 rfl<|sE ?_;clear H a;intro a H
 apply cG (i:=3) (g:=16) (t:=20) (b:=false) 4 H S G G (by kernel_rfl) (by kernel_rfl) G G
 case h1=>
  intro hg4
  refine ls 2 H<|sy hg4<|sd ((aC cA cZ rfl S (i:=0) G G))<|sy hg4<|sr 1 rfl<|sE ?_;intro a H
  refine dC H G G (by assumption) ?_
  refine aA H G G Tryz.func100 G G (uD pl ps PA pc xs XA xc l LA lc _ (hl.now S) hln (by have:=(gV hst).size;omega)) ?_
  rintro _ _ a ⟨rfl,S2⟩ H
  replace S:=S.call S2;clear S2
  refine ls 1 H<|sy hg4<|sr 1 rfl<|sE ?_;intro a H
  exact wpList_nil ⟨H.strip 4 G G,(S.sel [0] G G)⟩
 clear H a S;intro a _ H S
 refine ls 1 H<|so G G G<|sE ?_;clear H a;intro a H
 refine k7 _ _ ?_;clear k7 K7
 refine cond_ H rfl (fun hc2=>?_) (fun hc2=>?_)
 ·skip
  try simp only [o1,o2,o3,o4,o5,o6,o7,o8,o9,oa] at hc2
  replace H:=H.keep [] rfl
  refine sS H fun K8 k8=>sr 1 rfl<|sE ?_;clear H a;intro a H
  refine k8 _ ?_;clear k8 K8
  refine wp_ret ?_
  refine ret1 (fn:=Tryz.f103) rfl H rfl ?_
  refine ⟨?_,(S.sel [] rfl rfl)⟩;unfold askE;rw [if_neg (by omega),if_neg (by simp only [Bool.and_eq_true,decide_eq_true_eq];rcases hc2 with h|h <;> first|(intro h9;omega)|(rw [h];simp))]
 try simp only [o1,o2,o3,o4,o5,o6,o7,o8,o9,oa] at hc2
 refine wp_skip ?_
 refine k6 _ _ ?_
 refine sS H fun K9 k9=>sr 1 rfl<|sE ?_;clear H a;intro a H
 refine k9 _ ?_;clear k9 K9
 refine wp_ret ?_
 refine ret1 (fn:=Tryz.f103) rfl H rfl ?_
 refine ⟨?_,(S.sel [] G G)⟩;unfold askE;rw [if_neg (by omega),if_pos (by simp only [Bool.and_eq_true,decide_eq_true_eq];exact ⟨by omega,hc2.2⟩)]
theorem Av (pl:Int) (ps:List Psg) (PA:Option Addr) (pc:Nat) (xs:List Int) (XA:Option Addr) (xc:Nat) (out:Int) (help:Bool) (fr to:Int) (w:World) (hps:InS w noF 7 PA ps.length (pcell ps)) (hpn:ps.length≤9223372036854775807) (hxs:InS w noF 1 XA xs.length (icl xs)) (hxn:xs.length≤9223372036854775807) :
    Calls Tryz.prog 67 [.agg [.int .i64 pl,.slice PA ps.length pc,.slice XA xs.length xc].toArray,.int .i64 out,.bool help,.int .i64 fr,.int .i64 to].toArray w (Ret (fun u w'=>(askE pl ps xs out [fr,to]≠0∧u = .tuple #[.int .i64 0,.slice none 0 0,.int .i64 (askE pl ps xs out [fr,to])]∧St w noF [] w')∨(askE pl ps xs out [fr,to]=0∧FarOk pl.toNat ps out help to.toNat (dst pl.toNat ps out help to.toNat)∧((dst pl.toNat ps out help to.toNat fr.toNat<0∧u = .tuple #[.int .i64 0,.slice none 0 0,.int .i64 3]∧St w noF [] w')∨(0≤dst pl.toNat ps out help to.toNat fr.toNat∧∃ A c,u = .tuple #[.int .i64 (dst pl.toNat ps out help to.toNat fr.toNat),.slice A (wayL pl.toNat ps out help fr.toNat to.toNat).length c,.int .i64 0]∧St w noF [ownM 3 1 A (wayL pl.toNat ps out help fr.toNat to.toNat).length c (wcl (wayL pl.toNat ps out help fr.toNat to.toNat))] w'))))):=by
 refine enter Tryz.func67 rfl Tryz.ntmps67 rfl (fun a H=>?_)
 have S:=St.start w
 refine seq_list fun K1 k1=>?_
 refine aO H rfl S G G ?_;clear H a S;intro b5 _ a hb5 hbw5 S H
 refine ls 3 H<|sr 3 rfl<|sE ?_;clear H a;intro a H
 refine k1 _ _ ?_;clear k1 K1
 refine wp_seq_k fun K2 k2=>?_
 replace H:=H.keep [1,2,3,4,5,11] rfl
 refine seq_list fun K3 k3=>?_
 refine ls 4 H<|sd ((aC cA cZ rfl S (i:=0) G G))<|sr 3 rfl<|sE ?_;clear H a;intro a H
 refine aZ H rfl S aT bA fO G G G G G G G G G ?_;clear H a S;intro A1 _ a hA1 S H
 refine aA H G G Tryz.func103 G G (Dy pl ps PA pc xs XA xc out [fr,to] _ _ _ (hps.now S) hpn (hxs.now S) hxn ((ownM.inS S (i:=0) rfl).congr (fun k j hk hj=>wB k j hk hj)) (show 2≤9223372036854775807 by omega)) ?_;clear H a
 rintro _ _ a ⟨rfl,S2⟩ H
 replace S:=S.call S2;clear S2
 refine ls 1 H<|sr 1 rfl<|sE ?_;clear H a;intro a H
 refine k3 _ _ ?_;clear k3 K3
 refine sS H fun K4 k4=>sr 2 rfl<|sE ?_;clear H a;intro a H
 refine k4 _ ?_;clear k4 K4
 refine condN H rfl (fun hc1=>?_) (fun hc1=>?_)
 ·skip
  replace H:=H.keep [12] rfl
  refine sS H fun K5 k5=>sr 4 rfl<|sE ?_;clear H a;intro a H
  refine k5 _ ?_;clear k5 K5
  refine wp_ret ?_
  refine ret3 (fn:=Tryz.f67) rfl H G G G ?_
  exact .inl ⟨hc1,rfl,(S.sel [] G G)⟩
 obtain ⟨hst,hou,hpl⟩:=Rw hc1
 have hV0:=gV hst
 obtain ⟨P,rfl⟩:∃ P:Nat,pl=P:=⟨pl.toNat,by have:=hV0.size;omega⟩
 have hV:=hV0
 have hP10:=hV.size
 have hfr:0≤fr∧fr≤P-1:=hpl 0 (show 0<2 by omega)
 have hto:0≤to∧to≤P-1:=hpl 1 (show 1<2 by omega)
 obtain ⟨fr,rfl⟩:=Int.eq_ofNat_of_zero_le hfr.1
 obtain ⟨to,rfl⟩:=Int.eq_ofNat_of_zero_le hto.1
 refine wp_skip ?_
 refine k2 _ _ ?_
 replace H:=H.keep [1,2,3,4,5,11] rfl
 refine seq_list fun K6 k6=>?_
 refine ls 4 H<|sd ((aC cA cZ rfl S (i:=1) G G))<|sr 2 rfl<|sd (aN Mk G G)<|sE ?_;clear H a;intro a H
 refine aI H rfl S Md ?_;clear H a S;intro b13 _ a hb13 hbw13 S H
 refine aF H S (i:=0) G G G G tI G G ?_
 clear H a S;intro _ a S H
 refine k6 _ _ ?_;clear k6 K6
 replace H:=H.keep [3,4,5,11,13] rfl
 refine seq_list fun K7 k7=>?_
 refine ls 2 H<|sd ((aC rV tI rfl S (i:=0) G G))<|sr 1 rfl<|sE ?_;clear H a;intro a H
 refine aA H G G Tryz.func104 G G (wF P ps PA pc xs XA xc out help (to:Int) _ (hps.now S) hpn (hxs.now S) hxn hV hou.1 (by omega)) ?_;clear H a
 rintro _ _ a ⟨A5,c5,rfl,hdo,S2⟩ H
 replace S:=S.call S2;clear S2
 rw [Int.toNat_natCast] at hdo S
 refine ls 1 H<|sr 1 rfl<|sE ?_;clear H a;intro a H
 refine k7 _ _ ?_;clear k7 K7
 refine wp_seq_k fun K8 k8=>?_
 refine sS H fun K9 k9=>sr 2 rfl<|si aT bA G G (ownM.adr S (i:=0) rfl (by omega)) (by omega)<|slm aD rfl (ownM.rd S (i:=0) rfl (by omega) (by omega))<|sr 1 rfl<|sE ?_;clear H a;intro a H
 refine k9 _ ?_;clear k9 K9
 refine condL H rfl (fun hc2=>?_) (fun hc2=>?_)
 ·skip
  replace H:=H.keep [] rfl
  refine sS H fun K10 k10=>sr 3 rfl<|sE ?_;clear H a;intro a H
  refine k10 _ ?_;clear k10 K10
  refine wp_ret ?_
  refine ret3 (fn:=Tryz.f67) rfl H G G G ?_
  simp only [Int.toNat_natCast]
  exact .inr ⟨hc1,hdo,.inl ⟨hc2,trivial,(S.sel [] G G)⟩⟩
 refine wp_skip ?_
 refine k8 _ _ ?_
 refine wp_seq_k fun K11 k11=>?_
 refine sS H fun K12 k12=>sr 2 rfl<|sE ?_;clear H a;intro a H
 refine k12 _ ?_;clear k12 K12
 refine wp_block ?_
 replace S:=S.newNil 3 1 (wcl [])
 refine loop_st (X:=Nat×List Nat×Option Addr×Nat) (R0:=_) [3,4,5,13,14] H rfl (fun ⟨p,wl,A9,c9⟩=>[(11,.slice A9 wl.length c9),(15,.int .i64 (p:Int))]) (fun ⟨p,wl,A9,c9⟩=>[ownM 3 1 A9 wl.length c9 (wcl wl)]) (fun g ⟨p,wl,A9,c9⟩=>p<P∧0≤dst P ps out help to p∧dst P ps out help to p≤(g:Int)∧wl++wayG ps out help (dst P ps out help to) to g p=wayL P ps out help fr to) ((dst P ps out help to fr).toNat) (fr,[],none,0) ?_ (S.sel [0,1,2,3,4] G G) (H.keep [11,15,3,4,5,13,14] rfl) ?_
 · exact ⟨by omega,by omega,by omega,rfl⟩
 clear H S a
 intro g1 x1 a w1 hp S H K13 k13
 obtain ⟨p,wl,A9,c9⟩:=x1
 dsimp only at hp S H
 obtain ⟨hpP,hp0,hpg,hW⟩:=hp
 refine wp_seq_k fun K14 k14=>?_
 refine sS H fun K15 k15=>sr 3 rfl<|sE ?_;clear H a;intro a H
 refine k15 _ ?_;clear k15 K15
 refine condN H rfl (fun hc3=>?_) (fun hc3=>?_)
 ·skip
  refine wp_skip ?_
  refine k14 _ _ ?_
  refine wp_block ?_
  refine sS H fun K16 k16=>sf eO rfl<|sl S 4 fZ G G G<|sL fS rfl<|sr 1 rfl<|sE ?_;clear H a;intro a H
  refine k16 _ ?_;clear k16 K16
  refine wp_block ?_
  refine loop_st (X:=Nat) (R0:=_) [3,4,5,13,14,45,46] H rfl (fun k=>[(11,.slice A9 wl.length c9),(15,.int .i64 (p:Int)),(47,.int .i64 (k:Int))]) (fun k=>[]) (fun g k=>k≤ps.length∧g+k=ps.length∧∀ q,q<k→stepB ps out help (dst P ps out help to) p q=false) (ps.length) 0 ?_ (S.sel [0,1,2,3,4] G G) (H.keep [11,15,47,3,4,5,13,14,45,46] rfl) ?_
  · exact ⟨by omega,by omega,fun q hq=>absurd hq (Nat.not_lt_zero q)⟩
  clear H S a
  intro g2 x2 a w2 hp S H K17 k17
  obtain ⟨k,rfl⟩:∃ y,y=x2:=⟨_,rfl⟩
  refine sS H fun K18 k18=>sr 1 rfl<|sE ?_;clear H a;intro a H
  refine k18 _ ?_;clear k18 K18
  refine wp_seq_k fun K19 k19=>?_
  refine condL H rfl (fun hc4=>?_) (fun hc4=>?_)
  ·skip
   refine wp_skip ?_
   refine k19 _ _ ?_
   refine wp_seq_k fun K20 k20=>?_
   refine wp_block ?_
   refine seq_list fun K21 k21=>?_
   refine ls 3 H<|sr 1 rfl<|si fS eK G G (hps.adr (by omega)) (by omega)<|sd ((aW jM eK rfl S hps (by omega) (by omega)))<|sE ?_;clear H a;intro a H
   refine aI H rfl S rE ?_;clear H a S;intro b17 _ a hb17 hbw17 S H
   refine ls 1 H<|sr 1 rfl<|sE ?_;clear H a;intro a H
   refine aF H S (i:=0) G G G G eK G G ?_
   clear H a S;intro _ a S H
   refine k21 _ _ ?_;clear k21 K21
   replace H:=H.keep [3,4,5,11,13,14,15,16,17,45,46,47] rfl
   refine seq_list fun K22 k22=>?_
   refine ls 3 H<|sd ((aC rV tI rfl S (i:=3) G G))<|sd ((aC jM eK rfl S (i:=0) G G))<|sr 1 rfl<|sE ?_;clear H a;intro a H
   refine aA H G G Tryz.func105 G G (rH P ps PA pc xs XA xc out help (ps.getD k Psg.zero) (p:Int) _ (hV.mch k (by omega)) hou.1) ?_;clear H a
   rintro _ _ a ⟨rfl,S2⟩ H
   replace S:=S.call S2;clear S2
   have hoi:0≤oth out help (ps.getD k Psg.zero) (p:Int)→oth out help (ps.getD k Psg.zero) (p:Int)<P:=fun h=>(qO hV.psv (show k<ps.length by omega) h).2.1
   have htb:=(hV.psv k (by omega)).2.2
   refine ls 1 H<|sr 1 rfl<|sE ?_;clear H a;intro a H
   refine k22 _ _ ?_;clear k22 K22
   replace H:=H.keep [3,4,5,11,13,14,15,16,17,18,45,46,47] rfl
   replace S:=S.drew
   refine sD H fun K23 k23=>sr 3 rfl<|sg 5 2 58 63 true G G (fun hg3=>by
       have hq3:=hg3;try simp only [o1,o2,o3,o4,o5,o6,o7,o8,o9,oa] at hq3
       exact sy hg3<|sr 1 rfl<|sy hg3<|sr 1 rfl<|sy hg3<|sI aT bA G G (ownM.adr S (i:=2) rfl (by omega)) (by omega) (by omega)<|sy hg3<|slm aD rfl (ownM.rd S (i:=2) rfl (by omega) (by omega))<|sy hg3<|sr 1 rfl<|sz 5 G G G)<|sa G G G<|sr 1 rfl<|sg 12 9 65 77 true G G (fun hg10=>by
       have hq10:=hg10;try simp only [o1,o2,o3,o4,o5,o6,o7,o8,o9,oa] at hq10
       have hsm:=hdo.sml (oth out help (ps.getD k Psg.zero) p).toNat (by omega)
       exact sy hg10<|sr 1 rfl<|sy hg10<|sr 1 rfl<|sy hg10<|sI aT bA G G (ownM.adr S (i:=2) rfl (by omega)) (by omega) (by omega)<|sy hg10<|slm aD rfl (ownM.rd S (i:=2) rfl (by omega) (by omega))<|sy hg10<|sf oT rfl<|sy hg10<|sl S 0 aD G G G<|sy hg10<|sd (aK G G (by unfold i64ok;omega))<|sy hg10<|sr 1 rfl<|sy hg10<|sr 1 rfl<|sy hg10<|si aT bA G G (ownM.adr S (i:=2) rfl (by omega)) (by omega)<|sy hg10<|slm aD rfl (ownM.rd S (i:=2) rfl (by omega) (by omega))<|sy hg10<|sr 1 rfl<|sz 12 G G G)<|sa G G G<|sE ?_;clear H a;intro a H
   refine k23 _ ?_;clear k23 K23
   refine cond_ H rfl (fun hc5=>?_) (fun hc5=>?_)
   ·skip
    try simp only [o1,o2,o3,o4,o5,o6,o7,o8,o9,oa] at hc5
    have hsb:=Ry hc5
    obtain ⟨b,hb,hbP,hb0,hbd,hbt⟩:=yG hV.psv (by omega) hsb
    have hsk:=Rv hp.2.2 hsb (by omega)
    have hwl:wl.length≤200:=by have:=Mw (ps:=ps) (out:=out) (help:=help) (d:=dst P ps out help to) (to:=to) (dst P ps out help to fr).toNat fr;have h8:=hdo.sml fr (by omega);have h9:=congrArg List.length hW;rw [List.length_append] at h9;unfold wayL at h9;omega
    rw [hb] at H
    replace H:=H.keep [3,4,5,11,13,14,16,18] rfl
    refine seq_list fun K24 k24=>?_
    refine ls 2 H<|sr 2 rfl<|sE ?_;clear H a;intro a H
    refine aZ H rfl S aT bA fO G G G G G G G G G ?_;clear H a S;intro A2 _ a hA2 S H
    refine bW H rfl S aT bA fO oY G G (i:=2) G G G (ownM.inS S (i:=0) rfl) (mA (w8one rfl)) (by omega) (by omega) ?_;clear H a S;intro A3 c3 _ a S H
    replace S:=S.recell (i:=2) rfl (cell':=wcl (wl++[k])) (fun k j hk hj=>Aq rfl k j hk hj)
    rw [show wl.length+1=(wl++[k]).length by simp] at H S
    refine ls 1 H<|sr 1 rfl<|sE ?_;clear H a;intro a H
    refine k24 _ _ ?_;clear k24 K24
    refine sS H fun K25 k25=>sr 2 rfl<|sE ?_;clear H a;intro a H
    refine k25 _ ?_;clear k25 K25
    refine wp_exit ?_
    exact k13 (g1-1) (b,wl++[k],_,_) a _ (by omega) (⟨hbP,hb0,by omega,Mx hW (by omega) (by omega) hsk hb⟩) (S.sel [2,3,4,5,6] G G) (H.keep [11,15,3,4,5,13,14] rfl)
   try simp only [o1,o2,o3,o4,o5,o6,o7,o8,o9,oa] at hc5
   refine wp_skip ?_
   refine k20 _ _ ?_
   refine sO H<|sd (aK G G (by unfold i64ok;omega))<|sr 1 rfl<|sE ?_;clear H a;intro a H
   exact k17 (g2-1) (k+1) a _ (by omega) (⟨by omega,by omega,Sa hp.2.2 (Rz hc5)⟩) (S.sel [1,2,3,4,5] G G) (H.keep [11,15,47,3,4,5,13,14,45,46] rfl)
  exfalso
  obtain ⟨h91,h92,h93⟩:=hdo.stp hV.psv hpP hp0 (by omega)
  rw [hp.2.2 _ (by omega)] at h92
  cases h92
 refine wp_exit ?_
 refine k11 _ _ ?_
 replace H:=H.keep [3,11,14] rfl
 refine sS H fun K27 k27=>sr 2 rfl<|si aT bA G G (ownM.adr S (i:=1) rfl (by omega)) (by omega)<|slm aD rfl (ownM.rd S (i:=1) rfl (by omega) (by omega))<|sr 4 rfl<|sE ?_;clear H a;intro a H
 refine k27 _ ?_;clear k27 K27
 refine wp_ret ?_
 refine ret3 (fn:=Tryz.f67) rfl H G G G ?_
 obtain rfl:p=to:=by omega
 have hw9:=Rx hW
 simp only [Int.toNat_natCast]
 rw [←hw9]
 exact .inr ⟨hc1,hdo,.inr ⟨hc2,_,_,rfl,(S.sel [0] G G)⟩⟩
end
section
section
variable {ps:List Psg} {out:Int} {help:Bool} {l:List Int} {a b:Int} {k:Nat} {s:Int×Int}
end
theorem Wk.snoc {ps:List Psg} {out:Int} {help:Bool} {a b n k c:Nat} {l:List Nat} (W:Wk ps out help a b n l):k<ps.length→oth out help (ps.getD k Psg.zero) b=(c:Int)→1≤(ps.getD k Psg.zero).ticks→Wk ps out help a c (n+(ps.getD k Psg.zero).ticks.toNat) (l++[k]):=by
  induction W with
  | nil a=>
    intro hk ho ht
    have:=Wk.cons hk ho (Wk.nil c)
    rw [Nat.zero_add]
    exact this
  | @cons a b c' n k' l' hk' ho' _ ih=>
    intro hk ho ht
    have:=Wk.cons hk' ho' (ih hk ho ht)
    rw [Nat.add_assoc]
    exact this
section
variable {P:Nat} {ps:List Psg} {xs:List Int} {out:Int} {help:Bool} {fr to:Nat} {l:List Int}
end
structure Hr where
  out:Int
  help:Bool
  pe:List Int
  A:Option Addr
  c:Nat
def Hr.zero:Hr:=⟨0,false,[],none,0⟩
def Hr.cell (h:Hr):Nat→Value
  | 0 => .int .i64 h.out
  | 1 => .bool h.help
  | _ => .slice h.A h.pe.length h.c
structure Hq where
  out:Int
  help:Bool
  pe:List Int
def Hq.zero:Hq:=⟨0,false,[]⟩
def Hr.q (h:Hr):Hq:=⟨h.out,h.help,h.pe⟩
def hcl (l:List Hq) (DA:Nat→Option Addr) (dc:Nat→Nat) (k:Nat):Nat→Value
  | 0 => .int .i64 (l.getD k Hq.zero).out
  | 1 => .bool (l.getD k Hq.zero).help
  | _ => .slice (DA k) (l.getD k Hq.zero).pe.length (dc k)
structure Prm where
  fr:Int
  to:Int
  first:Int
  last:Int
  helped:Bool
def Prm.zero:Prm:=⟨0,0,0,0,false⟩
def Prm.cell (p:Prm):Nat→Value
  | 0 => .int .i64 p.fr
  | 1 => .int .i64 p.to
  | 2 => .int .i64 p.first
  | 3 => .int .i64 p.last
  | _ => .bool p.helped
def nW (l:List Prm) (k j:Nat):Value:=(l.getD k Prm.zero).cell j
def hqOk (pl:Int) (h:Hq):Bool:=decide (0≤h.out∧h.out≤4095)&&eG pl h.pe
def dayOk (pl:Int) (day:List Hq):Bool:=allN (fun k=>hqOk pl (day.getD k Hq.zero)) day.length&&decide (day.length≤48)
def dayE (pl:Int) (ps:List Psg) (xs:List Int) (day:List Hq):Int:=if stE pl ps xs≠0 then stE pl ps xs else if dayOk pl day=true then 0 else 81
def prmOk (pl:Int) (p:Prm):Bool:=decide (0≤p.fr∧p.fr≤pl-1∧0≤p.to∧p.to≤pl-1∧0≤p.first∧p.first≤p.last∧p.last<48)
def prsOk (pl:Int) (l:List Prm):Bool:=allN (fun k=>prmOk pl (l.getD k Prm.zero)) l.length&&decide (l.length≤40)
def keptE (pl:Int) (ps:List Psg) (xs:List Int) (day:List Hq) (l:List Prm):Int:=if dayE pl ps xs day≠0 then dayE pl ps xs day else if prsOk pl l=true then 0 else 82
theorem pE {pl:Int} {ps:List Psg} {xs:List Int} {day:List Hq} (h:dayE pl ps xs day=0):stE pl ps xs=0∧dayOk pl day=true:=by
  unfold dayE at h
  split at h
  · omega
  · split at h
    · exact ⟨by omega,by assumption⟩
    · cases h
theorem Np {pl:Int} {day:List Hq} (h:dayOk pl day=true):day.length≤48∧∀ k,k<day.length→(0≤(day.getD k Hq.zero).out∧(day.getD k Hq.zero).out≤4095)∧eG pl (day.getD k Hq.zero).pe=true:=by
  unfold dayOk at h
  simp only [Bool.and_eq_true,decide_eq_true_eq] at h
  refine ⟨h.2,fun k hk=>?_⟩
  have:=bX.1 h.1 k hk
  unfold hqOk at this
  simpa using this
theorem pF {pl:Int} {ps:List Psg} {xs:List Int} {day:List Hq} {l:List Prm} (h:keptE pl ps xs day l=0):dayE pl ps xs day=0∧l.length≤40∧∀ k,k<l.length→prmOk pl (l.getD k Prm.zero)=true:=by
  unfold keptE at h
  split at h
  · omega
  · split at h
    · rename_i h1 h2
      unfold prsOk at h2
      simp only [Bool.and_eq_true,decide_eq_true_eq] at h2
      exact ⟨by omega,h2.2,bX.1 h2.1⟩
    · cases h
theorem mX {pl:Int} {p:Prm}:prmOk pl p=true↔(0≤p.fr∧p.fr≤pl-1∧0≤p.to∧p.to≤pl-1∧0≤p.first∧p.first≤p.last∧p.last<48):=by unfold prmOk;rw [decide_eq_true_eq]
noncomputable def fP (P:Nat) (ps:List Psg) (h:Hq) (n:Nat) (p:Prm):Bool:=(decide (p.first≤(n:Int))&&decide ((n:Int)≤p.last))&&decide (dst P ps h.out (h.help&&p.helped) p.to.toNat p.fr.toNat<0)
noncomputable def pG (P:Nat) (ps:List Psg) (day:List Hq) (l:List Prm) (h:Nat):Nat:=fstB (fun i=>fP P ps (day.getD h Hq.zero) h (l.getD i Prm.zero)) l.length
noncomputable def uE (P:Nat) (ps:List Psg) (day:List Hq) (l:List Prm):Nat:=fstB (fun h=>decide (pG P ps day l h<l.length)) day.length
noncomputable def keptV (pl:Int) (ps:List Psg) (xs:List Int) (day:List Hq) (l:List Prm):Int×Int×Bool×Int:=
  if keptE pl ps xs day l≠0 then (0,0,false,keptE pl ps xs day l)
  else if uE pl.toNat ps day l<day.length then ((uE pl.toNat ps day l:Int),(pG pl.toNat ps day l (uE pl.toNat ps day l):Int),false,0) else (0,0,true,0)
section
variable {P:Nat} {ps:List Psg} {xs:List Int} {day:List Hq} {l:List Prm} {h i:Nat}
theorem pH {pl:Int} (he:keptE pl ps xs day l≠0):keptV pl ps xs day l=(0,0,false,keptE pl ps xs day l):=by unfold keptV;rw [if_pos he]
theorem Sf (he:keptE P ps xs day l=0) (hh:h<day.length) (hi:i<l.length) (h1:∀ q,q<h→∀ j,j<l.length→fP P ps (day.getD q Hq.zero) q (l.getD j Prm.zero)=false) (h2:∀ j,j<i→fP P ps (day.getD h Hq.zero) h (l.getD j Prm.zero)=false)
    (hb:fP P ps (day.getD h Hq.zero) h (l.getD i Prm.zero)=true):keptV P ps xs day l=((h:Int),(i:Int),false,0):=by
  have e1:pG P ps day l h=i:=yC h2 hb hi
  have e2:uE P ps day l=h:=yC (fun q hq=>decide_eq_false (by unfold pG;rw [kR (h1 q hq)];omega)) (decide_eq_true (by rw [e1];exact hi)) hh
  unfold keptV
  rw [if_neg (by omega),Int.toNat_natCast,e2,if_pos hh,e1]
theorem Nq (he:keptE P ps xs day l=0) (h1:∀ q,q<day.length→∀ j,j<l.length→fP P ps (day.getD q Hq.zero) q (l.getD j Prm.zero)=false):keptV P ps xs day l=(0,0,true,0):=by
  have e2:uE P ps day l=day.length:=kR (fun q hq=>decide_eq_false (by unfold pG;rw [kR (h1 q hq)];omega))
  unfold keptV
  rw [if_neg (by omega),Int.toNat_natCast,e2,if_neg (by omega)]
theorem uF {pl:Int} {k:Nat} (hk:k<day.length) (hx:hqOk pl (day.getD k Hq.zero)=false):dayOk pl day=false:=by unfold dayOk;rw [gC hk hx];rfl
theorem Aw {pl:Int} (h1:allN (fun k=>hqOk pl (day.getD k Hq.zero)) day.length=true):dayOk pl day=decide (day.length≤48):=by unfold dayOk;rw [h1];rfl
theorem Ij (h1:∀ q,q<h→∀ j,j<l.length→fP P ps (day.getD q Hq.zero) q (l.getD j Prm.zero)=false) (h2:∀ j,j<i→fP P ps (day.getD h Hq.zero) h (l.getD j Prm.zero)=false) (hi:l.length≤i) :
    ∀ q,q<h+1→∀ j,j<l.length→fP P ps (day.getD q Hq.zero) q (l.getD j Prm.zero)=false:=fun q hq j hj=>by
  by_cases e:q=h
  · subst e;exact h2 j (by omega)
  · exact h1 q (by omega) j hj
theorem Sg {f:Nat→Bool} (h:∀ j,j<i→f j=false) (hi:f i=false):∀ j,j<i+1→f j=false:=fun j hj=>by
  by_cases e:j=i
  · subst e;exact hi
  · exact h j (by omega)
end
section
variable {w w0:World} {F0:Nat→Prop} {R:List Mem} {e sz i k:Nat} {A:Nat→Option Addr} {n c:Nat→Nat} {cell:Nat→Nat→Nat→Value}
theorem ragM.none (S:St w0 F0 R w) (e sz:Nat) (A:Nat→Option Addr) (n c:Nat→Nat) (cell:Nat→Nat→Nat→Value):St w0 F0 (ragM e sz (fun q=>q<0) A n c cell::R) w:=
  S.new (Keeps.refl _ _) ⟨fun q hq=>absurd hq (Nat.not_lt_zero q),fun q _ hq=>absurd hq (Nat.not_lt_zero q)⟩ (fun b ⟨q,hq,_⟩=>absurd hq (Nat.not_lt_zero q))
theorem ragM.add {A':Option Addr} {n' c':Nat} {cell':Nat→Nat→Value} (S:St w0 F0 (ownM e sz A' n' c' cell'::R) w) (hi:R[i]?=some (ragM e sz (fun q=>q<k) A n c cell)) :
    St w0 F0 (R.set i (ragM e sz (fun q=>q<k+1) (upd A k A') (upd n k n') (upd c k c') (upd cell k cell'))) w:=by
  have e1:(fun q=>q<k)=(fun q=>q<k+1∧q≠k):=by funext q;exact propext ⟨fun h=>by omega,fun h=>by omega⟩
  rw [e1] at hi
  exact ragM.put (D:=fun q=>q<k+1) S hi (by omega)
theorem ragM.recell {n':Nat→Nat} {A':Nat→Option Addr} {c':Nat→Nat} {cell':Nat→Nat→Nat→Value} {D:Nat→Prop} (S:St w0 F0 R w) (hi:R[i]?=some (ragM e sz D A n c cell)) (h:∀ q,D q→A q=A' q∧n q=n' q∧c q=c' q∧cell q=cell' q):St w0 F0 (R.set i (ragM e sz D A' n' c' cell')) w:=by
  have hrow:∀ q,D q→ownM e sz (A' q) (n' q) (c' q) (cell' q)=ownM e sz (A q) (n q) (c q) (cell q):=fun q hq=>by obtain ⟨h1,h2,h3,h4⟩:=h q hq;rw [h1,h2,h3,h4]
  refine S.imp hi (fun ⟨h1,h2⟩=>⟨fun q hq=>by rw [hrow q hq];exact h1 q hq,fun q r hq hr hqr b hb hb'=>?_⟩) ?_
  · rw [hrow q hq] at hb;rw [hrow r hr] at hb';exact h2 q r hq hr hqr b hb hb'
  · rintro b ⟨q,hq,hb⟩;rw [hrow q hq] at hb;exact ⟨q,hq,hb⟩
end
end
section
theorem uG {pl a b:Int}:plOk pl [a,b]=true↔(0≤a∧a≤pl-1)∧(0≤b∧b≤pl-1):=by
  unfold plOk
  rw [bX]
  constructor
  · intro h
    have h0:=h 0 (show 0<2 by omega)
    have h1:=h 1 (show 1<2 by omega)
    exact ⟨of_decide_eq_true h0,of_decide_eq_true h1⟩
  · rintro ⟨h0,h1⟩ k hk
    match k,hk with
    | 0,_=>exact decide_eq_true h0
    | 1,_=>exact decide_eq_true h1
theorem Dz {pl a b:Int} (h:plOk pl [a,b]=false):¬ ((0≤a∧a≤pl-1)∧(0≤b∧b≤pl-1)):=fun h2=>by rw [uG.2 h2] at h;cases h
section
variable {pl:Int} {ps:List Psg} {xs:List Int} {day:List Hq} {l:List Prm}
theorem uH (h:stE pl ps xs≠0):keptE pl ps xs day l=stE pl ps xs:=by
  have:dayE pl ps xs day=stE pl ps xs:=by unfold dayE;rw [if_pos h]
  unfold keptE;rw [this,if_pos h]
theorem wG (h:stE pl ps xs=0) (hd:dayOk pl day=false):keptE pl ps xs day l=81:=by
  have:dayE pl ps xs day=81:=by unfold dayE;rw [if_neg (by omega),if_neg (by rw [hd];simp)]
  unfold keptE;rw [this];rfl
theorem wH (h:stE pl ps xs=0) (hd:dayOk pl day=true):dayE pl ps xs day=0:=by unfold dayE;rw [if_neg (by omega),if_pos hd]
theorem mY (h:dayE pl ps xs day=0) (hd:prsOk pl l=false):keptE pl ps xs day l=82:=by unfold keptE;rw [if_neg (by omega),if_neg (by rw [hd];simp)]
theorem uI (h:dayE pl ps xs day=0) (hd:prsOk pl l=true):keptE pl ps xs day l=0:=by unfold keptE;rw [if_neg (by omega),if_pos hd]
theorem Ax (h:¬ l.length≤40):prsOk pl l=false:=by unfold prsOk;rw [decide_eq_false h,Bool.and_false]
theorem Fu {k:Nat} (hk:k<l.length) (h:prmOk pl (l.getD k Prm.zero)=false):prsOk pl l=false:=by unfold prsOk;rw [gC hk h];rfl
theorem Fv (h:allN (fun k=>prmOk pl (l.getD k Prm.zero)) l.length=true) (h2:l.length≤40):prsOk pl l=true:=by unfold prsOk;rw [h,decide_eq_true h2];rfl
theorem Nr {p:Prm} (h:¬ (0≤p.fr∧p.fr≤pl-1∧0≤p.to∧p.to≤pl-1∧0≤p.first∧p.first≤p.last∧p.last<48)):prmOk pl p=false:=by unfold prmOk;exact decide_eq_false h
theorem Ns {P:Nat} {h:Hq} {n:Nat} {p:Prm} (h1:p.first≤(n:Int)∧(n:Int)≤p.last) (h2:dst P ps h.out (h.help&&p.helped) p.to.toNat p.fr.toNat<0):fP P ps h n p=true:=by
  unfold fP;rw [decide_eq_true h1.1,decide_eq_true h1.2,decide_eq_true h2];rfl
theorem Ik {P:Nat} {h:Hq} {n:Nat} {p:Prm} (h1:¬ (p.first≤(n:Int)∧(n:Int)≤p.last)):fP P ps h n p=false:=by
  unfold fP
  by_cases h2:p.first≤(n:Int)
  · rw [decide_eq_false (p:=(n:Int)≤p.last) (by omega),Bool.and_false];rfl
  · rw [decide_eq_false h2];rfl
theorem Il {P:Nat} {h:Hq} {n:Nat} {p:Prm} (h2:¬ dst P ps h.out (h.help&&p.helped) p.to.toNat p.fr.toNat<0):fP P ps h n p=false:=by
  unfold fP;rw [decide_eq_false h2,Bool.and_false]
end
theorem Ea (pl:Int) (ps:List Psg) (PA:Option Addr) (pc:Nat) (xs:List Int) (XA:Option Addr) (xc:Nat) (day:List Hq) (HA:Option Addr) (hcp:Nat) (DA:Nat→Option Addr) (dc:Nat→Nat) (w:World) (hps:InS w noF 7 PA ps.length (pcell ps)) (hpn:ps.length≤9223372036854775807) (hxs:InS w noF 1 XA xs.length (icl xs)) (hxn:xs.length≤9223372036854775807) (hday:InS w noF 3 HA day.length (hcl day DA dc)) (hdn:day.length≤9223372036854775807) (hdp:∀ k,k<day.length→InS w noF 1 (DA k) (day.getD k Hq.zero).pe.length (icl (day.getD k Hq.zero).pe)) (hdl:∀ k,k<day.length→(day.getD k Hq.zero).pe.length≤9223372036854775807) :
    Calls Tryz.prog 99 [.agg [.int .i64 pl,.slice PA ps.length pc,.slice XA xs.length xc].toArray,.slice HA day.length hcp].toArray w (Ret (fun v w'=>v = .bool (dayOk pl day)∧St w noF [] w')):=by
 refine enter Tryz.func99 rfl Tryz.ntmps99 rfl (fun a H=>?_)
 have S:=St.start w
 refine seq_list fun K1 k1=>?_
 refine aO H rfl S G G ?_;clear H a S;intro b2 _ a hb2 hbw2 S H
 refine ls 1 H<|sr 1 rfl<|sE ?_;clear H a;intro a H
 refine k1 _ _ ?_;clear k1 K1
 refine wp_seq_k fun K2 k2=>?_
 refine sS H fun K3 k3=>sr 1 rfl<|sL kH rfl<|sr 1 rfl<|sE ?_;clear H a;intro a H
 refine k3 _ ?_;clear k3 K3
 refine wp_block ?_
 refine loop_st (X:=Nat) (R0:=_) [1,2,7,8] H rfl (fun k=>[(9,.int .i64 (k:Int))]) (fun k=>[]) (fun g k=>k≤day.length∧g+k=day.length∧allN (fun k=>hqOk pl (day.getD k Hq.zero)) k=true) (day.length) 0 ?_ (S.sel [0] G G) (H.keep [9,1,2,7,8] rfl) ?_
 · exact ⟨by omega,by omega,rfl⟩
 clear H S a
 intro g1 x1 a w1 hp S H K4 k4
 obtain ⟨k,rfl⟩:∃ y,y=x1:=⟨_,rfl⟩
 refine sS H fun K5 k5=>sr 1 rfl<|sE ?_;clear H a;intro a H
 refine k5 _ ?_;clear k5 K5
 refine wp_seq_k fun K6 k6=>?_
 refine condL H rfl (fun hc1=>?_) (fun hc1=>?_)
 ·skip
  refine wp_skip ?_
  refine k6 _ _ ?_
  refine wp_seq_k fun K7 k7=>?_
  refine wp_block ?_
  refine seq_list fun K8 k8=>?_
  refine ls 2 H<|si kH lB G G (hday.adr (by omega)) (by omega)<|sd ((aW Fc lB rfl S hday (by omega) (by omega)))<|sE ?_;clear H a;intro a H
  refine aI H rfl S Mc ?_;clear H a S;intro b6 _ a hb6 hbw6 S H
  refine aF H S (i:=0) G G G G lB G G ?_
  clear H a S;intro _ a S H
  refine k8 _ _ ?_;clear k8 K8
  replace H:=H.keep [1,2,6,7,8,9] rfl
  refine seq_list fun K9 k9=>?_
  refine ls 2 H<|sf oX rfl<|sl S 0 aD G G G<|sE ?_;clear H a;intro a H
  refine aA H G G Tryz.func44 G G (bZ _ _ _ _) ?_;clear H a
  rintro _ _ a ⟨rfl,rfl⟩ H
  refine ls 2 H<|sr 2 rfl<|sE ?_;clear H a;intro a H
  apply cG (i:=4) (g:=17) (t:=22) (b:=false) 5 H S G G (by kernel_rfl) (by kernel_rfl) G G
  case h1=>
   intro hg5
   have hq5:=hg5;try simp only [o1,o2,o3,o4,o5,o6,o7,o8,o9,oa] at hq5
   refine ls 3 H<|sy hg5<|sd ((aC cA cZ rfl S (i:=1) G G))<|sy hg5<|sf Aj rfl<|sy hg5<|sl S 0 bM G G G<|sE ?_;intro a H
   refine dC H G G (by assumption) ?_
   refine aA H G G Tryz.func45 G G (uC pl ps PA pc xs XA xc (day.getD k Hq.zero).pe (DA k) (dc k) _ ((hdp k (by omega)).now S) (hdl k (by omega))) ?_
   rintro _ _ a ⟨rfl,S2⟩ H
   replace S:=S.call S2;clear S2
   refine ls 1 H<|sy hg5<|sr 1 rfl<|sE ?_;intro a H
   exact wpList_nil ⟨H.strip 5 G G,(S.sel [0,1] G G)⟩
  clear H a S;intro a _ H S
  refine ls 1 H<|so G G G<|sE ?_;clear H a;intro a H
  refine k9 _ _ ?_;clear k9 K9
  refine cond_ H rfl (fun hc2=>?_) (fun hc2=>?_)
  ·skip
   try simp only [o1,o2,o3,o4,o5,o6,o7,o8,o9,oa] at hc2
   replace H:=H.keep [] rfl
   refine sS H fun K10 k10=>sr 1 rfl<|sE ?_;clear H a;intro a H
   refine k10 _ ?_;clear k10 K10
   refine wp_ret ?_
   refine ret1 (fn:=Tryz.f99) rfl H rfl ?_
   exact ⟨congrArg Value.bool (uF (k:=k) (by omega) (by unfold hqOk;rcases hc2 with h|h;(rw [decide_eq_false (by omega)];rfl);(rw [h,Bool.and_false]))).symm,(S.sel [] rfl rfl)⟩
  try simp only [o1,o2,o3,o4,o5,o6,o7,o8,o9,oa] at hc2
  refine wp_skip ?_
  refine k7 _ _ ?_
  refine sO H<|sd (aK G G (by unfold i64ok;omega))<|sr 1 rfl<|sE ?_;clear H a;intro a H
  exact k4 (g1-1) (k+1) a _ (by omega) (⟨by omega,by omega,cK hp.2.2 (by unfold hqOk;rw [decide_eq_true (by omega),hc2.2];rfl)⟩) (S.sel [1] G G) (H.keep [9,1,2,7,8] rfl)
 refine wp_exit ?_
 refine k2 _ _ ?_
 refine sS H fun K12 k12=>sr 1 rfl<|sL kH rfl<|sr 2 rfl<|sE ?_;clear H a;intro a H
 refine k12 _ ?_;clear k12 K12
 refine wp_ret ?_
 refine ret1 (fn:=Tryz.f99) rfl H rfl ?_
 obtain rfl:k=day.length:=by omega
 refine ⟨congrArg Value.bool ?_,(S.sel [] G G)⟩
 rw [Aw hp.2.2]
 exact decide_eq_decide.2 (by omega)
theorem Im (pl:Int) (ps:List Psg) (PA:Option Addr) (pc:Nat) (xs:List Int) (XA:Option Addr) (xc:Nat) (day:List Hq) (HA:Option Addr) (hcp:Nat) (DA:Nat→Option Addr) (dc:Nat→Nat) (l:List Prm) (LA:Option Addr) (lc:Nat) (w:World) (hps:InS w noF 7 PA ps.length (pcell ps)) (hpn:ps.length≤9223372036854775807) (hxs:InS w noF 1 XA xs.length (icl xs)) (hxn:xs.length≤9223372036854775807) (hday:InS w noF 3 HA day.length (hcl day DA dc)) (hdn:day.length≤9223372036854775807) (hdp:∀ k,k<day.length→InS w noF 1 (DA k) (day.getD k Hq.zero).pe.length (icl (day.getD k Hq.zero).pe)) (hdl:∀ k,k<day.length→(day.getD k Hq.zero).pe.length≤9223372036854775807) (hl:InS w noF 5 LA l.length (nW l)) (hln:l.length≤9223372036854775807) :
    Calls Tryz.prog 65 [.agg [.int .i64 pl,.slice PA ps.length pc,.slice XA xs.length xc].toArray,.slice HA day.length hcp,.slice LA l.length lc].toArray w (Ret (fun u w'=>u = .tuple #[.int .i64 (keptV pl ps xs day l).1,.int .i64 (keptV pl ps xs day l).2.1,.bool (keptV pl ps xs day l).2.2.1,.int .i64 (keptV pl ps xs day l).2.2.2]∧St w noF [] w')):=by
 refine enter Tryz.func65 rfl Tryz.ntmps65 rfl (fun a H=>?_)
 have S:=St.start w
 refine seq_list fun K1 k1=>?_
 refine aO H rfl S G G ?_;clear H a S;intro b3 _ a hb3 hbw3 S H
 refine ls 4 H<|sr 4 rfl<|sE ?_;clear H a;intro a H
 refine k1 _ _ ?_;clear k1 K1
 refine wp_seq_k fun K2 k2=>?_
 refine seq_list fun K3 k3=>?_
 refine ls 1 H<|sd ((aC cA cZ rfl S (i:=0) G G))<|sE ?_;clear H a;intro a H
 refine aA H G G Tryz.func43 G G (nV pl ps PA pc xs XA xc _ (hps.now S) hpn (hxs.now S) hxn) ?_;clear H a
 rintro _ _ a ⟨rfl,S2⟩ H
 replace S:=S.call S2;clear S2
 refine ls 1 H<|sr 1 rfl<|sE ?_;clear H a;intro a H
 refine k3 _ _ ?_;clear k3 K3
 replace H:=H.keep [1,2,3,9] rfl
 refine sS H fun K4 k4=>sr 2 rfl<|sE ?_;clear H a;intro a H
 refine k4 _ ?_;clear k4 K4
 refine condN H rfl (fun hc1=>?_) (fun hc1=>?_)
 ·skip
  refine sS H fun K5 k5=>sr 5 rfl<|sE ?_;clear H a;intro a H
  refine k5 _ ?_;clear k5 K5
  refine wp_ret ?_
  refine ret4 (fn:=Tryz.f65) rfl H G G G G ?_
  rw [pH (by rw [uH hc1];exact hc1),uH hc1]
  exact ⟨rfl,(S.sel [] G G)⟩
 have hst:stE pl ps xs=0:=by omega
 have hV0:=gV hst
 obtain ⟨P,rfl⟩:∃ P:Nat,pl=P:=⟨pl.toNat,by have:=hV0.size;omega⟩
 have hV:=hV0
 have hP10:=hV.size
 refine wp_skip ?_
 refine k2 _ _ ?_
 refine wp_seq_k fun K6 k6=>?_
 replace H:=H.keep [1,2,3] rfl
 refine seq_list fun K7 k7=>?_
 refine ls 2 H<|sd ((aC cA cZ rfl S (i:=0) G G))<|sr 1 rfl<|sE ?_;clear H a;intro a H
 refine aA H G G Tryz.func99 G G (Ea P ps PA pc xs XA xc day HA hcp DA dc _ (hps.now S) hpn (hxs.now S) hxn (hday.now S) hdn (fun k hk=>(hdp k hk).now S) hdl) ?_;clear H a
 rintro _ _ a ⟨rfl,S2⟩ H
 replace S:=S.call S2;clear S2
 refine ls 1 H<|sr 1 rfl<|sE ?_;clear H a;intro a H
 refine k7 _ _ ?_;clear k7 K7
 refine cond_ H rfl (fun hc2=>?_) (fun hc2=>?_)
 ·skip
  try simp only [o1,o2,o3,o4,o5,o6,o7,o8,o9,oa] at hc2
  refine sS H fun K8 k8=>sr 4 rfl<|sE ?_;clear H a;intro a H
  refine k8 _ ?_;clear k8 K8
  refine wp_ret ?_
  refine ret4 (fn:=Tryz.f65) rfl H G G G G ?_
  rw [pH (by rw [wG hst hc2];decide),wG hst hc2]
  exact ⟨rfl,(S.sel [] G G)⟩
 try simp only [o1,o2,o3,o4,o5,o6,o7,o8,o9,oa] at hc2
 have hdE:=wH hst hc2
 have hdk:=Np hc2
 refine wp_skip ?_
 refine k6 _ _ ?_
 refine wp_seq_k fun K9 k9=>?_
 replace H:=H.keep [1,2,3] rfl
 refine sS H fun K10 k10=>sr 1 rfl<|sL lV rfl<|sr 1 rfl<|sE ?_;clear H a;intro a H
 refine k10 _ ?_;clear k10 K10
 refine condL H rfl (fun hc3=>?_) (fun hc3=>?_)
 ·skip
  refine sS H fun K11 k11=>sr 4 rfl<|sE ?_;clear H a;intro a H
  refine k11 _ ?_;clear k11 K11
  refine wp_ret ?_
  refine ret4 (fn:=Tryz.f65) rfl H G G G G ?_
  have e9:=mY hdE (Ax (l:=l) (by omega))
  rw [pH (by rw [e9];decide),e9]
  exact ⟨rfl,(S.sel [] G G)⟩
 refine wp_skip ?_
 refine k9 _ _ ?_
 refine wp_seq_k fun K12 k12=>?_
 replace H:=H.keep [1,2,3] rfl
 refine sS H fun K13 k13=>sr 1 rfl<|sL lV rfl<|sr 1 rfl<|sE ?_;clear H a;intro a H
 refine k13 _ ?_;clear k13 K13
 refine wp_block ?_
 refine loop_st (X:=Nat) (R0:=_) [1,2,3,28,29] H rfl (fun k=>[(30,.int .i64 (k:Int))]) (fun k=>[]) (fun g k=>k≤l.length∧g+k=l.length∧allN (fun k=>prmOk P (l.getD k Prm.zero)) k=true) (l.length) 0 ?_ (S.sel [0] G G) (H.keep [30,1,2,3,28,29] rfl) ?_
 · exact ⟨by omega,by omega,rfl⟩
 clear H S a
 intro g1 x1 a w1 hp S H K14 k14
 obtain ⟨k,rfl⟩:∃ y,y=x1:=⟨_,rfl⟩
 refine sS H fun K15 k15=>sr 1 rfl<|sE ?_;clear H a;intro a H
 refine k15 _ ?_;clear k15 K15
 refine wp_seq_k fun K16 k16=>?_
 refine condL H rfl (fun hc4=>?_) (fun hc4=>?_)
 ·skip
  refine wp_skip ?_
  refine k16 _ _ ?_
  refine wp_seq_k fun K17 k17=>?_
  refine wp_block ?_
  refine seq_list fun K18 k18=>?_
  refine ls 2 H<|si lV iV G G (hl.adr (by omega)) (by omega)<|sd ((aW rT iV rfl S hl (by omega) (by omega)))<|sE ?_;clear H a;intro a H
  refine aI H rfl S xZ ?_;clear H a S;intro b11 _ a hb11 hbw11 S H
  refine aF H S (i:=0) G G G G iV G G ?_
  clear H a S;intro _ a S H
  refine k18 _ _ ?_;clear k18 K18
  replace H:=H.keep [1,2,3,11,28,29,30] rfl
  refine seq_list fun K19 k19=>?_
  refine ls 5 H<|sd ((aC cA cZ rfl S (i:=1) G G))<|sf lW rfl<|sl S 0 aD G G G<|sf lX rfl<|sl S 0 aD G G G<|sE ?_;clear H a;intro a H
  refine aZ H rfl S aT bA fO G G G G G G G G G ?_;clear H a S;intro A1 _ a hA1 S H
  refine aA H G G Tryz.func100 G G (uD P ps PA pc xs XA xc [(l.getD k Prm.zero).fr,(l.getD k Prm.zero).to] _ _ _ ((ownM.inS S (i:=0) rfl).congr (fun k j hk hj=>wB k j hk hj)) (show 2≤9223372036854775807 by omega) (by omega)) ?_;clear H a
  rintro _ _ a ⟨rfl,S2⟩ H
  replace S:=S.call S2;clear S2
  refine ls 18 H<|sr 2 rfl<|sg 3 8 42 45 false G G (fun hg9=>by
      have hq9:=hg9;try simp only [o1,o2,o3,o4,o5,o6,o7,o8,o9,oa] at hq9
      exact sy hg9<|sf lY rfl<|sy hg9<|sl S 1 aD G G G<|sy hg9<|sr 1 rfl<|sz 3 G G G)<|so G G G<|sr 1 rfl<|sg 5 13 47 52 false G G (fun hg14=>by
      have hq14:=hg14;try simp only [o1,o2,o3,o4,o5,o6,o7,o8,o9,oa] at hq14
      exact sy hg14<|sf kP rfl<|sy hg14<|sl S 1 aD G G G<|sy hg14<|sf lY rfl<|sy hg14<|sl S 1 aD G G G<|sy hg14<|sr 1 rfl<|sz 5 G G G)<|so G G G<|sr 1 rfl<|sg 3 20 54 57 false G G (fun hg21=>by
      have hq21:=hg21;try simp only [o1,o2,o3,o4,o5,o6,o7,o8,o9,oa] at hq21
      exact sy hg21<|sf kP rfl<|sy hg21<|sl S 1 aD G G G<|sy hg21<|sr 1 rfl<|sz 3 G G G)<|so G G G<|sE ?_;clear H a;intro a H
  refine k19 _ _ ?_;clear k19 K19
  refine cond_ H rfl (fun hc5=>?_) (fun hc5=>?_)
  ·skip
   try simp only [o1,o2,o3,o4,o5,o6,o7,o8,o9,oa] at hc5
   replace H:=H.keep [] rfl
   refine sS H fun K20 k20=>sr 4 rfl<|sE ?_;clear H a;intro a H
   refine k20 _ ?_;clear k20 K20
   refine wp_ret ?_
   refine ret4 (fn:=Tryz.f65) rfl H G G G G ?_
   have e9:=mY hdE (Fu (l:=l) (k:=k) (by omega) (Nr (by rcases hc5 with ((h|h)|h)|h;(have:=Dz h;omega);omega;omega;omega)))
   rw [pH (by rw [e9];decide),e9]
   exact ⟨rfl,(S.sel [] G G)⟩
  try simp only [o1,o2,o3,o4,o5,o6,o7,o8,o9,oa] at hc5
  refine wp_skip ?_
  refine k17 _ _ ?_
  refine sO H<|sd (aK G G (by unfold i64ok;omega))<|sr 1 rfl<|sE ?_;clear H a;intro a H
  exact k14 (g1-1) (k+1) a _ (by omega) (⟨by omega,by omega,cK hp.2.2 (mX.2 (by have h9:=uG.1 hc5.1.1.1;omega))⟩) (S.sel [2] G G) (H.keep [30,1,2,3,28,29] rfl)
 refine wp_exit ?_
 refine k12 _ _ ?_
 refine wp_seq_k fun K22 k22=>?_
 refine sS H fun K23 k23=>sr 1 rfl<|sL kH rfl<|sr 1 rfl<|sE ?_;clear H a;intro a H
 refine k23 _ ?_;clear k23 K23
 refine wp_block ?_
 have hpr:allN (fun k=>prmOk P (l.getD k Prm.zero)) l.length=true:=by rw [show l.length=k by omega];exact hp.2.2
 have hkE:=uI hdE (Fv hpr (by omega))
 refine loop_st (X:=Nat) (R0:=_) [2,3,60,61] H rfl (fun h=>[(62,.int .i64 (h:Int))]) (fun h=>[]) (fun g h=>h≤day.length∧g+h=day.length∧∀ q,q<h→∀ j,j<l.length→fP P ps (day.getD q Hq.zero) q (l.getD j Prm.zero)=false) (day.length) 0 ?_ (S.sel [0] G G) (H.keep [62,2,3,60,61] rfl) ?_
 · exact ⟨by omega,by omega,fun q hq=>absurd hq (Nat.not_lt_zero q)⟩
 clear H S a
 intro g2 x2 a w2 hp S H K24 k24
 obtain ⟨h,rfl⟩:∃ y,y=x2:=⟨_,rfl⟩
 obtain ⟨hhl,hgh,hB⟩:=hp
 refine sS H fun K25 k25=>sr 1 rfl<|sE ?_;clear H a;intro a H
 refine k25 _ ?_;clear k25 K25
 refine wp_seq_k fun K26 k26=>?_
 refine condL H rfl (fun hc6=>?_) (fun hc6=>?_)
 ·skip
  have hdo:=hdk.2 h (by omega)
  refine wp_skip ?_
  refine k26 _ _ ?_
  refine wp_seq_k fun K27 k27=>?_
  refine wp_block ?_
  refine seq_list fun K28 k28=>?_
  refine ls 3 H<|sr 1 rfl<|si kH lB G G (hday.adr (by omega)) (by omega)<|sd ((aW Fc lB rfl S hday (by omega) (by omega)))<|sE ?_;clear H a;intro a H
  refine aI H rfl S Mc ?_;clear H a S;intro b13 _ a hb13 hbw13 S H
  refine ls 1 H<|sr 1 rfl<|sE ?_;clear H a;intro a H
  refine aF H S (i:=0) G G G G lB G G ?_
  clear H a S;intro _ a S H
  refine k28 _ _ ?_;clear k28 K28
  replace H:=H.keep [2,3,12,13,60,61,62] rfl
  refine sS H fun K29 k29=>sr 1 rfl<|sL lV rfl<|sr 1 rfl<|sE ?_;clear H a;intro a H
  refine k29 _ ?_;clear k29 K29
  refine wp_block ?_
  refine loop_st (X:=Nat) (R0:=_) [2,3,12,13,60,61,62,67,68] H rfl (fun i=>[(69,.int .i64 (i:Int))]) (fun i=>[]) (fun g i=>i≤l.length∧g+i=l.length∧∀ j,j<i→fP P ps (day.getD h Hq.zero) h (l.getD j Prm.zero)=false) (l.length) 0 ?_ (S.sel [0,1] G G) (H.keep [69,2,3,12,13,60,61,62,67,68] rfl) ?_
  · exact ⟨by omega,by omega,fun q hq=>absurd hq (Nat.not_lt_zero q)⟩
  clear H S a
  intro g3 x3 a w3 hp S H K30 k30
  obtain ⟨i,rfl⟩:∃ y,y=x3:=⟨_,rfl⟩
  refine sS H fun K31 k31=>sr 1 rfl<|sE ?_;clear H a;intro a H
  refine k31 _ ?_;clear k31 K31
  refine wp_seq_k fun K32 k32=>?_
  refine condL H rfl (fun hc7=>?_) (fun hc7=>?_)
  ·skip
   have hpi:=mX.1 (bX.1 hpr i (by omega))
   refine wp_skip ?_
   refine k32 _ _ ?_
   refine wp_seq_k fun K33 k33=>?_
   refine wp_block ?_
   refine seq_list fun K34 k34=>?_
   refine ls 3 H<|sr 1 rfl<|si lV iV G G (hl.adr (by omega)) (by omega)<|sd ((aW rT iV rfl S hl (by omega) (by omega)))<|sE ?_;clear H a;intro a H
   refine aI H rfl S xZ ?_;clear H a S;intro b15 _ a hb15 hbw15 S H
   refine ls 1 H<|sr 1 rfl<|sE ?_;clear H a;intro a H
   refine aF H S (i:=0) G G G G iV G G ?_
   clear H a S;intro _ a S H
   refine k34 _ _ ?_;clear k34 K34
   replace H:=H.keep [2,3,12,13,14,15,60,61,62,67,68,69] rfl
   refine seq_list fun K35 k35=>?_
   refine ls 5 H<|sr 1 rfl<|sf lY rfl<|sl S 0 aD G G G<|sf kP rfl<|sl S 0 aD G G G<|sE ?_;clear H a;intro a H
   refine aA H G G Tryz.func44 G G (bZ _ _ _ _) ?_;clear H a
   rintro _ _ a ⟨rfl,rfl⟩ H
   refine ls 1 H<|sr 1 rfl<|sE ?_;clear H a;intro a H
   apply cG (i:=6) (g:=80) (t:=96) (b:=true) 16 H S G G (by kernel_rfl) (by kernel_rfl) G G
   case h1=>
    intro hg7
    have hq7:=hg7;try simp only [o1,o2,o3,o4,o5,o6,o7,o8,o9,oa] at hq7
    refine ls 14 H<|sy hg7<|sd ((aC cA cZ rfl S (i:=2) G G))<|sy hg7<|sf oX rfl<|sy hg7<|sl S 1 aD G G G<|sy hg7<|sf Lr rfl<|sy hg7<|sl S 1 iY G G G<|sy hg7<|sr 1 rfl<|sg 2 12 86 88 true G G (fun hg13=>by
        have hq13:=hg13;try simp only [o1,o2,o3,o4,o5,o6,o7,o8,o9,oa] at hq13
        exact sy hg13<|sf Ac rfl<|sy hg13<|sl S 0 iY G G G<|sz 2 G G G)<|sy hg7<|sa G G G<|sy hg7<|sd (aN Mk G G)<|sy hg7<|sf lW rfl<|sy hg7<|sl S 0 aD G G G<|sy hg7<|sf lX rfl<|sy hg7<|sl S 0 aD G G G<|sE ?_;intro a H
    refine dC H G G (by assumption) ?_
    refine aA H G G Tryz.func101 G G (yJ P ps PA pc xs XA xc (day.getD h Hq.zero).out ((day.getD h Hq.zero).help&&(l.getD i Prm.zero).helped) (l.getD i Prm.zero).fr (l.getD i Prm.zero).to _ (hps.now S) hpn (hxs.now S) hxn hV hdo.1.1 (by omega) (by omega)) ?_
    rintro _ _ a ⟨rfl,hdj,S2⟩ H
    replace S:=S.call S2;clear S2
    refine ls 1 H<|sy hg7<|sr 1 rfl<|sE ?_;intro a H
    exact wpList_nil ⟨H.strip 15 G G,(S.sel [0,1,2] G G)⟩
   clear H a S;intro a _ H S
   refine ls 1 H<|sa G G G<|sE ?_;clear H a;intro a H
   refine k35 _ _ ?_;clear k35 K35
   refine cond_ H rfl (fun hc8=>?_) (fun hc8=>?_)
   ·skip
    try simp only [o1,o2,o3,o4,o5,o6,o7,o8,o9,oa] at hc8
    replace H:=H.keep [12,14] rfl
    refine sS H fun K36 k36=>sr 6 rfl<|sE ?_;clear H a;intro a H
    refine k36 _ ?_;clear k36 K36
    refine wp_ret ?_
    refine ret4 (fn:=Tryz.f65) rfl H G G G G ?_
    rw [Sf hkE (by omega) (by omega) hB hp.2.2 (Ns hc8.1 (by omega))]
    exact ⟨rfl,(S.sel [] G G)⟩
   try simp only [o1,o2,o3,o4,o5,o6,o7,o8,o9,oa] at hc8
   refine wp_skip ?_
   refine k33 _ _ ?_
   refine sO H<|sd (aK G G (by unfold i64ok;omega))<|sr 1 rfl<|sE ?_;clear H a;intro a H
   exact k30 (g3-1) (i+1) a _ (by omega) (⟨by omega,by omega,Sg hp.2.2 (by rcases hc8 with h9|h9;exact Ik (by omega);exact Il (by omega))⟩) (S.sel [1,2] rfl rfl) (H.keep [69,2,3,12,13,60,61,62,67,68] rfl)
  refine wp_exit ?_
  refine k27 _ _ ?_
  replace H:=H.keep [2,3,60,61,62] rfl
  refine sO H<|sd (aK G G (by unfold i64ok;omega))<|sr 1 rfl<|sE ?_;clear H a;intro a H
  exact k24 (g2-1) (h+1) a _ (by omega) (⟨by omega,by omega,Ij hB hp.2.2 (by omega)⟩) (S.sel [1] G G) (H.keep [62,2,3,60,61] rfl)
 refine wp_exit ?_
 refine k22 _ _ ?_
 refine sS H fun K39 k39=>sr 4 rfl<|sE ?_;clear H a;intro a H
 refine k39 _ ?_;clear k39 K39
 refine wp_ret ?_
 refine ret4 (fn:=Tryz.f65) rfl H G G G G ?_
 obtain rfl:h=day.length:=by omega
 rw [Nq hkE hB]
 exact ⟨rfl,(S.sel [] G G)⟩
end
section
structure Chain where
  links:Int
  pitch:Int
  limit:Int
structure Gauge where
  fr:Int
  to:Int
  lo:Int
  hi:Int
def Gauge.zero:Gauge:=⟨0,0,0,0⟩
def Gauge.cell (g:Gauge):Nat→Value
  | 0 => .int .i64 g.fr
  | 1 => .int .i64 g.to
  | 2 => .int .i64 g.lo
  | _ => .int .i64 g.hi
abbrev Chain.val (c:Chain):Value := .agg [.int .i64 c.links,.int .i64 c.pitch,.int .i64 c.limit].toArray
theorem uJ {α:Type} {l:List α} {p:α→Bool} {k:Nat} {d:α} (hk:k<l.length) (h:(l.take k).all p=true) (hp:p (l.getD k d)=true):(l.take (k+1)).all p=true:=by
  rw [List.take_succ_eq_append_getElem hk,List.all_append,h]
  simp only [List.getD_eq_getElem?_getD,List.getElem?_eq_getElem hk,Option.getD_some] at hp
  simp [hp]
theorem qP {α:Type} {l:List α} {p:α→Bool} {k:Nat} {d:α} (hk:k<l.length) (hp:p (l.getD k d)=false):l.all p=false:=by
  simp only [List.getD_eq_getElem?_getD,List.getElem?_eq_getElem hk,Option.getD_some] at hp
  rw [←Bool.not_eq_true,List.all_eq_true]
  intro h
  have:=h _ (List.getElem_mem hk)
  rw [hp] at this
  cases this
abbrev IM:=Nat→Nat→Int
section
variable (M:IM) (a b:Nat) (far:Int)
end
def diagB (n:Nat) (M:IM):Bool:=(List.range n).all fun k=>decide (0≤M k k)
theorem jR {n k:Nat} {p:Nat→Bool}:(List.range (k+1)).all p=((List.range k).all p&&p k):=by
  rw [List.range_succ,List.all_append];simp
theorem fX {n k:Nat} {p:Nat→Bool} (hk:k<n) (h:p k=false):(List.range n).all p=false:=by
  rw [←Bool.not_eq_true,List.all_eq_true]
  intro hh
  have:=hh k (List.mem_range.2 hk)
  rw [h] at this
  cases this
def wide:Int:=1099511627776
structure Good (n:Nat) (M:IM):Prop where
  diag:∀ x,x<n→M x x=0
  tri:∀ x y z,x<n→y<n→z<n→M x z≤M x y+M y z
  top:∀ x y,x<n→y<n→M x y≤wide
theorem Good.low {n:Nat} {M:IM} (h:Good n M) {x y:Nat} (hx:x<n) (hy:y<n) : -wide≤M x y:=by
  have h1:=h.tri x y x hx hy hx
  have h2:=h.diag x hx
  have h3:=h.top y x hy hx
  omega
theorem wI {n:Nat} {M:IM}:diagB n M=true↔∀ k,k<n→0≤M k k:=by
  unfold diagB
  rw [List.all_eq_true]
  constructor
  · intro h k hk;simpa using h k (List.mem_range.2 hk)
  · intro h k hk;simpa using h k (List.mem_range.1 hk)
structure Under (n:Nat) (E M:IM):Prop where
  le:∀ x y,x<n→y<n→E x y≤M x y
  add:∀ x y z,x<n→y<n→z<n→E x z=E x y+E y z
theorem Under.diag {n:Nat} {E M:IM} (h:Under n E M):diagB n M=true:=by
  rw [wI]
  intro k hk
  have h1:=h.le k k hk hk
  have h2:=h.add k k k hk hk hk
  omega
def Chain.n (c:Chain):Nat:=c.links.toNat+1
structure Best (n:Nat) (C:IM→Prop) (M:IM):Prop where
  good:Good n M
  sat:C M
  best:∀ E,Good n E→C E→∀ x y,x<n→y<n→E x y≤M x y
theorem Best.same {n:Nat} {C:IM→Prop} {M M':IM} (h:Best n C M) (h':Best n C M'):∀ x y,x<n→y<n→M x y=M' x y:=by
  intro x y hx hy
  have h1:=h.best M' h'.good h'.sat x y hx hy
  have h2:=h'.best M h.good h.sat x y hx hy
  omega
def fwP (M:IM) (m:Nat):IM:=fun x y=>min (M x y) (M x m+M m y)
def fstg (M:IM) (m p q:Nat):IM:=fun x y=>if x<p∨(x=p∧y<q) then fwP M m x y else M x y
theorem Ay (M:IM) (m n x y:Nat) (hx:x<n):fstg M m n 0 x y=fwP M m x y:=by
  unfold fstg;rw [if_pos (by omega)]
def pw:Nat→Int
  | 0=>10000000
  | k+1=>2*pw k
structure CNet (n k:Nat) (M:IM):Prop where
  diag:∀ x,x<n→M x x=0
  lo:∀ x y,x<n→y<n → -(pw k)≤M x y
  top:∀ x y,x<n→y<n→M x y≤wide
theorem CNet.fstg {n k m:Nat} {M:IM} (h:CNet n k M) (hm:m<n) (p q x y:Nat) (hx:x<n) (hy:y<n) : -(pw (k+1))≤fstg M m p q x y∧fstg M m p q x y≤wide:=by
  have h1:=h.lo x y hx hy
  have h2:=h.lo x m hx hm
  have h3:=h.lo m y hm hy
  have h4:=h.top x y hx hy
  have h5:pw (k+1)=2*pw k:=rfl
  have h6:=h.diag m hm
  have h7:=h.lo m m hm hm
  unfold Go.Proofs.YtoekeohiokcefaaGreat.fstg fwP
  split <;> omega
theorem CNet.next {n k m:Nat} {M:IM} (h:CNet n k M) (hm:m<n) (hd:diagB n (fwP M m)=true):CNet n (k+1) (fwP M m):=by
  rw [wI] at hd
  refine ⟨fun x hx=>?_,fun x y hx hy=>?_,fun x y hx hy=>?_⟩
  · have h1:=hd x hx
    have h2:=h.diag x hx
    have h3:fwP M m x x≤M x x:=by unfold fwP;omega
    omega
  · have:=h.fstg hm n 0 x y hx hy
    rw [Ay M m n x y hx] at this
    exact this.1
  · have:=h.fstg hm n 0 x y hx hy
    rw [Ay M m n x y hx] at this
    exact this.2
structure Use where
  day:Int
  turns:Int
  cls:Int
  meas:Bool
  lo:Int
  hi:Int
structure Part where
  rates:List (Int×Int)
  worn:Int
  turns:Int
  age:Int
def Use.zero:Use:=⟨0,0,0,false,0,0⟩
def Use.cell (u:Use):Nat→Value
  | 0 => .int .i64 u.day
  | 1 => .int .i64 u.turns
  | 2 => .int .i64 u.cls
  | 3 => .bool u.meas
  | 4 => .int .i64 u.lo
  | _ => .int .i64 u.hi
def ucell (l:List Use) (k j:Nat):Value:=(l.getD k Use.zero).cell j
def sH (s:Int×Int):Nat→Value
  | 0 => .int .i64 s.1
  | _ => .int .i64 s.2
def scell (l:List (Int×Int)) (k j:Nat):Value:=sH (l.getD k (0,0)) j
def fcell (f:Nat→Int×Int) (k j:Nat):Value:=sH (f k) j
def iO (p:Part):Bool:=decide (1≤p.rates.length∧p.rates.length≤4∧0≤p.worn∧p.worn≤1000∧0≤p.turns∧p.turns≤1000000∧0≤p.age∧p.age≤100000)
def iF (r:Int×Int):Bool:=decide (0≤r.1∧r.1≤r.2∧r.2≤1000000)
def useOk (n:Nat) (d:Int) (u:Use):Bool:=decide ((d≤u.day∧u.day≤100000∧0≤u.turns∧u.turns≤1000000∧0≤u.cls∧u.cls≤(n:Int)-1)∧0≤u.lo∧u.lo≤u.hi∧u.hi≤2000000000∧(u.meas=false→u.lo=0∧u.hi=0))
def prevD (l:List Use):Nat→Int
  | 0=>0
  | k+1=>(l.getD k Use.zero).day
def gD (n:Nat) (l:List Use) (k:Nat):Bool:=(List.range k).all fun i=>useOk n (prevD l i) (l.getD i Use.zero)
def cO (p:Part) (l:List Use):Int:=
  if iO p then (if p.rates.all iF then (if l.length≤40 then (if gD p.rates.length l l.length then 0 else 23) else 23) else 22) else 22
structure PartOk (p:Part) (l:List Use):Prop where
  hdr:iO p=true
  rates:p.rates.all iF=true
  len:l.length≤40
  uses:gD p.rates.length l l.length=true
theorem mZ {p:Part} {l:List Use} (h:cO p l=0):PartOk p l:=by
  unfold cO at h
  split at h
  · split at h
    · split at h
      · split at h
        · exact ⟨by assumption,by assumption,by assumption,by assumption⟩
        · cases h
      · cases h
    · cases h
  · cases h
theorem PartOk.use {p:Part} {l:List Use} (h:PartOk p l) {k:Nat} (hk:k<l.length):useOk p.rates.length (prevD l k) (l.getD k Use.zero)=true:=by
  have:=h.uses
  unfold gD at this
  exact List.all_eq_true.1 this k (List.mem_range.2 hk)
theorem PartOk.rate {p:Part} {l:List Use} (h:PartOk p l) {k:Nat} (hk:k<p.rates.length):iF (p.rates.getD k (0,0))=true:=by
  rw [List.getD_eq_getElem?_getD,List.getElem?_eq_getElem hk]
  exact List.all_eq_true.1 h.rates _ (List.getElem_mem hk)
def dL (p:Part) (u:Use):Int×Int:=(u.turns*(p.rates.getD u.cls.toNat (0,0)).1,u.turns*(p.rates.getD u.cls.toNat (0,0)).2)
def meetS (a b:Int×Int):Int×Int:=(max a.1 b.1,min a.2 b.2)
def addS (a b:Int×Int):Int×Int:=(a.1+b.1,a.2+b.2)
def fwd (p:Part) (l:List Use):Nat→Int×Int
  | 0=>(0,0)
  | k+1=>if (l.getD k Use.zero).meas then meetS (addS (fwd p l k) (dL p (l.getD k Use.zero))) ((l.getD k Use.zero).lo,(l.getD k Use.zero).hi) else addS (fwd p l k) (dL p (l.getD k Use.zero))
def fits (p:Part) (l:List Use) (k:Nat):Prop:=(l.getD k Use.zero).meas=true→(fwd p l (k+1)).1≤(fwd p l (k+1)).2
structure IsAt (p:Part) (l:List Use) (n:Nat):Prop where
  le:n≤l.length
  good:∀ k,k<n→fits p l k
  bad:n<l.length→¬ fits p l n
theorem IsAt.same {p:Part} {l:List Use} {n m:Nat} (h:IsAt p l n) (h':IsAt p l m):n=m:=by
  rcases Nat.lt_trichotomy n m with h1|h1|h1
  · exact absurd (h'.good n h1) (h.bad (by have:=h'.le;omega))
  · exact h1
  · exact absurd (h.good m h1) (h'.bad (by have:=h.le;omega))
def bkw (p:Part) (l:List Use):Nat→Int×Int
  | 0=>fwd p l l.length
  | d+1=>meetS (fwd p l (l.length-1-d)) ((bkw p l d).1-(dL p (l.getD (l.length-1-d) Use.zero)).2,(bkw p l d).2-(dL p (l.getD (l.length-1-d) Use.zero)).1)
def cE (p:Part) (l:List Use) (k:Nat):Int×Int:=bkw p l (l.length-1-k)
theorem mF {p:Part} {l:List Use} (h:PartOk p l) {k:Nat} (hk:k<l.length):0≤(dL p (l.getD k Use.zero)).1∧(dL p (l.getD k Use.zero)).1≤1000000000000∧0≤(dL p (l.getD k Use.zero)).2∧(dL p (l.getD k Use.zero)).2≤1000000000000:=by
  have hu:=h.use hk
  unfold useOk at hu
  simp only [decide_eq_true_eq] at hu
  have hr:=h.rate (k:=(l.getD k Use.zero).cls.toNat) (by omega)
  unfold iF at hr
  simp only [decide_eq_true_eq] at hr
  unfold dL
  refine ⟨Int.mul_nonneg (by omega) (by omega),?_,Int.mul_nonneg (by omega) (by omega),?_⟩
  · exact Int.le_trans (Int.mul_le_mul (c:=1000000) (d:=1000000) (by omega) (by omega) (by omega) (by omega)) (by decide)
  · exact Int.le_trans (Int.mul_le_mul (c:=1000000) (d:=1000000) (by omega) (by omega) (by omega) (by omega)) (by decide)
theorem yK {p:Part} {l:List Use} (h:PartOk p l):∀ k,k≤l.length→0≤(fwd p l k).1∧(fwd p l k).1≤(k:Int)*1000000000000∧0≤(fwd p l k).2∧(fwd p l k).2≤(k:Int)*1000000000000:=by
  intro k
  induction k with
  | zero=>intro _;simp [fwd]
  | succ k ih=>
    intro hk
    have h1:=ih (by omega)
    have h2:=mF h (show k<l.length by omega)
    have hu:=h.use (show k<l.length by omega)
    unfold useOk at hu
    simp only [decide_eq_true_eq] at hu
    unfold fwd addS meetS
    split <;> (dsimp only;omega)
theorem Wi {p:Part} {l:List Use} (h:PartOk p l):∀ d,d<l.length → -((d:Int)*1000000000000)≤(bkw p l d).1∧(bkw p l d).1≤40000000000000 ∧ -((d:Int)*1000000000000)≤(bkw p l d).2∧(bkw p l d).2≤40000000000000:=by
  intro d
  have hlen:=h.len
  induction d with
  | zero=>intro hd;have:=yK h l.length (Nat.le_refl _);unfold bkw;omega
  | succ d ih=>
    intro hd
    have h1:=ih (by omega)
    have h2:=mF h (show l.length-1-d<l.length by omega)
    have h3:=yK h (l.length-1-d) (by omega)
    unfold bkw meetS
    dsimp only
    omega
def sumT (l:List Use):Nat→Int
  | 0=>0
  | k+1=>sumT l k+(l.getD k Use.zero).turns
theorem Sh {p:Part} {l:List Use} (h:PartOk p l):∀ k,k≤l.length→0≤sumT l k∧sumT l k≤(k:Int)*1000000:=by
  intro k
  induction k with
  | zero=>intro _;simp [sumT]
  | succ k ih=>
    intro hk
    have h1:=ih (by omega)
    have hu:=h.use (show k<l.length by omega)
    unfold useOk at hu
    simp only [decide_eq_true_eq] at hu
    unfold sumT
    omega
section
variable {P:Program} {ops:Array Oper} {w w0:World} {F0 F:Nat→Prop} {R:List Mem} {Q:Exit→Act→World→Prop} {rest:List Oper} {N:FN} {L:List (Nat×Value)} {a:Act} {ty:TypeId} {pos:String} {af:Array Edge}
theorem boxM.same {i b:Nat} {t:TypeId} {cs cs':List Value} (S:St w0 F0 R w) (hi:R[i]?=some (boxM b t cs)) (h:cs=cs'):St w0 F0 (R.set i (boxM b t cs')) w:=by
  subst h;exact S.imp hi (fun h=>h) (fun _ h=>h)
theorem lG {i e n c k:Nat} {A:Option Addr} {f:Nat→Int×Int} {s:Int×Int} (S:St w0 F0 R w) (hi:R[i]?=some (ownM e 2 A n c (fcell f))) (hk:k<n) (hs:f k=s) :
    ∀ (j:Nat) v,[Value.int .i64 s.1,Value.int .i64 s.2][j]?=some v→w.cell? ⟨(adr A).block,(adr A).off+k*2+0+j,none⟩=some v:=by
  intro j v hv
  subst hs
  have h0:=ownM.rd S hi hk (j:=j)
  have hj:j<2:=(List.getElem?_eq_some_iff.1 hv).1
  have h1:=h0 hj
  have:j=0∨j=1:=by omega
  rcases this with rfl|rfl <;> (simp at hv;subst hv;exact h1)
theorem dY {t e i kk n c:Nat} {A:Option Addr} {f:Nat→Int×Int} {x y:Operand} {v1 v2:Int} (H:Fr N L a) (S:St w0 F0 R w) (hi:R[i]?=some (ownM e 2 A n c (fcell f)))
    (hx:ev L x=some (.pointer (some (pt A 2 kk 0)))) (hy:ev L y=some (.agg [.int .i64 v1,.int .i64 v2].toArray)) (hk:kk<n) (hs:Sz P t 2)
    (k:∀ w' a',St w0 F0 (R.set i (ownM e 2 A n c (fcell fun q=>if q=kk then (v1,v2) else f q))) w'→Fr N L a'→wpList P ops Q rest a' w') :
    wpList P ops Q (⟨none,.store t x y,ty,pos,af,none⟩::rest) a w:=by
  refine wpList_plain rfl fun K hK=>?_
  unfold Oper.wp
  rcases S.holds hi with ⟨_,h,_⟩|⟨b,cs,rfl,hb,hnc,hcm,hsz,hc⟩
  · omega
  have hlt:kk*2+1<cs.size:=by omega
  have hp:pt (some ⟨b,0,none⟩) 2 kk 0=⟨b,kk*2,none⟩:=by simp [pt,adr]
  rw [hp] at hx
  have hr:=kX (P:=P) (w:=w) (t:=t) (b:=b) (o:=kk*2) (v := .agg [.int .i64 v1,.int .i64 v2].toArray) (vs:=[.int .i64 v1,.int .i64 v2]) (by simpa using hs) rfl hb (by simp;omega) (fun u hu=>by
    simp only [List.mem_cons,List.not_mem_nil,or_false] at hu
    rcases hu with rfl|rfl <;> rfl)
  have e1:(execOp a.eval ⟨none,.store t x y,ty,pos,af,none⟩).run P w = .ok .skip (w.setRow b (gM cs.toList (kk*2) [.int .i64 v1,.int .i64 v2]).toArray):=by
    simp only [execOp,H.eval hx,H.eval hy]
    simp only [Sem.run_bind,hr]
    rfl
  rw [e1]
  refine hK _ _ (k _ _ (S.updSame hi ((jA w b _).mono ?_) ?_ (fun _ h=>h)) (H.put_none _))
  · rintro q rfl;exact ⟨_,rfl,rfl⟩
  · refine .inr ⟨b,_,rfl,setRow_heap w b _ _ e (0,0) hb,hnc,hcm,?_,?_⟩
    · rw [List.size_toArray,nH _ _ _ (by simp;omega)];simpa using hsz
    · intro k' j' hk' hj'
      rw [List.getElem?_toArray,jF _ _ _ (by simp;omega)]
      have hj2:j'=0∨j'=1:=by omega
      by_cases hh:k'=kk
      · subst hh
        rw [List.append_assoc,List.getElem?_append_right (by simp;omega)]
        simp only [List.length_take,Array.length_toList,Nat.min_eq_left (show k'*2≤cs.size by omega)]
        rcases hj2 with rfl|rfl <;> simp [fcell,sH]
      · have hcell:=hc k' j' hk' hj'
        have:fcell (fun q=>if q=kk then (v1,v2) else f q) k' j'=fcell f k' j':=by simp [fcell,hh]
        rw [this,←hcell]
        rcases Nat.lt_or_ge (k'*2+j') (kk*2) with h|h
        · rw [List.append_assoc,List.getElem?_append_left (by simp;omega),List.getElem?_take_of_lt h];simp
        · have h':kk*2+2≤k'*2+j':=by omega
          rw [List.getElem?_append_right (by simp;omega),List.getElem?_drop]
          simp only [List.length_append,List.length_take,List.length_cons,List.length_nil,Array.length_toList]
          rw [Nat.min_eq_left (by omega)]
          rw [show kk*2+(0+1+1)+(k'*2+j'-(kk*2+(0+1+1)))=k'*2+j' by omega]
          simp
end
theorem uK {p:Part} {l:List Use} {k:Nat} (h:(l.getD k Use.zero).meas=true):fwd p l (k+1)=meetS (addS (fwd p l k) (dL p (l.getD k Use.zero))) ((l.getD k Use.zero).lo,(l.getD k Use.zero).hi):=by rw [fwd,if_pos h]
theorem Fw {p:Part} {l:List Use} {k:Nat} (h:(l.getD k Use.zero).meas=false):fwd p l (k+1)=addS (fwd p l k) (dL p (l.getD k Use.zero)):=by rw [fwd,if_neg (by rw [h];simp)]
theorem Az {p:Part} {l:List Use} {k:Nat} (h:(l.getD k Use.zero).meas=false):fits p l k:=fun h'=>by rw [h] at h';cases h'
theorem jI {p:Part} {l:List Use} (h:PartOk p l) {k:Nat} (hk:k<l.length) : -40000000000000≤(cE p l k).1∧(cE p l k).1≤40000000000000 ∧ -40000000000000≤(cE p l k).2∧(cE p l k).2≤40000000000000:=by
  have:=Wi h (l.length-1-k) (by omega)
  have:=h.len
  unfold cE
  omega
theorem Ba {p:Part} {l:List Use} {k:Nat} (hk:k+1=l.length):cE p l k=fwd p l l.length:=by
  unfold cE;rw [show l.length-1-k=0 by omega];rfl
theorem gH {p:Part} {l:List Use} {k:Nat} (hk:k+1<l.length):cE p l k=meetS (fwd p l (k+1)) ((cE p l (k+1)).1-(dL p (l.getD (k+1) Use.zero)).2,(cE p l (k+1)).2-(dL p (l.getD (k+1) Use.zero)).1):=by
  unfold cE
  rw [show l.length-1-k=(l.length-1-(k+1))+1 by omega]
  rw [bkw]
  rw [show l.length-1-(l.length-1-(k+1))=k+1 by omega]
end
section
theorem uL {k sz:Nat} {cell:Nat→Nat→Value} {vs:List Value} (h:∀ j,j<sz→vs.getD j undef=cell k j):∀ q j,q<k+1→j<sz→capp k cell (fun k' j=>([vs].getD k' []).getD j undef) q j=cell q j:=by
  intro q j hq hj
  unfold capp
  by_cases h1:q<k
  · rw [if_pos h1]
  · rw [if_neg h1]
    have e:q=k:=by omega
    subst e
    rw [Nat.sub_self]
    exact h j hj
theorem jS {sz:Nat} {vs:List Value} (h:∀ j,j<sz→(vs.getD j undef).oneCell'=true):∀ k j,k<1→j<sz→(([vs].getD k []).getD j undef).oneCell'=true:=by
  intro k j hk hj
  have e:k=0:=by omega
  subst e
  exact h j hj
theorem two {p:Nat→Prop} (h0:p 0) (h1:p 1):∀ j,j<2→p j:=by
  intro j hj
  have:j=0∨j=1:=by omega
  rcases this with rfl|rfl
  · exact h0
  · exact h1
theorem one {p:Nat→Prop} (h0:p 0):∀ j,j<1→p j:=by
  intro j hj
  have:j=0:=by omega
  subst this
  exact h0
theorem eD {P:Program} {f:Nat} {vs:Array Value} {w:World} {R R':Value→World→Prop} (h:Calls P f vs w (Ret R)) (k:∀ v w',R v w'→R' v w'):Calls P f vs w (Ret R'):=Calls.mono h fun e w' he=>by
  cases e with
  | returned v=>exact k v w' he
  | _=>exact he
theorem eR (n lo hi:Int) (w:World) :
    Calls Tryz.prog 126 [.int .i64 n,.int .i64 lo,.int .i64 hi].toArray w (Ret (fun v w'=>v = .bool (decide (lo≤n)&&decide (n≤hi))∧w'=w)):=by
 refine enter Tryz.func126 rfl Tryz.ntmps126 rfl (fun a H=>?_)
 have S:=St.start w
 refine sS H fun K1 k1=>sr 1 rfl<|sE ?_;clear H a;intro a H
 refine k1 _ ?_;clear k1 K1
 replace H:=H.keep [0,1,2] rfl
 refine sS H fun K2 k2=>sr 4 rfl<|sg 3 3 10 13 true G G (fun hg4=>sy hg4<|sr 1 rfl<|sy hg4<|sr 1 rfl<|sy hg4<|sr 1 rfl<|sz 3 G G G)<|sa G G G<|sr 1 rfl<|sE ?_;clear H a;intro a H
 refine k2 _ ?_;clear k2 K2
 refine wp_ret ?_
 refine ret1 (fn:=Tryz.f126) rfl H rfl ?_
 exact ⟨rfl,rfl⟩
theorem gW (n lo hi:Int) (w:World) :
    Calls Tryz.prog 87 [.int .i64 n,.int .i64 lo,.int .i64 hi].toArray w (Ret (fun v w'=>v = .bool (decide (lo≤n)&&decide (n≤hi))∧w'=w)):=by
 refine enter Tryz.func87 rfl Tryz.ntmps87 rfl (fun a H=>?_)
 have S:=St.start w
 refine sS H fun K1 k1=>sr 1 rfl<|sE ?_;clear H a;intro a H
 refine k1 _ ?_;clear k1 K1
 replace H:=H.keep [0,1,2] rfl
 refine sS H fun K2 k2=>sr 4 rfl<|sg 3 3 10 13 true G G (fun hg4=>sy hg4<|sr 1 rfl<|sy hg4<|sr 1 rfl<|sy hg4<|sr 1 rfl<|sz 3 G G G)<|sa G G G<|sr 1 rfl<|sE ?_;clear H a;intro a H
 refine k2 _ ?_;clear k2 K2
 refine wp_ret ?_
 refine ret1 (fn:=Tryz.f87) rfl H rfl ?_
 exact ⟨rfl,rfl⟩
set_option maxRecDepth 100000 in
theorem Fx (a b c d:Int) (w:World):(Op.equalIn 10000 58 (.agg #[.int .i64 a,.int .i64 b]) (.agg #[.int .i64 c,.int .i64 d])).run Tryz.prog w = .ok (a == c&&b == d) w:=by
  have u3:=Tryz.underlying3
  have a3:=Tryz.isAgg3
  have z3:=Tryz.sizeOf3
  have hS:Tryz.prog.underlying 58=some (.struct (Tryz.prog.fieldsOf 58)):=by kernel_rfl
  have hp:Tryz.prog.stoodInHeld 58=false:=by kernel_rfl
  rw [show (10000:Nat)=9999+1 from rfl,run_equalIn_agg w 9999 58 _ _ hS hp]
  simp only [Program.fieldsOf,Tryz.underlying58]
  go_simp
  by_cases h1:a=c <;> by_cases h2:b=d <;> simp [h1,h2]
set_option maxRecDepth 100000 in
theorem uM (op:BinOp) (x y:Operand) (a b c d:Int) (w:World):(eqGuard op 58 x y (.agg #[.int .i64 a,.int .i64 b]) (.agg #[.int .i64 c,.int .i64 d])).run Tryz.prog w = .ok () w:=by
  have h:Tryz.prog.eqGuardType Tryz.prog.depth 58=false:=by kernel_rfl
  have hpg:∀ w,(program:Sem Program).run Tryz.prog w = .ok Tryz.prog w:=fun _=>rfl
  cases op <;> simp [eqGuard,h,hpg]
section
variable {P:Program} {w:World} {L:List (Nat×Value)} {ty:TypeId} {pos:String} {af:Array Edge} {dd:Option Nat} {g:Option (Nat×Bool)}
set_option maxRecDepth 100000 in
theorem nI {x y:Operand} {yt:TypeId} {a b c d:Int} (hx:ev L x=some (.agg [.int .i64 a,.int .i64 b].toArray)) (hy:ev L y=some (.agg [.int .i64 c,.int .i64 d].toArray)) :
    Does Tryz.prog L ⟨dd,.binOp .neq 58 x y yt,ty,pos,af,g⟩ w (.bool (!(decide (a=c)&&decide (b=d)))):=fun ρ hρ=>by
  have e:(binOp .neq 58 (.agg #[.int .i64 a,.int .i64 b]) (.agg #[.int .i64 c,.int .i64 d])).run Tryz.prog w = .ok (.bool (!(decide (a=c)&&decide (b=d)))) w:=by
    simp only [binOp]
    simp [Op.equal,Op.maxDepth,Fx]
    by_cases h1:a=c <;> by_cases h2:b=d <;> simp [h1,h2]
  simp only [execOp,hρ _ _ hx,hρ _ _ hy]
  simp [uM,e]
end
end
section
theorem rQ (rates:List (Int×Int)) (pwn ptn pag:Int) (RA:Option Addr) (rcp:Nat) (l:List Use) (A:Option Addr) (cp:Nat) (w:World) (hr:InS w noF 2 RA rates.length (scell rates)) (hrn:rates.length≤9223372036854775807) (hl:InS w noF 6 A l.length (ucell l)) (hn:l.length≤9223372036854775807) :
    Calls Tryz.prog 120 [.agg [.slice RA rates.length rcp,.int .i64 pwn,.int .i64 ptn,.int .i64 pag].toArray,.slice A l.length cp].toArray w (Ret (fun v w'=>v = .int .i64 (cO (⟨rates,pwn,ptn,pag⟩:Part) l)∧St w noF [] w')):=by
 refine enter Tryz.func120 rfl Tryz.ntmps120 rfl (fun a H=>?_)
 have S:=St.start w
 refine seq_list fun K1 k1=>?_
 refine aO H rfl S G G ?_;clear H a S;intro b2 _ a hb2 hbw2 S H
 refine ls 1 H<|sr 1 rfl<|sE ?_;clear H a;intro a H
 refine k1 _ _ ?_;clear k1 K1
 refine wp_seq_k fun K2 k2=>?_
 replace H:=H.keep [1,2] rfl
 refine sS H fun K3 k3=>sf fJ rfl<|sl S 0 iD G G G<|sL dM rfl<|sc rfl Tryz.func126 G G (eR _ _ _ _)<|sr 2 rfl<|sg 4 5 15 19 false G G (fun hg6=>sy hg6<|sf xU rfl<|sy hg6<|sl S 0 aD G G G<|sy hg6<|sc rfl Tryz.func126 G G (eR _ _ _ _)<|sy hg6<|sr 1 rfl<|sz 4 G G G)<|so G G G<|sr 1 rfl<|sg 4 11 21 25 false G G (fun hg12=>sy hg12<|sf oR rfl<|sy hg12<|sl S 0 aD G G G<|sy hg12<|sc rfl Tryz.func126 G G (eR _ _ _ _)<|sy hg12<|sr 1 rfl<|sz 4 G G G)<|so G G G<|sr 1 rfl<|sg 4 17 27 31 false G G (fun hg18=>sy hg18<|sf rX rfl<|sy hg18<|sl S 0 aD G G G<|sy hg18<|sc rfl Tryz.func126 G G (eR _ _ _ _)<|sy hg18<|sr 1 rfl<|sz 4 G G G)<|so G G G<|sE ?_;clear H a;intro a H
 refine k3 _ ?_;clear k3 K3
 refine cond_ H rfl (fun hc1=>?_) (fun hc1=>?_)
 ·skip
  try simp only [o1,o2,o3,o4,o5,o6,o7,o8,o9,oa] at hc1
  replace H:=H.keep [] rfl
  refine sS H fun K4 k4=>sr 1 rfl<|sE ?_;clear H a;intro a H
  refine k4 _ ?_;clear k4 K4
  refine wp_ret ?_
  refine ret1 (fn:=Tryz.f120) rfl H rfl ?_
  refine ⟨?_,(S.sel [] G G)⟩;unfold cO;rw [if_neg (by unfold iO;simp only [decide_eq_true_eq];omega)]
 try simp only [o1,o2,o3,o4,o5,o6,o7,o8,o9,oa] at hc1
 refine wp_skip ?_
 refine k2 _ _ ?_
 refine wp_seq_k fun K5 k5=>?_
 have hhd:iO (⟨rates,pwn,ptn,pag⟩:Part)=true:=by unfold iO;simp only [decide_eq_true_eq];omega
 refine sS H fun K6 k6=>sf fJ rfl<|sl S 0 iD G G G<|sL dM rfl<|sr 1 rfl<|sE ?_;clear H a;intro a H
 refine k6 _ ?_;clear k6 K6
 refine wp_block ?_
 refine loop_st (X:=Nat) (R0:=_) [1,2,34,35] H rfl (fun k=>[(36,.int .i64 (k:Int))]) (fun k=>[]) (fun g k=>k≤rates.length∧g+k=rates.length∧(rates.take k).all iF=true) (rates.length) 0 ?_ (S.sel [0] G G) (H.keep [36,1,2,34,35] rfl) ?_
 · exact ⟨by omega,by omega,by simp⟩
 clear H S a
 intro g1 x1 a w1 hp S H K7 k7
 obtain ⟨k,rfl⟩:∃ y,y=x1:=⟨_,rfl⟩
 refine sS H fun K8 k8=>sr 1 rfl<|sE ?_;clear H a;intro a H
 refine k8 _ ?_;clear k8 K8
 refine wp_seq_k fun K9 k9=>?_
 refine condL H rfl (fun hc2=>?_) (fun hc2=>?_)
 ·skip
  refine wp_skip ?_
  refine k9 _ _ ?_
  refine wp_seq_k fun K10 k10=>?_
  refine wp_block ?_
  refine seq_list fun K11 k11=>?_
  refine ls 2 H<|si dM aQ G G (hr.adr (by omega)) (by omega)<|sd ((aW bD aQ rfl S hr (by omega) (by omega)))<|sE ?_;clear H a;intro a H
  refine aI H rfl S cC ?_;clear H a S;intro b6 _ a hb6 hbw6 S H
  refine aF H S (i:=0) G G G G aQ G G ?_
  clear H a S;intro _ a S H
  refine k11 _ _ ?_;clear k11 K11
  replace H:=H.keep [1,2,6,34,35,36] rfl
  refine sS H fun K12 k12=>sf bH rfl<|sl S 0 aD G G G<|sr 2 rfl<|sg 5 3 43 48 false G G (fun hg4=>sy hg4<|sf bG rfl<|sy hg4<|sl S 0 aD G G G<|sy hg4<|sf bH rfl<|sy hg4<|sl S 0 aD G G G<|sy hg4<|sr 1 rfl<|sz 5 G G G)<|so G G G<|sr 1 rfl<|sg 3 10 50 53 false G G (fun hg11=>sy hg11<|sf bG rfl<|sy hg11<|sl S 0 aD G G G<|sy hg11<|sr 1 rfl<|sz 3 G G G)<|so G G G<|sE ?_;clear H a;intro a H
  refine k12 _ ?_;clear k12 K12
  refine cond_ H rfl (fun hc3=>?_) (fun hc3=>?_)
  ·skip
   try simp only [o1,o2,o3,o4,o5,o6,o7,o8,o9,oa] at hc3
   replace H:=H.keep [] rfl
   refine sS H fun K13 k13=>sr 1 rfl<|sE ?_;clear H a;intro a H
   refine k13 _ ?_;clear k13 K13
   refine wp_ret ?_
   refine ret1 (fn:=Tryz.f120) rfl H rfl ?_
   refine ⟨?_,(S.sel [] G G)⟩;unfold cO;rw [if_pos hhd];(try dsimp only);rw [qP (k:=k) (d:=(0,0)) (by omega) (by unfold iF;simp only [decide_eq_false_iff_not];omega)];rfl
  try simp only [o1,o2,o3,o4,o5,o6,o7,o8,o9,oa] at hc3
  refine wp_skip ?_
  refine k10 _ _ ?_
  refine sO H<|sd (aK G G (by unfold i64ok;omega))<|sr 1 rfl<|sE ?_;clear H a;intro a H
  exact k7 (g1-1) (k+1) a _ (by omega) (⟨by omega,by omega,uJ (d:=(0,0)) (by omega) hp.2.2 (by unfold iF;simp only [decide_eq_true_eq];omega)⟩) (S.sel [1] G G) (H.keep [36,1,2,34,35] rfl)
 refine wp_exit ?_
 refine k5 _ _ ?_
 refine wp_seq_k fun K15 k15=>?_
 have hrt:rates.all iF=true:=by have h9:=hp.2.2;rw [List.take_of_length_le (by omega)] at h9;exact h9
 refine sS H fun K16 k16=>sr 1 rfl<|sL dJ rfl<|sr 1 rfl<|sE ?_;clear H a;intro a H
 refine k16 _ ?_;clear k16 K16
 refine condL H rfl (fun hc4=>?_) (fun hc4=>?_)
 ·skip
  refine sS H fun K17 k17=>sr 1 rfl<|sE ?_;clear H a;intro a H
  refine k17 _ ?_;clear k17 K17
  refine wp_ret ?_
  refine ret1 (fn:=Tryz.f120) rfl H rfl ?_
  refine ⟨?_,(S.sel [] G G)⟩;unfold cO;rw [if_pos hhd,if_pos hrt,if_neg (by omega)]
 refine wp_skip ?_
 refine k15 _ _ ?_
 refine sS H fun K18 k18=>sr 1 rfl<|sE ?_;clear H a;intro a H
 refine k18 _ ?_;clear k18 K18
 refine wp_seq_k fun K19 k19=>?_
 replace H:=H.keep [1,2,7] rfl
 refine sS H fun K20 k20=>sr 1 rfl<|sL dJ rfl<|sr 1 rfl<|sE ?_;clear H a;intro a H
 refine k20 _ ?_;clear k20 K20
 refine wp_block ?_
 refine loop_st (X:=Nat) (R0:=_) [2,59,60] H rfl (fun j=>[(7,.int .i64 (prevD l j)),(61,.int .i64 (j:Int))]) (fun j=>[]) (fun g j=>j≤l.length∧g+j=l.length∧gD rates.length l j=true) (l.length) 0 ?_ (S.sel [0] G G) (H.keep [7,61,2,59,60] rfl) ?_
 · exact ⟨by omega,by omega,rfl⟩
 clear H S a
 intro g2 x2 a w2 hp S H K21 k21
 obtain ⟨j,rfl⟩:∃ y,y=x2:=⟨_,rfl⟩
 refine sS H fun K22 k22=>sr 1 rfl<|sE ?_;clear H a;intro a H
 refine k22 _ ?_;clear k22 K22
 refine wp_seq_k fun K23 k23=>?_
 refine condL H rfl (fun hc5=>?_) (fun hc5=>?_)
 ·skip
  refine wp_skip ?_
  refine k23 _ _ ?_
  refine wp_seq_k fun K24 k24=>?_
  refine wp_block ?_
  refine seq_list fun K25 k25=>?_
  refine ls 2 H<|si dJ cY G G (hl.adr (by omega)) (by omega)<|sd ((aW jW cY rfl S hl (by omega) (by omega)))<|sE ?_;clear H a;intro a H
  refine aI H rfl S kI ?_;clear H a S;intro b9 _ a hb9 hbw9 S H
  refine aF H S (i:=0) G G G G cY G G ?_
  clear H a S;intro _ a S H
  refine k25 _ _ ?_;clear k25 K25
  refine wp_seq_k fun K26 k26=>?_
  replace H:=H.keep [2,7,9,59,60,61] rfl
  refine sS H fun K27 k27=>sf gS rfl<|sl S 0 aD G G G<|sr 1 rfl<|sc rfl Tryz.func126 G G (eR _ _ _ _)<|sr 2 rfl<|sg 4 5 70 74 false G G (fun hg6=>sy hg6<|sf jN rfl<|sy hg6<|sl S 0 aD G G G<|sy hg6<|sc rfl Tryz.func126 G G (eR _ _ _ _)<|sy hg6<|sr 1 rfl<|sz 4 G G G)<|so G G G<|sr 1 rfl<|sg 8 11 76 84 false G G (fun hg12=>sy hg12<|sf oV rfl<|sy hg12<|sl S 0 aD G G G<|sy hg12<|sf fJ rfl<|sy hg12<|sl S 1 iD G G G<|sy hg12<|sL dM rfl<|sy hg12<|sd (aU G G (by unfold i64ok;omega))<|sy hg12<|sc rfl Tryz.func126 G G (eR _ _ _ _)<|sy hg12<|sr 1 rfl<|sz 8 G G G)<|so G G G<|sE ?_;clear H a;intro a H
  refine k27 _ ?_;clear k27 K27
  refine cond_ H rfl (fun hc6=>?_) (fun hc6=>?_)
  ·skip
   try simp only [o1,o2,o3,o4,o5,o6,o7,o8,o9,oa] at hc6
   replace H:=H.keep [] rfl
   refine sS H fun K28 k28=>sr 1 rfl<|sE ?_;clear H a;intro a H
   refine k28 _ ?_;clear k28 K28
   refine wp_ret ?_
   refine ret1 (fn:=Tryz.f120) rfl H rfl ?_
   refine ⟨?_,(S.sel [] G G)⟩;unfold cO;rw [if_pos hhd,if_pos hrt,if_pos (by omega)];unfold gD;rw [fX (k:=j) (by omega) (by unfold useOk;simp only [decide_eq_false_iff_not];omega)];rfl
  try simp only [o1,o2,o3,o4,o5,o6,o7,o8,o9,oa] at hc6
  refine wp_skip ?_
  refine k26 _ _ ?_
  refine wp_seq_k fun K29 k29=>?_
  replace H:=H.keep [2,9,59,60,61] rfl
  refine sS H fun K30 k30=>sf eS rfl<|sf bH rfl<|sl S 0 aD G G G<|sr 2 rfl<|sg 7 4 90 97 false G G (fun hg5=>sy hg5<|sf eS rfl<|sy hg5<|sf bG rfl<|sy hg5<|sl S 0 aD G G G<|sy hg5<|sf eS rfl<|sy hg5<|sf bH rfl<|sy hg5<|sl S 0 aD G G G<|sy hg5<|sr 1 rfl<|sz 7 G G G)<|so G G G<|sr 1 rfl<|sg 4 13 99 103 false G G (fun hg14=>sy hg14<|sf eS rfl<|sy hg14<|sf bG rfl<|sy hg14<|sl S 0 aD G G G<|sy hg14<|sr 1 rfl<|sz 4 G G G)<|so G G G<|sr 1 rfl<|sg 9 19 105 114 false G G (fun hg20=>sy hg20<|sf lZ rfl<|sy hg20<|sl S 0 iY G G G<|sy hg20<|sr 1 rfl<|sy hg20<|sr 1 rfl<|sg 4 23 109 113 true G G (fun hg24=>sy hg24<|sf eS rfl<|sy hg24<|sd ((aC bD aQ rfl S (i:=0) G G))<|sy hg24<|sd (aN dV G G)<|sy hg24<|sd (nI G G)<|sz 4 G G G)<|sy hg20<|sa G G G<|sz 6 G G G)<|so G G G<|sE ?_;clear H a;intro a H
  refine k30 _ ?_;clear k30 K30
  refine cond_ H rfl (fun hc7=>?_) (fun hc7=>?_)
  ·skip
   try simp only [o1,o2,o3,o4,o5,o6,o7,o8,o9,oa] at hc7
   replace H:=H.keep [] rfl
   refine sS H fun K31 k31=>sr 1 rfl<|sE ?_;clear H a;intro a H
   refine k31 _ ?_;clear k31 K31
   refine wp_ret ?_
   refine ret1 (fn:=Tryz.f120) rfl H rfl ?_
   refine ⟨?_,(S.sel [] rfl rfl)⟩;unfold cO;rw [if_pos hhd,if_pos hrt,if_pos (by omega)];unfold gD;rw [fX (k:=j) (by omega) (by unfold useOk;simp only [decide_eq_false_iff_not];generalize l.getD j Use.zero=u at hc6 hc7 ⊢;rintro ⟨_,_,_,_,hm⟩;cases hq:u.meas <;> simp [hq] at hc7 hm <;> omega)];rfl
  try simp only [o1,o2,o3,o4,o5,o6,o7,o8,o9,oa] at hc7
  refine wp_skip ?_
  refine k29 _ _ ?_
  refine sO H<|sf gS rfl<|sl S 0 aD G G G<|sr 1 rfl<|sE ?_;clear H a;intro a H
  refine k24 _ _ ?_
  refine sO H<|sd (aK G G (by unfold i64ok;omega))<|sr 1 rfl<|sE ?_;clear H a;intro a H
  exact k21 (g2-1) (j+1) a _ (by omega) (⟨by omega,by omega,by unfold gD;rw [jR (n:=0)];have h9:=hp.2.2;unfold gD at h9;rw [h9];simp only [Bool.true_and];unfold useOk;simp only [decide_eq_true_eq];generalize l.getD j Use.zero=u at hc6 hc7 ⊢;refine ⟨by omega,by omega,by omega,by omega,fun hm=>?_⟩;simp [hm] at hc7;omega⟩) (S.sel [1] G G) (H.keep [7,61,2,59,60] rfl)
 refine wp_exit ?_
 refine k19 _ _ ?_
 refine sS H fun K34 k34=>sr 1 rfl<|sE ?_;clear H a;intro a H
 refine k34 _ ?_;clear k34 K34
 refine wp_ret ?_
 refine ret1 (fn:=Tryz.f120) rfl H rfl ?_
 refine ⟨?_,(S.sel [] G G)⟩;have hj9:j=l.length:=by omega
 unfold cO;rw [if_pos hhd,if_pos hrt,if_pos (by omega)];rw [hj9] at hp;dsimp only;rw [if_pos hp.2.2]
theorem gI (rates:List (Int×Int)) (pwn ptn pag:Int) (RA:Option Addr) (rcp:Nat) (u:Use) (w:World) (hr:InS w noF 2 RA rates.length (scell rates)) (hrn:rates.length≤9223372036854775807) (hcl:0≤u.cls∧u.cls<rates.length) (hg1:i64ok (dL (⟨rates,pwn,ptn,pag⟩:Part) u).1) (hg2:i64ok (dL (⟨rates,pwn,ptn,pag⟩:Part) u).2) :
    Calls Tryz.prog 128 [.agg [.slice RA rates.length rcp,.int .i64 pwn,.int .i64 ptn,.int .i64 pag].toArray,.agg [.int .i64 u.day,.int .i64 u.turns,.int .i64 u.cls,.bool u.meas,.int .i64 u.lo,.int .i64 u.hi].toArray].toArray w (Ret (fun v w'=>v = .agg [.int .i64 (dL (⟨rates,pwn,ptn,pag⟩:Part) u).1,.int .i64 (dL (⟨rates,pwn,ptn,pag⟩:Part) u).2].toArray∧St w noF [] w')):=by
 refine enter Tryz.func128 rfl Tryz.ntmps128 rfl (fun a H=>?_)
 have S:=St.start w
 refine seq_list fun K1 k1=>?_
 refine aO H rfl S G G ?_;clear H a S;intro b2 _ a hb2 hbw2 S H
 refine aO H rfl S G G ?_;clear H a S;intro b3 _ a hb3 hbw3 S H
 refine aI H rfl S cC ?_;clear H a S;intro b4 _ a hb4 hbw4 S H
 refine k1 _ _ ?_;clear k1 K1
 replace H:=H.keep [2,3,4] rfl
 refine seq_list fun K2 k2=>?_
 refine ls 6 H<|sf fJ rfl<|sl S 2 iD G G G<|sf oV rfl<|sl S 1 aD G G G<|sI dM aQ G G (hr.adr (by omega)) (by omega) (by omega)<|sd ((aW bD aQ rfl S hr (by omega) (by omega)))<|sE ?_;clear H a;intro a H
 refine aI H rfl S cC ?_;clear H a S;intro b5 _ a hb5 hbw5 S H
 refine aF H S (i:=0) G G G G aQ G G ?_
 clear H a S;intro _ a S H
 refine k2 _ _ ?_;clear k2 K2
 replace H:=H.keep [3,4,5] rfl
 refine seq_list fun K3 k3=>?_
 refine ls 11 H<|sf jN rfl<|sl S 2 aD G G G<|sf bH rfl<|sl S 0 aD G G G<|sd (iR G G (by exact hg1))<|sf jN rfl<|sl S 2 aD G G G<|sf bG rfl<|sl S 0 aD G G G<|sd (iR G G (by exact hg2))<|sd (aN dV G G)<|sE ?_;clear H a;intro a H
 refine aF H S (i:=1) G G G G aQ G G ?_
 clear H a S;intro _ a S H
 refine k3 _ _ ?_;clear k3 K3
 refine wp_ret ?_
 refine retA (fn:=Tryz.f128) rfl H rfl bD (by exact aQ) (dS S (i:=1) rfl) ?_
 exact ⟨rfl,(S.sel [] G G)⟩
theorem gE (a1 a2 b1 b2:Int) (w:World) :
    Calls Tryz.prog 129 [.agg [.int .i64 a1,.int .i64 a2].toArray,.agg [.int .i64 b1,.int .i64 b2].toArray].toArray w (Ret (fun v w'=>v = .tuple #[.agg [.int .i64 (meetS (a1,a2) (b1,b2)).1,.int .i64 (meetS (a1,a2) (b1,b2)).2].toArray,.bool (decide ((meetS (a1,a2) (b1,b2)).1≤(meetS (a1,a2) (b1,b2)).2))]∧St w noF [] w')):=by
 refine enter Tryz.func129 rfl Tryz.ntmps129 rfl (fun a H=>?_)
 have S:=St.start w
 refine seq_list fun K1 k1=>?_
 refine aO H rfl S G G ?_;clear H a S;intro b2 _ a hb2 hbw2 S H
 refine aO H rfl S G G ?_;clear H a S;intro b3 _ a hb3 hbw3 S H
 refine aI H rfl S cC ?_;clear H a S;intro b4 _ a hb4 hbw4 S H
 refine ls 1 H<|sr 1 rfl<|sE ?_;clear H a;intro a H
 refine k1 _ _ ?_;clear k1 K1
 replace H:=H.keep [2,3,4] rfl
 refine seq_list fun K2 k2=>?_
 refine ls 11 H<|sf bH rfl<|sl S 2 aD G G G<|sf bH rfl<|sl S 1 aD G G G<|sd (lK G G)<|sf bG rfl<|sl S 2 aD G G G<|sf bG rfl<|sl S 1 aD G G G<|sd (sT G G)<|sd (aN dV G G)<|sE ?_;clear H a;intro a H
 refine aI H rfl S cC ?_;clear H a S;intro b6 _ a hb6 hbw6 S H
 refine aF H S (i:=0) G G G G aQ G G ?_
 clear H a S;intro _ a S H
 refine k2 _ _ ?_;clear k2 K2
 replace H:=H.keep [4,6] rfl
 replace S:=S.drew
 refine seq_wq [(0,true),(1,true),(2,true),(3,true),(4,true),(5,true),(6,false),(7,true)] (by kernel_rfl) (by kernel_rfl) (S.sel [0,2,3] G G) fun K3 k3=>?_
 refine qF H<|qd rfl (fun _ S=>(aC bD aQ rfl S (i:=0) G G))<|qd rfl (fun _ S=>(aB bH rfl))<|qd rfl (fun _ S=>aE aD rfl (boxM.rd S (i:=0) G G))<|qd rfl (fun _ S=>(aB bG rfl))<|qd rfl (fun _ S=>aE aD rfl (boxM.rd S (i:=0) G G))<|qr 1 rfl<|qK ?_;clear H a;intro a H
 refine aS rfl ?_
 refine aF H S (i:=1) G G G G aQ G G ?_
 clear H a S;intro _ a S H
 refine wpList_nil (And.intro (S.sel [0,2,3] G G) ?_)
 refine qF H<|qr 1 rfl<|qK ?_;clear H a;intro a H
 refine bF ?_
 refine k3 _ _ ?_
 clear k3 K3
 refine wp_ret ?_
 refine retA1 (fn:=Tryz.f129) rfl H rfl bD (by exact aQ) (dS S (i:=1) rfl) rfl ?_
 exact ⟨rfl,(S.sel [] G G)⟩
end
end Go.Proofs.YtoekeohiokcefaaGreat
