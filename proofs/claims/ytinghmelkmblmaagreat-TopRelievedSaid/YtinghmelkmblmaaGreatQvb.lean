/- Part 2 of the proof. -/
import Derived.Test.YtinghmelkmblmaaGreatQva
namespace Go.Proofs.YtinghmelkmblmaaGreat
open Go.RowKit
set_option linter.unusedVariables false
set_option linter.unusedSimpArgs false
set_option maxRecDepth 100000
set_option maxHeartbeats 4000000
section
structure Psg where
  a:Int
  b:Int
  kind:Int
  ticks:Int
  wide:Int
  mach:Int
  still:Int
def Psg.zero:Psg:=⟨0,0,0,0,0,0,0⟩
def Psg.cell (p:Psg):Nat→Value
  | 0 => .int .i64 p.a
  | 1 => .int .i64 p.b
  | 2 => .int .i64 p.kind
  | 3 => .int .i64 p.ticks
  | 4 => .int .i64 p.wide
  | 5 => .int .i64 p.mach
  | _ => .int .i64 p.still
def pcell (l:List Psg) (k j:Nat):Value:=(l.getD k Psg.zero).cell j
structure Mv where
  pas:Int
  fr:Int
  at_:Int
  many:Int
def Mv.zero:Mv:=⟨0,0,0,0⟩
def Mv.none:Mv:=⟨-1,0,0,0⟩
def Mv.cells (m:Mv):List Value:=[.int .i64 m.pas,.int .i64 m.fr,.int .i64 m.at_,.int .i64 m.many]
def Mv.cell (m:Mv):Nat→Value
  | 0 => .int .i64 m.pas
  | 1 => .int .i64 m.fr
  | 2 => .int .i64 m.at_
  | _ => .int .i64 m.many
structure Ent where
  to:Nat
  room:Int
  back:Nat
  mv:Mv
def Ent.zero:Ent:=⟨0,0,0,Mv.zero⟩
def Ent.cell (x:Ent):Nat→Value
  | 0 => .int .i64 (x.to:Int)
  | 1 => .int .i64 x.room
  | 2 => .int .i64 (x.back:Int)
  | 3 => .int .i64 x.mv.pas
  | 4 => .int .i64 x.mv.fr
  | 5 => .int .i64 x.mv.at_
  | _ => .int .i64 x.mv.many
abbrev Tab:=Nat→List Ent
def tlen (T:Tab) (i:Nat):Nat:=(T i).length
def joinT (T:Tab) (f t:Nat) (room:Int) (mv:Mv):Tab:=
  upd (upd T f (T f++[⟨t,room,(T t).length,mv⟩])) t (T t++[⟨f,0,(T f).length,Mv.none⟩])
def Tab.net (T:Tab) (k:Nat):Net:=⟨k,tlen T,fun i j=>((T i).getD j Ent.zero).to,fun i j=>((T i).getD j Ent.zero).back⟩
def Tab.room (T:Tab):RM:=fun i j=>((T i).getD j Ent.zero).room
def Tab.mv (T:Tab):Nat→Nat→Mv:=fun i j=>((T i).getD j Ent.zero).mv
def lcl (L:Nat→Int) (i _j:Nat):Value := .int .i64 (L i)
def hasI (l:List Int) (x:Int):Bool:=l.any fun y=>decide (x=y)
structure Hd where
  pas:Int
  fr:Int
  to:Int
  ticks:Int
  wide:Int
def Hd.zero:Hd:=⟨0,0,0,0,0⟩
def Hd.cells (h:Hd):List Value:=[.int .i64 h.pas,.int .i64 h.fr,.int .i64 h.to,.int .i64 h.ticks,.int .i64 h.wide]
def bitI (out m:Int):Int:=out/2^m.toNat%2
def Dw (out:Int) (p:Psg):Int:=if p.kind=3∧¬ bitI out p.mach=0 then p.still else p.ticks
def Vj (out:Int) (p:Psg):Bool:=!(decide (p.kind=3)&&decide (bitI out p.mach=0))
def hdsA (out:Int) (xs:List Int) (k:Nat) (p:Psg):List Hd:=if hasI xs p.a=true then [] else [⟨k,p.a,p.b,Dw out p,p.wide⟩]
def hdsB (out:Int) (xs:List Int) (k:Nat) (p:Psg):List Hd:=if (Vj out p&&!hasI xs p.b)=true then [⟨k,p.b,p.a,Dw out p,p.wide⟩] else []
def hdsOf (out:Int) (xs:List Int) (k:Nat) (p:Psg):List Hd:=if p.kind=4 then [] else hdsA out xs k p++hdsB out xs k p
def hdsTo (out:Int) (xs:List Int) (ps:List Psg):Nat→List Hd
  | 0=>[]
  | k+1=>hdsTo out xs ps k++hdsOf out xs k (ps.getD k Psg.zero)
def hds (out:Int) (xs:List Int) (ps:List Psg):List Hd:=hdsTo out xs ps ps.length
section
variable {out:Int} {xs:List Int} {ps:List Psg} {k:Nat}
end
structure Jn where
  f:Nat
  t:Nat
  room:Int
  mv:Mv
def joins (J:List Jn):Tab:=J.foldl (fun T j=>joinT T j.f j.t j.room j.mv) (fun _=>[])
theorem Bx (J:List Jn) (j:Jn):joins (J++[j])=joinT (joins J) j.f j.t j.room j.mv:=by unfold joins;rw [List.foldl_append];rfl
theorem Gh (J:List Jn) (hne:∀ j ∈ J,j.f≠j.t) (i:Nat):(joins J i).length≤J.length:=by
  have key:∀ (n:Nat) (J:List Jn),J.length=n→(∀ j ∈ J,j.f≠j.t)→(joins J i).length≤n:=by
    intro n
    induction n with
    | zero => intro J h _;have:J=[]:=List.eq_nil_of_length_eq_zero h
              subst this;exact Nat.le_refl 0
    | succ n ih=>
      intro J h hn
      obtain ⟨J',j,rfl⟩:∃ J' j,J=J'++[j]:=⟨J.dropLast,J.getLast (by intro e;subst e;simp at h),(List.dropLast_concat_getLast _).symm⟩
      have h1:=ih J' (by simpa using h) (fun x hx=>hn x (List.mem_append_left _ hx))
      have h2:=hn j (List.mem_append_right _ (by simp))
      rw [Bx]
      unfold joinT upd
      split
      · rename_i e
        subst e
        simp;omega
      · split
        · rename_i e;subst e;simp;omega
        · omega
  exact key _ J rfl hne
def nd (P t p:Nat):Nat:=P*t+p
def Km:Int:=1099511627776
def jBeg (P T:Nat) (pe:List Int) (p:Nat):Jn:=⟨P*(T+1),nd P 0 p,pe.getD p 0,Mv.none⟩
def jWait (P p t:Nat):Jn:=⟨nd P t p,nd P (t+1) p,Km,Mv.none⟩
def jExit (P T p t:Nat):Jn:=⟨nd P t p,P*(T+1)+1,Km,Mv.none⟩
def Vk (P p n:Nat):List Jn:=(List.range n).map (jWait P p)
def Vl (P T p n:Nat):List Jn:=(List.range n).map (jExit P T p)
def Vm (P T:Nat) (pe xs:List Int) (p:Nat):List Jn:=jBeg P T pe p::(Vk P p T++(if hasI xs p=true then Vl P T p (T+1) else []))
def Dx (P T:Nat) (pe xs:List Int):Nat→List Jn
  | 0=>[]
  | p+1=>Dx P T pe xs p++Vm P T pe xs p
def jHead (P:Nat) (h:Hd) (t:Nat):Jn:=⟨nd P t h.fr.toNat,nd P (t+h.ticks.toNat) h.to.toNat,h.wide,⟨h.pas,h.fr,t,0⟩⟩
def Vn (P:Nat) (h:Hd) (n:Nat):List Jn:=(List.range n).map (jHead P h)
def Kn (P T:Nat) (hs:List Hd):Nat→List Jn
  | 0=>[]
  | i+1=>Kn P T hs i++Vn P (hs.getD i Hd.zero) (T+1-(hs.getD i Hd.zero).ticks.toNat)
def jAll (P T:Nat) (pe xs:List Int) (hs:List Hd):List Jn:=Dx P T pe xs P++Kn P T hs hs.length
section
variable {P T:Nat} {pe xs:List Int} {hs:List Hd}
def JOk (P T:Nat) (j:Jn):Prop:=j.f≠j.t∧j.f<P*(T+1)+2∧j.t<P*(T+1)+2
end
def allN (p:Nat→Bool):Nat→Bool
  | 0=>true
  | n+1=>allN p n&&p n
theorem cC {p:Nat→Bool}:∀ {n:Nat},allN p n=true↔∀ k,k<n→p k=true:=by
  intro n
  induction n with
  | zero=>exact ⟨fun _ k hk=>absurd hk (Nat.not_lt_zero k),fun _=>rfl⟩
  | succ n ih=>
    simp only [allN,Bool.and_eq_true,ih]
    constructor
    · rintro ⟨h1,h2⟩ k hk
      by_cases e:k=n
      · subst e;exact h2
      · exact h1 k (by omega)
    · intro h
      exact ⟨fun k hk=>h k (by omega),h n (by omega)⟩
theorem cN {p:Nat→Bool} {n:Nat} (h:allN p n=true) (hp:p n=true):allN p (n+1)=true:=by simp only [allN,h,hp];rfl
theorem fW {p:Nat→Bool} {n k:Nat} (hk:k<n) (h:p k=false):allN p n=false:=by
  cases ha:allN p n with
  | false=>rfl
  | true=>rw [cC.1 ha k hk] at h;cases h
def psgOk (P:Int) (p:Psg):Bool:=decide (0≤p.a∧p.a<P∧0≤p.b∧p.b<P∧p.a≠p.b∧1≤p.ticks∧p.ticks≤20∧1≤p.wide∧p.wide≤50 ∧
  ((p.kind=1∨p.kind=2∨p.kind=5)∧p.mach = -1∧p.still=0∨p.kind=3∧(0≤p.mach∧p.mach≤11)∧(1≤p.still∧p.still≤20)∨p.kind=4∧(0≤p.mach∧p.mach≤11)∧p.still=0))
def cF (ps:List Psg) (k:Nat):Int:=(ps.getD k Psg.zero).mach
def cntM (ps:List Psg) (m:Int) (k:Nat):Int:=sm (fun j=>if cF ps j=m then 1 else 0) k
theorem Dy {ps:List Psg} {m:Int} {k:Nat}:0≤cntM ps m k:=hX fun i _=>by split <;> omega
theorem Pq {ps:List Psg} {m:Int}:∀ k,cntM ps m k≤k:=by
  intro k
  induction k with
  | zero=>exact Int.le_refl 0
  | succ k ih=>unfold cntM at ih ⊢;rw [sm];split <;> omega
theorem Gi {ps:List Psg} {m:Int} {k:Nat}:cntM ps m k=0↔∀ j,j<k→cF ps j≠m:=by
  constructor
  · intro h j hj e
    have:=nD (f:=fun j=>if cF ps j=m then 1 else 0) (fun i _=>by split <;> omega) h j hj
    simp [e] at this
  · intro h
    exact wE fun i hi=>if_neg (h i hi)
def pasOk (P:Int) (ps:List Psg) (k:Nat):Bool:=psgOk P (ps.getD k Psg.zero)&&decide (cF ps k<0∨cntM ps (cF ps k) k=0)
def exOk (P:Int) (xs:List Int) (k:Nat):Bool:=decide (0≤xs.getD k 0∧xs.getD k 0<P∧(k=0∨xs.getD (k-1) 0<xs.getD k 0))
def stOk (P:Int) (ps:List Psg) (xs:List Int):Bool:=(decide (1≤P∧P≤10∧ps.length≤24)&&allN (pasOk P ps) ps.length)&&allN (exOk P xs) xs.length
def stE (P:Int) (ps:List Psg) (xs:List Int):Int:=if stOk P ps xs=true then 0 else 80
theorem Dz {P:Int} {ps:List Psg} {xs:List Int} (h:¬ (1≤P∧P≤10∧ps.length≤24)):stE P ps xs=80:=by
  unfold stE stOk;rw [decide_eq_false h];rfl
theorem lD {P:Int} {ps:List Psg} {xs:List Int} {k:Nat} (hk:k<ps.length) (h:pasOk P ps k=false):stE P ps xs=80:=by
  unfold stE stOk;rw [fW hk h,Bool.and_false];rfl
theorem Uc {P:Int} {ps:List Psg} {xs:List Int} {k:Nat} (hk:k<xs.length) (h:exOk P xs k=false):stE P ps xs=80:=by
  unfold stE stOk;rw [fW hk h,Bool.and_false];rfl
theorem Ud {P:Int} {ps:List Psg} {xs:List Int} (h1:1≤P∧P≤10∧ps.length≤24) (h2:allN (pasOk P ps) ps.length=true) (h3:allN (exOk P xs) xs.length=true):stE P ps xs=0:=by
  unfold stE stOk;rw [decide_eq_true h1,h2,h3];rfl
theorem Ps {P:Int} {ps:List Psg} {xs:List Int}:stE P ps xs=0↔stOk P ps xs=true:=by
  unfold stE;split <;> simp [*]
def CntMap (ps:List Psg) (k:Nat) (l:List (Int×Value)):Prop:=∀ m:Int,(getL l m).getD (.int .i64 0) = .int .i64 (cntM ps m k)
theorem CntMap.nil (ps:List Psg):CntMap ps 0 []:=fun m=>rfl
theorem CntMap.step {ps:List Psg} {k:Nat} {l:List (Int×Value)} (h:CntMap ps k l):CntMap ps (k+1) (setL l (cF ps k) (.int .i64 (cntM ps (cF ps k) k+1))):=by
  intro m
  rw [yT]
  unfold cntM
  rw [sm]
  by_cases e:m=cF ps k
  · subst e;rw [if_pos rfl,if_pos rfl];rfl
  · rw [if_neg e,if_neg (fun h=>e h.symm),Int.add_zero];exact h m
structure StV (P:Int) (ps:List Psg) (xs:List Int):Prop where
  size:1≤P∧P≤10∧ps.length≤24
  pas:∀ k,k<ps.length→psgOk P (ps.getD k Psg.zero)=true
  mach:∀ k,k<ps.length→0≤cF ps k→∀ j,j<k→cF ps j≠cF ps k
  ex:∀ k,k<xs.length→0≤xs.getD k 0∧xs.getD k 0<P∧(k=0∨xs.getD (k-1) 0<xs.getD k 0)
theorem oR {P:Int} {ps:List Psg} {xs:List Int} (h:stE P ps xs=0):StV P ps xs:=by
  have h1:=Ps.1 h
  unfold stOk at h1
  simp only [Bool.and_eq_true,decide_eq_true_eq] at h1
  obtain ⟨⟨h1,h2⟩,h3⟩:=h1
  refine ⟨h1,fun k hk=>?_,fun k hk h0=>?_,fun k hk=>?_⟩
  · have:=cC.1 h2 k hk
    unfold pasOk at this
    rw [Bool.and_eq_true] at this
    exact this.1
  · have:=cC.1 h2 k hk
    unfold pasOk at this
    simp only [Bool.and_eq_true,decide_eq_true_eq] at this
    exact Gi.1 (by omega)
  · have:=cC.1 h3 k hk
    unfold exOk at this
    simpa using this
theorem eJ {P:Int} {p:Psg}:psgOk P p=true↔(0≤p.a∧p.a<P∧0≤p.b∧p.b<P∧p.a≠p.b∧1≤p.ticks∧p.ticks≤20∧1≤p.wide∧p.wide≤50 ∧
  ((p.kind=1∨p.kind=2∨p.kind=5)∧p.mach = -1∧p.still=0∨p.kind=3∧(0≤p.mach∧p.mach≤11)∧(1≤p.still∧p.still≤20)∨p.kind=4∧(0≤p.mach∧p.mach≤11)∧p.still=0)):=by
  unfold psgOk;rw [decide_eq_true_eq]
theorem fC {P:Int} {p:Psg} (h:¬ (0≤p.a∧p.a<P∧0≤p.b∧p.b<P∧p.a≠p.b∧1≤p.ticks∧p.ticks≤20∧1≤p.wide∧p.wide≤50 ∧
  ((p.kind=1∨p.kind=2∨p.kind=5)∧p.mach = -1∧p.still=0∨p.kind=3∧(0≤p.mach∧p.mach≤11)∧(1≤p.still∧p.still≤20)∨p.kind=4∧(0≤p.mach∧p.mach≤11)∧p.still=0))):psgOk P p=false:=by
  unfold psgOk;exact decide_eq_false h
def eT (P:Int) (pe:List Int):Bool:=allN (fun k=>decide (0≤pe.getD k 0∧pe.getD k 0≤1000)) pe.length&&decide ((pe.length:Int)=P)
def iQ (P:Int) (ps:List Psg) (xs:List Int) (out:Int) (pe:List Int) (T:Int):Int:=
  if stE P ps xs≠0 then stE P ps xs else if (decide (0≤out∧out≤4095)&&eT P pe&&decide (0≤T∧T≤60))=true then 0 else 1
theorem uZ {P:Int} {ps:List Psg} {xs:List Int} {out:Int} {pe:List Int} {T:Int} (h:iQ P ps xs out pe T=0):stE P ps xs=0∧(0≤out∧out≤4095)∧eT P pe=true∧(0≤T∧T≤60):=by
  unfold iQ at h
  split at h
  · omega
  · rename_i h1
    split at h
    · rename_i h2
      simp only [Bool.and_eq_true,decide_eq_true_eq] at h2
      exact ⟨by omega,h2.1.1,h2.1.2,h2.2⟩
    · cases h
theorem zI {P:Int} {pe:List Int} (h:eT P pe=true):(∀ k,k<pe.length→0≤pe.getD k 0∧pe.getD k 0≤1000)∧(pe.length:Int)=P:=by
  unfold eT at h
  simp only [Bool.and_eq_true,decide_eq_true_eq] at h
  exact ⟨fun k hk=>by simpa using cC.1 h.1 k hk,h.2⟩
section
variable {T:Tab} {f t k:Nat} {room:Int} {mv:Mv}
end
def capJ (S:Nat→Bool):List Jn→Int
  | []=>0
  | j::J=>(if S j.f=true∧S j.t=false then j.room else 0)+capJ S J
section
variable {P T:Nat} {pe xs:List Int} {hs:List Hd}
end
def layT (P T:Nat) (pe xs:List Int) (hs:List Hd):Tab:=joins (jAll P T pe xs hs)
def layN (P T:Nat) (pe xs:List Int) (hs:List Hd):Net:=(layT P T pe xs hs).net (P*(T+1)+2)
structure LayOk (P T:Nat) (pe xs:List Int) (hs:List Hd):Prop where
  wf:(layN P T pe xs hs).Wf
  ok:Ok (layN P T pe xs hs) (layT P T pe xs hs).room 2199023255552
  cap:∀ S,resid (layN P T pe xs hs) (layT P T pe xs hs).room S=capJ S (jAll P T pe xs hs)
  beg:resid (layN P T pe xs hs) (layT P T pe xs hs).room (fun v=>decide (v=P*(T+1)))≤1000*P
structure EndP (P T:Nat) (pe xs:List Int) (hs:List Hd) (v:Int) (r:RM) (L:Nat→Int):Prop where
  fl:Fl (layN P T pe xs hs) (layT P T pe xs hs).room r (P*(T+1)) (P*(T+1)+1) v
  nn:0≤v
  lev:LevOk (layN P T pe xs hs) r (P*(T+1)) L
  full:L (P*(T+1)+1)<0
def fstB (f:Nat→Bool):Nat→Nat
  | 0=>0
  | n+1=>if fstB f n<n then fstB f n else if f n=true then n else n+1
theorem lU {f:Nat→Bool}:∀ {n},(∀ q,q<n→f q=false)→fstB f n=n:=by
  intro n
  induction n with
  | zero=>intro _;rfl
  | succ n ih=>intro h;rw [fstB,ih (fun q hq=>h q (by omega)),if_neg (by omega),if_neg (by rw [h n (by omega)];simp)]
theorem Ko {f:Nat→Bool} {t:Nat} (h1:∀ q,q<t→f q=false) (h2:f t=true):∀ {n},t<n→fstB f n=t:=by
  intro n
  induction n with
  | zero=>intro h;omega
  | succ n ih=>
    intro h
    by_cases e:t=n
    · subst e;rw [fstB,lU h1,if_neg (by omega),if_pos h2]
    · rw [fstB,ih (by omega),if_pos (by omega)]
def sumI (l:List Int):Nat→Int:=sm (fun k=>l.getD k 0)
theorem tB {N:Net} {r:RM} {S:Nat→Bool} (hn:∀ i,i<N.k→∀ j,j<N.n i→0≤r i j) (h:resid N r S=0):∀ u,u<N.k→S u=true→∀ j,j<N.n u→0<r u j→S (N.to u j)=true:=by
  intro u hu hS j hj hr
  have h1:=nD (f:=fun i=>sm (fun j=>if S i=true∧S (N.to i j)=false then r i j else 0) (N.n i)) (fun i hi=>hX fun j hj=>by split;exact hn i hi j hj;exact Int.le_refl _) h u hu
  have h2:=nD (f:=fun j=>if S u=true∧S (N.to u j)=false then r u j else 0) (fun j hj=>by split;exact hn u hu j hj;exact Int.le_refl _) h1 j hj
  cases hs:S (N.to u j) with
  | true=>rfl
  | false=>
    skip
    rw [if_pos ⟨hS,hs⟩] at h2
    omega
def fP (L:Nat→Int) (v:Nat):Bool:=decide (0≤L v)
section
variable {P T:Nat} {pe xs:List Int} {hs:List Hd} {v v':Int} {r r':RM} {L L':Nat→Int}
theorem wZ {S:Nat→Bool} (hb:S (P*(T+1))=true) (hx:S (P*(T+1)+1)=false):ind S (P*(T+1))-ind S (P*(T+1)+1)=1:=by
  unfold ind;rw [hb,hx];rfl
theorem EndP.bound (O:LayOk P T pe xs hs) (h:EndP P T pe xs hs v r L) {S:Nat→Bool} (hb:S (P*(T+1))=true) (hx:S (P*(T+1)+1)=false):v≤capJ S (jAll P T pe xs hs):=by
  have h1:=sC (S:=S) (h.fl.ok O.ok)
  rw [h.fl.cut,O.cap,wZ hb hx] at h1
  omega
theorem EndP.at_reach (O:LayOk P T pe xs hs) (h:EndP P T pe xs hs v r L):fP L (P*(T+1))=true∧fP L (P*(T+1)+1)=false∧capJ (fP L) (jAll P T pe xs hs)=v:=by
  have hb:fP L (P*(T+1))=true:=by unfold fP;rw [h.lev.b0];rfl
  have hx:fP L (P*(T+1)+1)=false:=by unfold fP;rw [decide_eq_false_iff_not];have:=h.full;omega
  refine ⟨hb,hx,?_⟩
  have h0:resid (layN P T pe xs hs) r (fP L)=0:=wE fun i hi=>wE fun j hj=>by
    split
    · rename_i hc
      obtain ⟨h1,h2⟩:=hc
      unfold fP at h1 h2
      simp only [decide_eq_true_eq,decide_eq_false_iff_not] at h1 h2
      have h3:=h.fl.nn i hi j hj
      by_cases h4:0<r i j
      · exact absurd (h.lev.cl i hi h1 j hj h4) h2
      · omega
    · rfl
  rw [h.fl.cut,O.cap,wZ hb hx] at h0
  omega
theorem EndP.unique (O:LayOk P T pe xs hs) (h:EndP P T pe xs hs v r L) (h':EndP P T pe xs hs v' r' L'):v=v':=by
  obtain ⟨a1,a2,a3⟩:=h.at_reach O
  obtain ⟨b1,b2,b3⟩:=h'.at_reach O
  have h1:=h.bound O b1 b2
  have h2:=h'.bound O a1 a2
  omega
theorem EndP.inside (O:LayOk P T pe xs hs) (h:EndP P T pe xs hs v r L) {S:Nat→Bool} (hb:S (P*(T+1))=true) (hx:S (P*(T+1)+1)=false) (hc:capJ S (jAll P T pe xs hs)=v):∀ u,u<P*(T+1)+2→0≤L u→S u=true:=by
  have h0:resid (layN P T pe xs hs) r S=0:=by rw [h.fl.cut,O.cap,wZ hb hx];omega
  exact h.lev.least hb (tB h.fl.nn h0)
theorem EndP.same (O:LayOk P T pe xs hs) (h:EndP P T pe xs hs v r L) (h':EndP P T pe xs hs v' r' L'):∀ u,u<P*(T+1)+2→fP L u=fP L' u:=by
  have e:=h.unique O h'
  obtain ⟨a1,a2,a3⟩:=h.at_reach O
  obtain ⟨b1,b2,b3⟩:=h'.at_reach O
  intro u hu
  have h1:=h.inside O b1 b2 (by omega) u hu
  have h2:=h'.inside O a1 a2 (by omega) u hu
  unfold fP at h1 h2 ⊢
  exact decide_eq_decide.2 ⟨fun h=>of_decide_eq_true (h1 h),fun h=>of_decide_eq_true (h2 h)⟩
end
open Classical in
noncomputable def mfv (P T:Nat) (pe xs:List Int) (hs:List Hd):Int:=if h:∃ v,∃ r L,EndP P T pe xs hs v r L then Classical.choose h else 0
section
variable {P T:Nat} {pe xs:List Int} {hs:List Hd} {v:Int} {r:RM} {L:Nat→Int}
end
def opn (out:Int) (help:Bool) (p:Psg):Bool:=(decide (p.kind=1)||(decide (p.kind=4)&&decide (bitI out p.mach=0)))||(decide (p.kind=5)&&help)
theorem Kp {out:Int} {help:Bool} {p:Psg} (h:(p.kind=1∨p.kind=4∧out/2^p.mach.toNat%2=0)∨p.kind=5∧help=true):opn out help p=true:=by
  unfold opn bitI
  simp only [Bool.or_eq_true,Bool.and_eq_true,decide_eq_true_eq]
  exact h
theorem Yv {out:Int} {help:Bool} {p:Psg} (h:(¬p.kind=1∧(¬p.kind=4∨¬out/2^p.mach.toNat%2=0))∧(¬p.kind=5∨help=false)):opn out help p=false:=by
  unfold opn bitI
  simp only [Bool.or_eq_false_iff,Bool.and_eq_false_iff,decide_eq_false_iff_not]
  exact h
def othr (p:Psg) (a:Int):Int:=if p.a=a then p.b else if p.b=a then p.a else -1
def oth (out:Int) (help:Bool) (p:Psg) (a:Int):Int:=if opn out help p=false then -1 else othr p a
inductive Wk (ps:List Psg) (out:Int) (help:Bool):Nat→Nat→Nat→List Nat→Prop
  | nil (a:Nat):Wk ps out help a a 0 []
  | cons {a b c n k:Nat} {l:List Nat} (hk:k<ps.length) (ho:oth out help (ps.getD k Psg.zero) a=(b:Int)) (h:Wk ps out help b c n l):Wk ps out help a c ((ps.getD k Psg.zero).ticks.toNat+n) (k::l)
def PsV (P:Nat) (ps:List Psg):Prop:=∀ k,k<ps.length→(0≤(ps.getD k Psg.zero).a∧(ps.getD k Psg.zero).a<P)∧(0≤(ps.getD k Psg.zero).b∧(ps.getD k Psg.zero).b<P)∧1≤(ps.getD k Psg.zero).ticks∧(ps.getD k Psg.zero).ticks≤20
theorem StV.psv {P:Nat} {ps:List Psg} {xs:List Int} (h:StV P ps xs):PsV P ps:=fun k hk=>by
  have:=eJ.1 (h.pas k hk)
  omega
theorem tC {P:Nat} {ps:List Psg} (V:PsV P ps) {out:Int} {help:Bool} {k:Nat} (hk:k<ps.length) {a:Int} (h:0≤oth out help (ps.getD k Psg.zero) a):opn out help (ps.getD k Psg.zero)=true∧oth out help (ps.getD k Psg.zero) a<P∧((ps.getD k Psg.zero).a=a∧oth out help (ps.getD k Psg.zero) a=(ps.getD k Psg.zero).b∨(ps.getD k Psg.zero).b=a∧oth out help (ps.getD k Psg.zero) a=(ps.getD k Psg.zero).a):=by
  have:=V k hk
  unfold oth othr at h ⊢
  split at h
  · omega
  · rename_i h1
    refine ⟨by simpa using h1,?_⟩
    rw [if_neg h1]
    split at h
    · rename_i h2;rw [if_pos h2];exact ⟨by omega,.inl ⟨h2,rfl⟩⟩
    · rename_i h2
      rw [if_neg h2]
      split at h
      · rename_i h3;rw [if_pos h3];exact ⟨by omega,.inr ⟨h3,rfl⟩⟩
      · omega
def FixAt (ps:List Psg) (out:Int) (help:Bool) (tk:Nat→Int) (i k:Nat):Prop:=∀ b:Nat,oth out help (ps.getD k Psg.zero) i=(b:Int)→0≤tk b→0≤tk i∧tk i≤tk b+(ps.getD k Psg.zero).ticks
def potF (P:Nat) (tk:Nat→Int):Int:=sm (fun i=>if tk i<0 then 1000 else tk i) P
def cntF (P:Nat) (tk:Nat→Int):Int:=sm (fun i=>if tk i<0 then 0 else 1) P
structure FarI (P:Nat) (ps:List Psg) (out:Int) (help:Bool) (to:Nat) (tk:Nat→Int):Prop where
  to0:tk to=0
  low:∀ i,-1≤tk i
  walk:∀ i,i<P→0≤tk i→∃ l,Wk ps out help i to (tk i).toNat l
  bd:∀ i,i<P→tk i≤20*(cntF P tk-1)
theorem Pt {P:Nat} {tk:Nat→Int}:cntF P tk≤P:=by
  unfold cntF
  induction P with
  | zero=>exact Int.le_refl 0
  | succ n ih=>rw [sm];split <;> omega
theorem Ea {P:Nat} {tk:Nat→Int}:0≤potF P tk:=hX fun i _=>by split <;> omega
def tk0 (to:Nat) (i:Nat):Int:=if i=to then 0 else -1
section
variable {P:Nat} {ps:List Psg} {out:Int} {help:Bool} {to:Nat} {tk:Nat→Int}
theorem FarI.init (hto:to<P):FarI P ps out help to (tk0 to):=by
  have h1:tk0 to to=0:=by unfold tk0;rw [if_pos rfl]
  have hc:1≤cntF P (tk0 to):=by
    have:=Uk (f:=fun i=>if tk0 to i<0 then 0 else 1) (fun i _=>by split <;> omega) hto
    rw [h1] at this
    exact this
  refine ⟨h1,fun i=>?_,fun i _ h0=>?_,fun i _=>?_⟩
  · unfold tk0;split <;> omega
  · unfold tk0 at h0 ⊢
    split at h0
    · rename_i e;subst e;rw [if_pos rfl];exact ⟨_,Wk.nil _⟩
    · omega
  · unfold tk0 at hc ⊢;split <;> omega
theorem FarI.small (I:FarI P ps out help to tk) (hP:P≤10) {i:Nat} (hi:i<P):tk i≤180:=by
  have:=I.bd i hi
  have:=Pt (P:=P) (tk:=tk)
  omega
theorem FarI.relax (I:FarI P ps out help to tk) (V:PsV P ps) {i b k:Nat} (hi:i<P) (hb:b<P) (hk:k<ps.length) (ho:oth out help (ps.getD k Psg.zero) i=(b:Int)) (h0:0≤tk b) (hl:tk i<0∨tk b+(ps.getD k Psg.zero).ticks<tk i) :
    FarI P ps out help to (upd tk i (tk b+(ps.getD k Psg.zero).ticks))∧potF P (upd tk i (tk b+(ps.getD k Psg.zero).ticks))+1≤potF P tk∨900<tk b+(ps.getD k Psg.zero).ticks:=by
  by_cases hbig:900<tk b+(ps.getD k Psg.zero).ticks
  · exact .inr hbig
  refine .inl ?_
  have ht:1≤(ps.getD k Psg.zero).ticks∧(ps.getD k Psg.zero).ticks≤20:=(V k hk).2.2
  have hti:i≠to:=fun e=>by subst e;have:=I.to0;omega
  have hbi:b≠i:=fun e=>by subst e;omega
  have hc:cntF P (upd tk i (tk b+(ps.getD k Psg.zero).ticks))=cntF P tk+(if tk i<0 then 1 else 0):=by
    unfold cntF
    rw [sB (f:=fun i=>if tk i<0 then 0 else 1) hi (fun j _ hj=>by rw [cJ _ _ hj]),bX,if_neg (by omega)]
    split <;> omega
  refine ⟨⟨by rw [cJ _ _ (fun e=>hti e.symm)];exact I.to0,fun j=>?_,fun j hj h=>?_,fun j hj=>?_⟩,?_⟩
  · by_cases e:j=i
    · subst e;rw [bX];omega
    · rw [cJ _ _ e];exact I.low j
  · by_cases e:j=i
    · subst e
      rw [bX]
      obtain ⟨l,hw⟩:=I.walk b hb h0
      have:=Wk.cons hk ho hw
      rw [show (tk b+(ps.getD k Psg.zero).ticks).toNat=(ps.getD k Psg.zero).ticks.toNat+(tk b).toNat by omega]
      exact ⟨_,this⟩
    · rw [cJ _ _ e] at h ⊢;exact I.walk j hj h
  · rw [hc]
    have hbb:=I.bd b hb
    by_cases e:j=i
    · subst e
      rw [bX]
      have:=I.bd j hj
      split <;> omega
    · rw [cJ _ _ e];have:=I.bd j hj;split <;> omega
  · unfold potF
    rw [sB (f:=fun i=>if tk i<0 then 1000 else tk i) hi (fun j _ hj=>by rw [cJ _ _ hj]),bX,if_neg (by omega)]
    split <;> omega
theorem FarI.step (I:FarI P ps out help to tk) (V:PsV P ps) (hP:P≤10) {i b k:Nat} (hi:i<P) (hb:b<P) (hk:k<ps.length) (ho:oth out help (ps.getD k Psg.zero) i=(b:Int)) (h0:0≤tk b) (hl:tk i<0∨tk b+(ps.getD k Psg.zero).ticks<tk i) :
    FarI P ps out help to (upd tk i (tk b+(ps.getD k Psg.zero).ticks))∧potF P (upd tk i (tk b+(ps.getD k Psg.zero).ticks))+1≤potF P tk:=by
  rcases I.relax V hi hb hk ho h0 hl with h|h
  · exact h
  · exfalso
    have:=I.small hP hb
    have:(ps.getD k Psg.zero).ticks≤20:=(V k hk).2.2.2
    omega
end
theorem tD {ps:List Psg} {out:Int} {help:Bool} {tk:Nat→Int} {i k:Nat} (h:oth out help (ps.getD k Psg.zero) i<0∨tk (oth out help (ps.getD k Psg.zero) i).toNat<0∨(0≤tk i∧tk i≤tk (oth out help (ps.getD k Psg.zero) i).toNat+(ps.getD k Psg.zero).ticks)):FixAt ps out help tk i k:=fun b hb h0=>by
  rw [hb,Int.toNat_natCast] at h
  omega
def b2i (b:Bool):Int:=if b=true then 1 else 0
theorem xA {P:Nat} {ps:List Psg} {out:Int} {help:Bool} {tk:Nat→Int} {m:Bool} {f k:Nat} (h:m=false→(∀ i,i<f→∀ k,k<ps.length→FixAt ps out help tk i k)∧∀ q,q<k→FixAt ps out help tk f q) (hk:FixAt ps out help tk f k) :
    m=false→(∀ i,i<f→∀ k,k<ps.length→FixAt ps out help tk i k)∧∀ q,q<k+1→FixAt ps out help tk f q:=fun e=>⟨(h e).1,fun q hq=>by
  by_cases e2:q=k
  · subst e2;exact hk
  · exact (h e).2 q (by omega)⟩
theorem Vo {P:Nat} {ps:List Psg} {out:Int} {help:Bool} {tk:Nat→Int} {m:Bool} {f k:Nat} (hk:ps.length≤k) (h:m=false→(∀ i,i<f→∀ k,k<ps.length→FixAt ps out help tk i k)∧∀ q,q<k→FixAt ps out help tk f q) :
    m=false→∀ i,i<f+1→∀ k,k<ps.length→FixAt ps out help tk i k:=fun e i hi q hq=>by
  by_cases e2:i=f
  · subst e2;exact (h e).2 q (by omega)
  · exact (h e).1 i (by omega) q hq
theorem FarI.up {P:Nat} {ps:List Psg} {out:Int} {help:Bool} {to:Nat} {tk:Nat→Int} (I:FarI P ps out help to tk) (V:PsV P ps) (hP:P≤10) {i k:Nat} {X:Int} {m:Bool} {Q:Prop} (hi:i<P) (hk:k<ps.length) (ho:0≤oth out help (ps.getD k Psg.zero) i) (hb:oth out help (ps.getD k Psg.zero) i<P) (h0:0≤tk (oth out help (ps.getD k Psg.zero) i).toNat)
    (hl:tk i<0∨tk (oth out help (ps.getD k Psg.zero) i).toNat+(ps.getD k Psg.zero).ticks<tk i) (hp:potF P tk+b2i m≤X) :
    FarI P ps out help to (upd tk i (tk (oth out help (ps.getD k Psg.zero) i).toNat+(ps.getD k Psg.zero).ticks))∧potF P (upd tk i (tk (oth out help (ps.getD k Psg.zero) i).toNat+(ps.getD k Psg.zero).ticks))+b2i true≤X∧(true=false→Q):=by
  have h:=I.step V hP hi (b:=(oth out help (ps.getD k Psg.zero) i).toNat) (by omega) hk (by omega) h0 hl
  have h8:b2i true=1:=rfl
  have h9:0≤b2i m:=by unfold b2i;split <;> omega
  exact ⟨h.1,by omega,fun e=>by cases e⟩
structure FarOk (P:Nat) (ps:List Psg) (out:Int) (help:Bool) (to:Nat) (tk:Nat→Int):Prop where
  to0:tk to=0
  low:∀ i,-1≤tk i
  walk:∀ i,i<P→0≤tk i→∃ l,Wk ps out help i to (tk i).toNat l
  fix:∀ i,i<P→∀ k,k<ps.length→FixAt ps out help tk i k
  sml:∀ i,i<P→tk i≤200
section
variable {P:Nat} {ps:List Psg} {out:Int} {help:Bool} {to:Nat} {tk tk':Nat→Int}
theorem FarI.done (I:FarI P ps out help to tk) (hP:P≤10) (h:∀ i,i<P→∀ k,k<ps.length→FixAt ps out help tk i k):FarOk P ps out help to tk:=
  ⟨I.to0,I.low,I.walk,h,fun i hi=>by have:=I.small hP hi;omega⟩
theorem FarOk.least (h:FarOk P ps out help to tk) (V:PsV P ps) {a c n:Nat} {l:List Nat} (W:Wk ps out help a c n l):a<P→c=to→0≤tk a∧tk a≤n:=by
  induction W with
  | nil a=>intro _ e;subst e;rw [h.to0];exact ⟨Int.le_refl 0,Int.le_refl 0⟩
  | @cons a b c n k l hk ho _ ih=>
    intro ha e
    have hb:=(tC V hk (a:=(a:Int)) (by rw [ho];omega)).2.1
    rw [ho] at hb
    have h1:=ih (by omega) e
    have h2:=h.fix a ha k hk b ho h1.1
    have:=(V k hk).2.2
    omega
theorem FarOk.unique (h:FarOk P ps out help to tk) (h':FarOk P ps out help to tk') (V:PsV P ps) {i:Nat} (hi:i<P):tk i=tk' i:=by
  have key:∀ {t t':Nat→Int},FarOk P ps out help to t→FarOk P ps out help to t'→0≤t i→0≤t' i∧t' i≤t i:=fun {t t'} H H' h0=>by
    obtain ⟨l,W⟩:=H.walk i hi h0
    have:=H'.least V W hi rfl
    omega
  have l1:=h.low i
  have l2:=h'.low i
  by_cases h0:0≤tk i
  · have h1:=key h h' h0
    have h2:=key h' h h1.1
    omega
  · by_cases h1:0≤tk' i
    · have:=key h' h h1;omega
    · omega
end
open Classical in
noncomputable def dst (P:Nat) (ps:List Psg) (out:Int) (help:Bool) (to:Nat) (i:Nat):Int:=if h:∃ tk,FarOk P ps out help to tk then (if i<P then Classical.choose h i else -1) else 0
section
variable {P:Nat} {ps:List Psg} {out:Int} {help:Bool} {to:Nat} {tk:Nat→Int}
theorem nG (V:PsV P ps) (h:FarOk P ps out help to tk) {i:Nat} (hi:i<P):dst P ps out help to i=tk i:=by
  have he:∃ tk,FarOk P ps out help to tk:=⟨tk,h⟩
  unfold dst
  rw [dif_pos he,if_pos hi]
  exact (Classical.choose_spec he).unique h V hi
theorem Vp (V:PsV P ps) (hto:to<P) (h:FarOk P ps out help to tk):FarOk P ps out help to (dst P ps out help to):=by
  have he:∃ tk,FarOk P ps out help to tk:=⟨tk,h⟩
  have hd:∀ i,¬ i<P→dst P ps out help to i = -1:=fun i hi=>by unfold dst;rw [dif_pos he,if_neg hi]
  refine ⟨(nG V h hto).trans h.to0,fun i=>?_,fun i hi=>?_,fun i hi k hk b hb h0=>?_,fun i hi=>?_⟩
  · by_cases hi:i<P
    · rw [nG V h hi];exact h.low i
    · rw [hd i hi];omega
  · rw [nG V h hi];exact h.walk i hi
  · have hb2:=(tC V hk (a:=(i:Int)) (by rw [hb];omega)).2.1
    rw [hb] at hb2
    rw [nG V h (i:=b) (by omega)] at h0 ⊢
    rw [nG V h hi]
    exact h.fix i hi k hk b hb h0
  · rw [nG V h hi];exact h.sml i hi
end
def stepB (ps:List Psg) (out:Int) (help:Bool) (d:Nat→Int) (at_ k:Nat):Bool:=
  decide (0≤oth out help (ps.getD k Psg.zero) at_)&&(decide (0≤d (oth out help (ps.getD k Psg.zero) at_).toNat)&&decide (d (oth out help (ps.getD k Psg.zero) at_).toNat+(ps.getD k Psg.zero).ticks=d at_))
def stepK (ps:List Psg) (out:Int) (help:Bool) (d:Nat→Int) (at_:Nat):Nat:=fstB (stepB ps out help d at_) ps.length
def wayG (ps:List Psg) (out:Int) (help:Bool) (d:Nat→Int) (to:Nat):Nat→Nat→List Nat
  | 0,_=>[]
  | g+1,a=>if a=to then [] else stepK ps out help d a::wayG ps out help d to g (oth out help (ps.getD (stepK ps out help d a) Psg.zero) a).toNat
section
variable {P:Nat} {ps:List Psg} {out:Int} {help:Bool} {to:Nat} {d:Nat→Int}
theorem Eb {g:Nat}:wayG ps out help d to g to=[]:=by
  cases g with
  | zero=>rfl
  | succ g=>unfold wayG;rw [if_pos rfl]
theorem Ec (V:PsV P ps) {a k:Nat} (hk:k<ps.length) (h:stepB ps out help d a k=true):∃ b:Nat,oth out help (ps.getD k Psg.zero) a=(b:Int)∧b<P∧0≤d b∧d b+(ps.getD k Psg.zero).ticks=d a∧1≤(ps.getD k Psg.zero).ticks:=by
  unfold stepB at h
  simp only [Bool.and_eq_true,decide_eq_true_eq] at h
  have h1:=tC V hk h.1
  have hV:=(V k hk).2.2
  exact ⟨(oth out help (ps.getD k Psg.zero) a).toNat,by omega,by omega,h.2.1,h.2.2,hV.1⟩
theorem FarOk.step_ex (h:FarOk P ps out help to d) (V:PsV P ps) {a:Nat} (ha:a<P) (h0:0≤d a) (hne:a≠to):∃ k,k<ps.length∧stepB ps out help d a k=true:=by
  obtain ⟨l,W⟩:=h.walk a ha h0
  generalize hn:(d a).toNat=n at W
  cases W with
  | nil=>exact absurd rfl hne
  | @cons _ b _ n2 k l2 hk ho W2=>
    have hb:=(tC V hk (a:=(a:Int)) (by rw [ho];omega)).2.1
    rw [ho] at hb
    have h1:=h.least V W2 (by omega) rfl
    have h2:=h.fix a ha k hk b ho h1.1
    have:=(V k hk).2.2
    refine ⟨k,hk,?_⟩
    unfold stepB
    simp only [Bool.and_eq_true,decide_eq_true_eq]
    rw [ho,Int.toNat_natCast]
    omega
theorem FarOk.stp (h:FarOk P ps out help to d) (V:PsV P ps) {a:Nat} (ha:a<P) (h0:0≤d a) (hne:a≠to):stepK ps out help d a<ps.length∧stepB ps out help d a (stepK ps out help d a)=true∧∀ q,q<stepK ps out help d a→stepB ps out help d a q=false:=by
  obtain ⟨k,hk,hs⟩:=h.step_ex V ha h0 hne
  have key:∀ n,(∃ k,k<n∧stepB ps out help d a k=true)→fstB (stepB ps out help d a) n<n∧stepB ps out help d a (fstB (stepB ps out help d a) n)=true∧∀ q,q<fstB (stepB ps out help d a) n→stepB ps out help d a q=false:=by
    intro n
    induction n with
    | zero=>rintro ⟨k,hk,_⟩;omega
    | succ n ih=>
      rintro ⟨k,hk,hs⟩
      by_cases he:∃ k,k<n∧stepB ps out help d a k=true
      · obtain ⟨h1,h2,h3⟩:=ih he
        rw [fstB,if_pos h1]
        exact ⟨by omega,h2,h3⟩
      · have hno:∀ q,q<n→stepB ps out help d a q=false:=fun q hq=>by
          cases hb:stepB ps out help d a q with
          | false=>rfl
          | true=>exact absurd ⟨q,hq,hb⟩ he
        have hkn:k=n:=by
          by_cases e:k<n
          · exact absurd ⟨k,e,hs⟩ he
          · omega
        subst hkn
        rw [fstB,lU hno,if_neg (by omega),if_pos hs]
        exact ⟨by omega,hs,hno⟩
  exact key _ ⟨k,hk,hs⟩
theorem Gj {a k g:Nat} (hne:a≠to) (h:stepK ps out help d a=k):wayG ps out help d to (g+1) a=k::wayG ps out help d to g (oth out help (ps.getD k Psg.zero) a).toNat:=by
  rw [wayG,if_neg hne,h]
theorem FarOk.way (h:FarOk P ps out help to d) (V:PsV P ps):∀ (g a:Nat),a<P→0≤d a→d a≤g→Wk ps out help a to (d a).toNat (wayG ps out help d to g a):=by
  intro g
  induction g with
  | zero=>
    intro a ha h0 hg
    by_cases e:a=to
    · subst e;rw [Eb,h.to0];exact Wk.nil _
    · obtain ⟨h1,h2,h3⟩:=h.stp V ha h0 e
      obtain ⟨b,hb,hbP,hb0,hbd,hbt⟩:=Ec V h1 h2
      omega
  | succ g ih=>
    intro a ha h0 hg
    by_cases e:a=to
    · subst e;rw [Eb,h.to0];exact Wk.nil _
    · obtain ⟨h1,h2,h3⟩:=h.stp V ha h0 e
      obtain ⟨b,hb,hbP,hb0,hbd,hbt⟩:=Ec V h1 h2
      rw [Gj e rfl,hb,Int.toNat_natCast]
      have:=Wk.cons h1 hb (ih b hbP hb0 (by omega))
      rw [show (d a).toNat=(ps.getD (stepK ps out help d a) Psg.zero).ticks.toNat+(d b).toNat by omega]
      exact this
end
def plOk (P:Int) (l:List Int):Bool:=allN (fun k=>decide (0≤l.getD k 0∧l.getD k 0≤P-1)) l.length
theorem Bz {P:Int} {l:List Int} {k:Nat} (hk:k<l.length) (h:¬ (0≤l.getD k 0∧l.getD k 0≤P-1)):plOk P l=false:=fW hk (decide_eq_false h)
def wcl (l:List Nat) (k _j:Nat):Value := .int .i64 ((l.getD k 0:Nat):Int)
theorem Gk {x y:Int}:∀ k j,k<2→j<1→([[Value.int .i64 x],[Value.int .i64 y]].getD k []).getD j undef=icl [x,y] k j:=by
  intro k j hk hj
  have:j=0:=by omega
  subst this
  match k,hk with
  | 0,_=>rfl
  | 1,_=>rfl
section
variable {ps:List Psg} {out:Int} {help:Bool} {d:Nat→Int} {p:Nat} {k:Nat}
theorem Ed {q:Psg} {a:Int} (h:opn out help q=true):oth out help q a=othr q a:=by unfold oth;rw [if_neg (by rw [h];simp)]
theorem Kq {q:Psg} {a:Int} (h:opn out help q=false):oth out help q a = -1:=by unfold oth;rw [if_pos h]
end
section
variable {ps:List Psg} {out kind:Int}
end
theorem Wk.mono' {ps:List Psg} {out out':Int} {help help':Bool} {a c n:Nat} {l:List Nat} (W:Wk ps out help a c n l):(∀ k,k ∈ l→k<ps.length→opn out help (ps.getD k Psg.zero)=true→opn out' help' (ps.getD k Psg.zero)=true)→Wk ps out' help' a c n l:=by
  induction W with
  | nil a=>exact fun _ => .nil a
  | @cons a b c n k l hk ho _ ih=>
    intro h
    have ho1:opn out help (ps.getD k Psg.zero)=true:=by
      cases hb:opn out help (ps.getD k Psg.zero) with
      | true=>rfl
      | false=>rw [Kq hb] at ho;omega
    refine .cons hk ?_ (ih fun q hq=>h q (List.mem_cons_of_mem _ hq))
    rw [Ed (h k (List.mem_cons_self ..) hk ho1),←Ed ho1]
    exact ho
theorem Wk.mono {ps:List Psg} {out out':Int} {help help':Bool} (h:∀ k,k<ps.length→opn out help (ps.getD k Psg.zero)=true→opn out' help' (ps.getD k Psg.zero)=true) {a c n:Nat} {l:List Nat} (W:Wk ps out help a c n l):Wk ps out' help' a c n l:=W.mono' fun k _=>h k
end
section
def cgL (c:Cr) (r:Rid):List Value:=[.int .i64 c.lo,.int .i64 c.hi,.int .i64 c.st,.int .i64 c.mv,.int .i64 c.sp,.int .i64 (r.f:Int),.bool r.up,.bool r.sd,.int .i64 (r.dg:Int),.int .i64 (r.lf:Int),.int .i64 (r.wn:Int)]
theorem shl6 {p:Nat} (hp:p<6):i64ok (1*2^((p:Int)).toNat):=by
  rw [Int.toNat_natCast]
  rcases (show p=0∨p=1∨p=2∨p=3∨p=4∨p=5 by omega) with rfl|rfl|rfl|rfl|rfl|rfl <;> (unfold i64ok;omega)
theorem sub6 {p:Nat} (hp:p<6):i64ok (1*2^((p:Int)).toNat-1):=by
  rw [Int.toNat_natCast]
  rcases (show p=0∨p=1∨p=2∨p=3∨p=4∨p=5 by omega) with rfl|rfl|rfl|rfl|rfl|rfl <;> (unfold i64ok;omega)
def xB (c:Cr):Rid:=⟨c.st.toNat,true,false,0,0,0⟩
theorem Kr {c:Cr} (hc:crB c=true):ROk (xB c):=by
  have hc:=iV.1 hc
  exact ⟨by show c.st.toNat<6;omega,by show 0<64;decide,Nat.zero_le _,Nat.zero_le _,fun h=>absurd rfl h,(fun h=>by cases h),(fun h=>by cases h)⟩
theorem Ks {r:Rid} (h:(r.dg:Int)=0):endR r=r:=by unfold endR;rw [if_pos (by omega)]
theorem Kt {r:Rid} (h:¬ (r.dg:Int)=0) (h2:1<r.lf):endR r={ r with lf:=r.lf-1 }:=by unfold endR;rw [if_neg (by omega),if_pos h2]
theorem zJ {r:Rid} (h2:¬ 1<r.lf) (h3:(r.dg:Int)=1):endR r={ r with f:=nextF r.up r.f,sd:=false,dg:=0,lf:=r.lf-1 }:=by unfold endR;rw [if_neg (by omega),if_neg h2,if_pos (by omega)]
theorem Gl {r:Rid} (h:¬ (r.dg:Int)=0) (h2:¬ 1<r.lf) (h3:¬ (r.dg:Int)=1):endR r={ r with dg:=0,lf:=r.lf-1 }:=by unfold endR;rw [if_neg (by omega),if_neg h2,if_neg (by omega)]
theorem Ee {r:Rid} {p:Nat} (h:(r.dg:Int)=2∧(p:Int)=(r.f:Int)):lM r p=r∧pQ r p=true:=by
  have h2:r.dg=2∧p=r.f:=⟨by omega,by omega⟩
  unfold lM pQ
  exact ⟨if_pos h2,decide_eq_true h2⟩
theorem Ef {r:Rid} {p:Nat} (h:¬ ((r.dg:Int)=2∧(p:Int)=(r.f:Int))):lM r p={ r with wn:=r.wn ||| 2^p }∧pQ r p=false:=by
  have h2:¬ (r.dg=2∧p=r.f):=fun h9=>h ⟨by omega,by omega⟩
  unfold lM pQ
  exact ⟨if_neg h2,decide_eq_false h2⟩
theorem Ku {c:Cr} {r:Rid} (h:¬ (r.dg:Int)=0∨(r.wn:Int)=0):begR c r=r∧begB r=false:=by
  have h2:r.dg≠0∨r.wn=0:=by omega
  unfold begR begB
  refine ⟨if_pos h2,?_⟩
  rcases h2 with h2|h2
  · rw [decide_eq_false h2];rfl
  · rw [h2];cases decide (r.dg=0) <;> rfl
theorem vA {c:Cr} {r:Rid} (h:¬ (¬ (r.dg:Int)=0∨(r.wn:Int)=0)) (hs:fT r=true):begR c r={ r with dg:=2,lf:=c.sp.toNat,sd:=true,wn:=r.wn-2^r.f }∧begB r=true:=by
  have h2:¬ (r.dg≠0∨r.wn=0):=by omega
  unfold begR begB
  refine ⟨by rw [if_neg h2,if_pos hs],?_⟩
  rw [decide_eq_true (show r.dg=0 by omega),decide_eq_true (show r.wn≠0 by omega),hs];rfl
theorem oS {c:Cr} {r:Rid} (h:¬ (¬ (r.dg:Int)=0∨(r.wn:Int)=0)) (hs:fT r=false):begR c r={ r with up:=upB r.up r.f r.wn,dg:=1,lf:=c.mv.toNat }∧begB r=false:=by
  have h2:¬ (r.dg≠0∨r.wn=0):=by omega
  unfold begR begB
  refine ⟨by rw [if_neg h2,if_neg (by rw [hs];simp)],?_⟩
  rw [hs,Bool.and_false,Bool.and_false]
theorem vB {r:Rid} (h:ROk r):fT r=true↔bAnd (r.wn:Int) (1*2^r.f)≠0∧(r.sd=false∨(r.wn:Int)=1*2^r.f):=by
  unfold fT
  rw [Bool.and_eq_true,Bool.or_eq_true,Ga h.f h.wn,decide_eq_true_eq,Bool.not_eq_true',Int.one_mul]
  refine and_congr Iff.rfl (or_congr Iff.rfl ⟨fun h=>by rw [h];push_cast;rfl,fun h=>by exact_mod_cast h⟩)
theorem Kv {r:Rid} (h:ROk r) (h7:bAnd (r.wn:Int) (2^r.f)=0∨r.sd=true∧¬ (r.wn:Int)=2^r.f):fT r=false:=by
  rw [←Bool.not_eq_true,vB h,Int.one_mul]
  rintro ⟨h8,h9⟩
  rcases h7 with h7|⟨h7,h6⟩
  · exact h8 h7
  · rcases h9 with h9|h9
    · rw [h7] at h9;cases h9
    · exact h6 h9
theorem Kw (c:Cr) (w:World) (hc:crB c=true) :
    Calls Tryz.prog 129 [.agg [.int .i64 c.lo,.int .i64 c.hi,.int .i64 c.st,.int .i64 c.mv,.int .i64 c.sp].toArray].toArray w (Ret (fun u w'=>∃ b,u = .pointer (some ⟨b,0,none⟩)∧St w noF [boxM b 255 (cgL c (xB c))] w')):=by
 have hc9:=iV.1 hc
 refine enter Tryz.func129 rfl Tryz.ntmps129 rfl (fun a H=>?_)
 have S:=St.start w
 refine seq_list fun K1 k1=>?_
 refine aO H rfl S G G ?_;clear H a S;intro b1 _ a hb1 hbw1 S H
 refine ls 1 H<|sr 1 rfl<|sE ?_;clear H a;intro a H
 refine k1 _ _ ?_;clear k1 K1
 refine seq_list fun K2 k2=>?_
 refine ls 5 H<|sd ((aE kT eU rfl S (i:=0) G G))<|sf wQ rfl<|sl S 0 aD G G G<|sd (aR Vg G G)<|sd (aR Vh G G)<|sE ?_;clear H a;intro a H
 refine aO H rfl S G G ?_;clear H a S;intro b8 _ a hb8 hbw8 S H
 refine ls 1 H<|sr 1 rfl<|sE ?_;clear H a;intro a H
 refine k2 _ _ ?_;clear k2 K2
 refine wp_ret ?_
 refine ret1 (fn:=Tryz.f129) rfl H rfl ?_
 replace S:=(S.sel [0] G G)
 replace S:=boxM.same S (i:=0) rfl (cs':=cgL c (xB c)) (by show _=[_,_,_,_,_,Value.int .i64 ((c.st.toNat:Nat):Int),_,_,_,_,_];rw [show ((c.st.toNat:Nat):Int)=c.st by omega];rfl)
 exact ⟨_,rfl,S⟩
theorem Kx (c:Cr) (r:Rid) (b:Nat) (w:World) (F:Nat→Prop) (S:St w F [boxM b 255 (cgL c r)] w) (hr:ROk r) :
    Calls Tryz.prog 185 [.pointer (some ⟨b,0,none⟩)].toArray w (Ret (fun u w'=>u = .int .i64 (mskI r.up r.f)∧St w F [boxM b 255 (cgL c r)] w')):=by
 have hf:=hr.f
 refine enter Tryz.func185 rfl Tryz.ntmps185 rfl (fun a H=>?_)
 skip
 refine sS H fun K1 k1=>sr 1 rfl<|sE ?_;clear H a;intro a H
 refine k1 _ ?_;clear k1 K1
 refine sS H fun K2 k2=>sr 2 rfl<|sf bA rfl<|sf gO rfl<|sl S 0 aD G G G<|sd ((dE G G (by omega) (by omega) (shl6 hf)))<|sd (aS G G (sub6 hf))<|sr 1 rfl<|sE ?_;clear H a;intro a H
 refine k2 _ ?_;clear k2 K2
 refine wp_seq_k fun K3 k3=>?_
 replace H:=H.keep [0,3] rfl
 refine sS H fun K4 k4=>sr 2 rfl<|sf bA rfl<|sf oO rfl<|sl S 0 iL G G G<|sE ?_;clear H a;intro a H
 refine k4 _ ?_;clear k4 K4
 refine cond_ H rfl (fun hc1=>?_) (fun hc1=>?_)
 ·skip
  try simp only [o1,o2,o3,o4,o5,o6,o7,o8,o9,oa] at hc1
  replace H:=H.keep [0,3] rfl
  refine sS H fun K5 k5=>sr 3 rfl<|sf bA rfl<|sf gO rfl<|sl S 0 aD G G G<|sd ((dE G G (by omega) (by omega) (shl6 hf)))<|sd (nW G G)<|sd ((Fz rfl).to (v' := .int .i64 (mskI true r.f)) (congrArg (Value.int .i64) (Ji hf)))<|sr 1 rfl<|sE ?_;clear H a;intro a H
  refine k5 _ ?_;clear k5 K5
  refine wp_ret ?_
  refine ret1 (fn:=Tryz.f185) rfl H rfl ?_
  rw [hc1];exact ⟨rfl,(S.sel [0] G G)⟩
 try simp only [o1,o2,o3,o4,o5,o6,o7,o8,o9,oa] at hc1
 refine wp_skip ?_
 refine k3 _ _ ?_
 replace H:=H.keep [3] rfl
 refine sS H fun K6 k6=>sr 2 rfl<|sE ?_;clear H a;intro a H
 refine k6 _ ?_;clear k6 K6
 refine wp_ret ?_
 refine ret1 (fn:=Tryz.f185) rfl H rfl ?_
 rw [show r.up=false by simpa using hc1];exact ⟨by show Value.int .i64 (1*2^r.f-1)=Value.int .i64 (2^r.f-1);rw [Int.one_mul],(S.sel [0] G G)⟩
theorem Vq (c:Cr) (r:Rid) (b:Nat) (w:World) (F:Nat→Prop) (S:St w F [boxM b 255 (cgL c r)] w) (hr:ROk r) :
    Calls Tryz.prog 160 [.pointer (some ⟨b,0,none⟩)].toArray w (Ret (fun u w'=>u = .tuple #[]∧St w F [boxM b 255 (cgL c (endR r))] w')):=by
 have hf:=hr.f
 have hlf:=hr.lf
 refine enter Tryz.func160 rfl Tryz.ntmps160 rfl (fun a H=>?_)
 skip
 refine wp_seq_k fun K1 k1=>?_
 refine sS H fun K2 k2=>sr 2 rfl<|sf bA rfl<|sf fK rfl<|sl S 0 aD G G G<|sr 1 rfl<|sE ?_;clear H a;intro a H
 refine k2 _ ?_;clear k2 K2
 refine condE H rfl (fun hc1=>?_) (fun hc1=>?_)
 ·skip
  refine wp_ret ?_
  refine ret0 (fn:=Tryz.f160) rfl H ?_
  rw [Ks hc1];exact ⟨rfl,(S.sel [0] G G)⟩
 refine wp_skip ?_
 refine k1 _ _ ?_
 replace H:=H.keep [0] rfl
 refine seq_list fun K3 k3=>?_
 refine ls 9 H<|sr 2 rfl<|sf bA rfl<|sf kI rfl<|sl S 0 aD G G G<|sd ((aS G G (by unfold i64ok;omega)).to (v' := .int .i64 ((r.lf-1:Nat):Int)) (congrArg (Value.int .i64) (by have:=hr.le (by omega);omega)))<|sr 1 rfl<|sf bA rfl<|sf kI rfl<|sE ?_;clear H a;intro a H
 refine aB H S (i:=0) G G G G bC G G ?_
 clear H a S;intro _ a S H
 refine k3 _ _ ?_;clear k3 K3
 refine wp_seq_k fun K4 k4=>?_
 replace H:=H.keep [0] rfl
 refine sS H fun K5 k5=>sr 2 rfl<|sf bA rfl<|sf kI rfl<|sl S 0 aD G G G<|sr 1 rfl<|sE ?_;clear H a;intro a H
 refine k5 _ ?_;clear k5 K5
 refine condL H rfl (fun hc2=>?_) (fun hc2=>?_)
 ·skip
  refine wp_ret ?_
  refine ret0 (fn:=Tryz.f160) rfl H ?_
  rw [Kt hc1 (by omega)]
  replace S:=boxM.same S (i:=0) rfl (cs':=cgL c { r with lf:=r.lf-1 }) rfl
  exact ⟨rfl,(S.sel [0] G G)⟩
 refine wp_skip ?_
 refine k4 _ _ ?_
 refine wp_seq_k fun K6 k6=>?_
 replace H:=H.keep [0] rfl
 refine sS H fun K7 k7=>sr 2 rfl<|sf bA rfl<|sf fK rfl<|sl S 0 aD G G G<|sr 1 rfl<|sE ?_;clear H a;intro a H
 refine k7 _ ?_;clear k7 K7
 refine condE H rfl (fun hc3=>?_) (fun hc3=>?_)
 ·skip
  refine wp_seq_k fun K8 k8=>?_
  replace H:=H.keep [0] rfl
  refine sS H fun K9 k9=>sr 2 rfl<|sf bA rfl<|sf oO rfl<|sl S 0 iL G G G<|sE ?_;clear H a;intro a H
  refine k9 _ ?_;clear k9 K9
  refine cond_ H rfl (fun hc4=>?_) (fun hc4=>?_)
  ·skip
   try simp only [o1,o2,o3,o4,o5,o6,o7,o8,o9,oa] at hc4
   replace H:=H.keep [0] rfl
   refine one_list ?_
   refine ls 9 H<|sr 2 rfl<|sf bA rfl<|sf gO rfl<|sl S 0 aD G G G<|sd ((aK G G (by unfold i64ok;omega)).to (v' := .int .i64 ((r.f+1:Nat):Int)) rfl)<|sr 1 rfl<|sf bA rfl<|sf gO rfl<|sE ?_;clear H a;intro a H
   refine aB H S (i:=0) G G G G bC G G ?_
   clear H a S;intro _ a S H
   refine k8 _ _ ?_
   replace H:=H.keep [0] rfl
   refine one_list ?_
   refine ls 4 H<|sr 2 rfl<|sf bA rfl<|sf oP rfl<|sE ?_;clear H a;intro a H
   refine aB H S (i:=0) G G G G wH G G ?_
   clear H a S;intro _ a S H
   refine k6 _ _ ?_
   replace H:=H.keep [0] rfl
   refine one_list ?_
   refine ls 4 H<|sr 2 rfl<|sf bA rfl<|sf fK rfl<|sE ?_;clear H a;intro a H
   refine aB H S (i:=0) G G G G bC G G ?_
   clear H a S;intro _ a S H
   refine ret0 (fn:=Tryz.f160) rfl H ?_
   rw [zJ (by omega) hc3,show nextF r.up r.f=r.f+1 by rw [hc4];rfl]
   replace S:=boxM.same S (i:=0) rfl (cs':=cgL c { r with f:=r.f+1,sd:=false,dg:=0,lf:=r.lf-1 }) rfl
   exact ⟨rfl,(S.sel [0] G G)⟩
  try simp only [o1,o2,o3,o4,o5,o6,o7,o8,o9,oa] at hc4
  replace H:=H.keep [0] rfl
  refine one_list ?_
  refine ls 9 H<|sr 2 rfl<|sf bA rfl<|sf gO rfl<|sl S 0 aD G G G<|sd ((aS G G (by unfold i64ok;omega)).to (v' := .int .i64 ((r.f-1:Nat):Int)) (congrArg (Value.int .i64) (by have h9:=(wB hf hr.wn (hr.ah (by omega))).2 (by simpa using hc4);omega)))<|sr 1 rfl<|sf bA rfl<|sf gO rfl<|sE ?_;clear H a;intro a H
  refine aB H S (i:=0) G G G G bC G G ?_
  clear H a S;intro _ a S H
  refine k8 _ _ ?_
  replace H:=H.keep [0] rfl
  refine one_list ?_
  refine ls 4 H<|sr 2 rfl<|sf bA rfl<|sf oP rfl<|sE ?_;clear H a;intro a H
  refine aB H S (i:=0) G G G G wH G G ?_
  clear H a S;intro _ a S H
  refine k6 _ _ ?_
  replace H:=H.keep [0] rfl
  refine one_list ?_
  refine ls 4 H<|sr 2 rfl<|sf bA rfl<|sf fK rfl<|sE ?_;clear H a;intro a H
  refine aB H S (i:=0) G G G G bC G G ?_
  clear H a S;intro _ a S H
  refine ret0 (fn:=Tryz.f160) rfl H ?_
  rw [zJ (by omega) hc3,show nextF r.up r.f=r.f-1 by rw [show r.up=false by simpa using hc4];rfl]
  replace S:=boxM.same S (i:=0) rfl (cs':=cgL c { r with f:=r.f-1,sd:=false,dg:=0,lf:=r.lf-1 }) rfl
  exact ⟨rfl,(S.sel [0] G G)⟩
 refine wp_skip ?_
 refine k6 _ _ ?_
 replace H:=H.keep [0] rfl
 refine one_list ?_
 refine ls 4 H<|sr 2 rfl<|sf bA rfl<|sf fK rfl<|sE ?_;clear H a;intro a H
 refine aB H S (i:=0) G G G G bC G G ?_
 clear H a S;intro _ a S H
 refine ret0 (fn:=Tryz.f160) rfl H ?_
 rw [Gl hc1 (by omega) hc3]
 replace S:=boxM.same S (i:=0) rfl (cs':=cgL c { r with dg:=0,lf:=r.lf-1 }) rfl
 exact ⟨rfl,(S.sel [0] G G)⟩
theorem Ky (c:Cr) (r:Rid) (b:Nat) (p:Nat) (w:World) (F:Nat→Prop) (S:St w F [boxM b 255 (cgL c r)] w) (hr:ROk r) (hp:p<6) :
    Calls Tryz.prog 161 [.pointer (some ⟨b,0,none⟩),.int .i64 (p:Int)].toArray w (Ret (fun u w'=>u = .bool (pQ r p)∧St w F [boxM b 255 (cgL c (lM r p))] w')):=by
 have hf:=hr.f
 refine enter Tryz.func161 rfl Tryz.ntmps161 rfl (fun a H=>?_)
 skip
 refine sS H fun K1 k1=>sr 1 rfl<|sE ?_;clear H a;intro a H
 refine k1 _ ?_;clear k1 K1
 refine wp_seq_k fun K2 k2=>?_
 replace H:=H.keep [0,1] rfl
 refine sS H fun K3 k3=>sr 2 rfl<|sf bA rfl<|sf fK rfl<|sl S 0 aD G G G<|sr 2 rfl<|sg 7 6 11 18 true G G (fun hg7=>sy hg7<|sr 1 rfl<|sy hg7<|sr 1 rfl<|sy hg7<|sr 1 rfl<|sy hg7<|sf bA rfl<|sy hg7<|sf gO rfl<|sy hg7<|sl S 0 aD G G G<|sy hg7<|sr 1 rfl<|sz 7 G G G)<|sa G G G<|sE ?_;clear H a;intro a H
 refine k3 _ ?_;clear k3 K3
 refine cond_ H rfl (fun hc1=>?_) (fun hc1=>?_)
 ·skip
  try simp only [o1,o2,o3,o4,o5,o6,o7,o8,o9,oa] at hc1
  replace H:=H.keep [] rfl
  refine sS H fun K4 k4=>sr 1 rfl<|sE ?_;clear H a;intro a H
  refine k4 _ ?_;clear k4 K4
  refine wp_ret ?_
  refine ret1 (fn:=Tryz.f161) rfl H rfl ?_
  rw [(Ee (r:=r) (p:=p) (by omega)).1,(Ee (r:=r) (p:=p) (by omega)).2];exact ⟨rfl,(S.sel [0] G G)⟩
 try simp only [o1,o2,o3,o4,o5,o6,o7,o8,o9,oa] at hc1
 refine wp_skip ?_
 refine k2 _ _ ?_
 replace H:=H.keep [0,1] rfl
 refine rW 11 (by kernel_rfl) (by kernel_rfl) fun K5 k5=>?_
 replace S:=S.drew
 refine sF H<|sr 2 rfl<|sf bA rfl<|sf gP rfl<|sl S 0 aD G G G<|sr 1 rfl<|sd ((dE G G (by omega) (by omega) (shl6 hp)))<|sd ((nW G G).to (v' := .int .i64 ((r.wn ||| 2^p:Nat):Int)) (congrArg (Value.int .i64) (nX hp hr.wn).1))<|sr 1 rfl<|sf bA rfl<|sf gP rfl<|sE ?_;clear H a;intro a H
 refine aB H S (i:=0) G G G G bC G G ?_
 clear H a S;intro _ a S H
 refine k5 _ _ ?_;clear k5 K5
 replace H:=H.keep [] rfl
 refine sS H fun K6 k6=>sr 1 rfl<|sE ?_;clear H a;intro a H
 refine k6 _ ?_;clear k6 K6
 refine wp_ret ?_
 refine ret1 (fn:=Tryz.f161) rfl H rfl ?_
 rw [(Ef (r:=r) (p:=p) (by omega)).1,(Ef (r:=r) (p:=p) (by omega)).2]
 replace S:=boxM.same S (i:=0) rfl (cs':=cgL c { r with wn:=r.wn ||| 2^p }) rfl
 exact ⟨rfl,(S.sel [0] G G)⟩
theorem Gm (c:Cr) (r:Rid) (b:Nat) (w:World) (F:Nat→Prop) (S:St w F [boxM b 255 (cgL c r)] w) (hr:ROk r) (hc:crB c=true) :
    Calls Tryz.prog 162 [.pointer (some ⟨b,0,none⟩)].toArray w (Ret (fun u w'=>u = .bool (begB r)∧St w F [boxM b 255 (cgL c (begR c r))] w')):=by
 have hf:=hr.f
 have hc9:=iV.1 hc
 refine enter Tryz.func162 rfl Tryz.ntmps162 rfl (fun a H=>?_)
 skip
 refine sS H fun K1 k1=>sr 1 rfl<|sE ?_;clear H a;intro a H
 refine k1 _ ?_;clear k1 K1
 refine wp_seq_k fun K2 k2=>?_
 replace H:=H.keep [0] rfl
 refine sS H fun K3 k3=>sr 2 rfl<|sf bA rfl<|sf fK rfl<|sl S 0 aD G G G<|sr 2 rfl<|sg 6 6 10 16 false G G (fun hg7=>sy hg7<|sr 1 rfl<|sy hg7<|sr 1 rfl<|sy hg7<|sf bA rfl<|sy hg7<|sf gP rfl<|sy hg7<|sl S 0 aD G G G<|sy hg7<|sr 1 rfl<|sz 6 G G G)<|so G G G<|sE ?_;clear H a;intro a H
 refine k3 _ ?_;clear k3 K3
 refine cond_ H rfl (fun hc1=>?_) (fun hc1=>?_)
 ·skip
  try simp only [o1,o2,o3,o4,o5,o6,o7,o8,o9,oa] at hc1
  replace H:=H.keep [] rfl
  refine sS H fun K4 k4=>sr 1 rfl<|sE ?_;clear H a;intro a H
  refine k4 _ ?_;clear k4 K4
  refine wp_ret ?_
  refine ret1 (fn:=Tryz.f162) rfl H rfl ?_
  rw [(Ku (c:=c) hc1).1,(Ku (c:=c) hc1).2];exact ⟨rfl,(S.sel [0] G G)⟩
 try simp only [o1,o2,o3,o4,o5,o6,o7,o8,o9,oa] at hc1
 refine wp_skip ?_
 refine k2 _ _ ?_
 refine sS H fun K5 k5=>sr 2 rfl<|sf bA rfl<|sf gO rfl<|sl S 0 aD G G G<|sd ((dE G G (by omega) (by omega) (shl6 hf)))<|sr 1 rfl<|sE ?_;clear H a;intro a H
 refine k5 _ ?_;clear k5 K5
 refine wp_seq_k fun K6 k6=>?_
 replace H:=H.keep [0,3] rfl
 refine sS H fun K7 k7=>sr 2 rfl<|sf bA rfl<|sf gP rfl<|sl S 0 aD G G G<|sr 1 rfl<|sd (uW G G)<|sr 2 rfl<|sg 15 8 32 47 true G G (fun hg9=>sy hg9<|sr 1 rfl<|sy hg9<|sr 1 rfl<|sy hg9<|sf bA rfl<|sy hg9<|sf oP rfl<|sy hg9<|sl S 0 iL G G G<|sy hg9<|sr 1 rfl<|sy hg9<|sr 1 rfl<|sg 7 15 39 46 false G G (fun hg16=>sy hg16<|sr 1 rfl<|sy hg16<|sr 1 rfl<|sy hg16<|sf bA rfl<|sy hg16<|sf gP rfl<|sy hg16<|sl S 0 aD G G G<|sy hg16<|sr 1 rfl<|sy hg16<|sr 1 rfl<|sz 7 G G G)<|sy hg9<|so G G G<|sz 9 G G G)<|sa G G G<|sE ?_;clear H a;intro a H
 refine k7 _ ?_;clear k7 K7
 refine cond_ H rfl (fun hc2=>?_) (fun hc2=>?_)
 ·skip
  try simp only [o1,o2,o3,o4,o5,o6,o7,o8,o9,oa] at hc2
  have hst:fT r=true:=(vB hr).2 (by simpa using hc2)
  have hbt:bitB r.wn r.f=true:=by unfold fT at hst;rw [Bool.and_eq_true] at hst;exact hst.1
  replace H:=H.keep [0,3] rfl
  refine seq_list fun K8 k8=>?_
  refine ls 11 H<|sr 5 rfl<|sf sW rfl<|sf wR rfl<|sd ((aG aD rfl (boxM.rd S (i:=0) G G)).to (v' := .int .i64 ((c.sp.toNat:Nat):Int)) (congrArg (Value.int .i64) (show c.sp=_ by omega)))<|sr 1 rfl<|sf bA rfl<|sf fK rfl<|sE ?_;clear H a;intro a H
  refine aB H S (i:=0) G G G G bC G G ?_
  clear H a S;intro _ a S H
  refine ls 3 H<|sr 1 rfl<|sf bA rfl<|sf kI rfl<|sE ?_;clear H a;intro a H
  refine aB H S (i:=0) G G G G bC G G ?_
  clear H a S;intro _ a S H
  refine ls 3 H<|sr 1 rfl<|sf bA rfl<|sf oP rfl<|sE ?_;clear H a;intro a H
  refine aB H S (i:=0) G G G G wH G G ?_
  clear H a S;intro _ a S H
  refine k8 _ _ ?_;clear k8 K8
  replace H:=H.keep [0,3] rfl
  refine seq_list fun K9 k9=>?_
  refine ls 10 H<|sr 2 rfl<|sf bA rfl<|sf gP rfl<|sl S 0 aD G G G<|sr 1 rfl<|sd ((Fy G G).to (v' := .int .i64 ((r.wn-2^r.f:Nat):Int)) (congrArg (Value.int .i64) (Jh hf hr.wn hbt).1))<|sr 1 rfl<|sf bA rfl<|sf gP rfl<|sE ?_;clear H a;intro a H
  refine aB H S (i:=0) G G G G bC G G ?_
  clear H a S;intro _ a S H
  refine k9 _ _ ?_;clear k9 K9
  replace H:=H.keep [] rfl
  refine sS H fun K10 k10=>sr 1 rfl<|sE ?_;clear H a;intro a H
  refine k10 _ ?_;clear k10 K10
  refine wp_ret ?_
  refine ret1 (fn:=Tryz.f162) rfl H rfl ?_
  rw [(vA (c:=c) (r:=r) (by omega) hst).1,(vA (c:=c) (r:=r) (by omega) hst).2]
  replace S:=boxM.same S (i:=0) rfl (cs':=cgL c { r with dg:=2,lf:=c.sp.toNat,sd:=true,wn:=r.wn-2^r.f }) rfl
  exact ⟨rfl,(S.sel [0] G G)⟩
 try simp only [o1,o2,o3,o4,o5,o6,o7,o8,o9,oa] at hc2
 have hst:fT r=false:=by
   have h7:bAnd (r.wn:Int) (2^r.f)=0∨r.sd=true∧¬ (r.wn:Int)=2^r.f:=by simpa using hc2
   exact Kv hr h7
 refine wp_skip ?_
 refine k6 _ _ ?_
 refine wp_seq_k fun K11 k11=>?_
 replace H:=H.keep [0] rfl
 replace S:=S.drew
 refine seq_wq [(0,true),(1,true),(2,true),(3,true),(4,true),(5,true),(6,false),(7,true),(8,true)] (by kernel_rfl) (by kernel_rfl) (S.sel [0] G G) fun K12 k12=>?_
 refine qF H<|qr 2 rfl<|qd rfl (fun _ S=>(aC bA rfl))<|qd rfl (fun _ S=>(aC gP rfl))<|qd rfl (fun _ S=>aG aD rfl (boxM.rd S (i:=0) G G))<|qr 1 rfl<|qK ?_;clear H a;intro a H
 refine aV rfl ?_
 have S1:=(S.sel [0] G G)
 refine aA H G G Tryz.func185 G G (Kx c r b _ _ S1.startR hr) ?_;clear H a
 rintro _ _ a ⟨rfl,S2⟩ H
 replace S:=(S.sel [0] G G).callR (M:=[_]) S2;clear S1 S2
 refine wpList_nil (And.intro (S.sel [0] G G) ?_)
 refine qF H<|qd rfl (fun _ S=>uW G G)<|qr 1 rfl<|qK ?_;clear H a;intro a H
 refine bO ?_
 refine k12 _ _ ?_
 clear k12 K12
 refine condE H rfl (fun hc3=>?_) (fun hc3=>?_)
 ·skip
  have hah:=(Dh hf hr.wn).1 hc3
  replace H:=H.keep [0] rfl
  refine one_list ?_
  refine ls 10 H<|sr 3 rfl<|sf bA rfl<|sf oO rfl<|sl S 0 iL G G G<|sr 2 rfl<|sf bA rfl<|sf oO rfl<|sE ?_;clear H a;intro a H
  refine aB H S (i:=0) G G G G wH G G ?_
  clear H a S;intro _ a S H
  refine k11 _ _ ?_
  replace H:=H.keep [0] rfl
  refine seq_list fun K14 k14=>?_
  refine ls 10 H<|sr 4 rfl<|sf sW rfl<|sf rG rfl<|sd ((aG aD rfl (boxM.rd S (i:=0) G G)).to (v' := .int .i64 ((c.mv.toNat:Nat):Int)) (congrArg (Value.int .i64) (show c.mv=_ by omega)))<|sr 1 rfl<|sf bA rfl<|sf fK rfl<|sE ?_;clear H a;intro a H
  refine aB H S (i:=0) G G G G bC G G ?_
  clear H a S;intro _ a S H
  refine ls 3 H<|sr 1 rfl<|sf bA rfl<|sf kI rfl<|sE ?_;clear H a;intro a H
  refine aB H S (i:=0) G G G G bC G G ?_
  clear H a S;intro _ a S H
  refine k14 _ _ ?_;clear k14 K14
  replace H:=H.keep [] rfl
  refine sS H fun K15 k15=>sr 1 rfl<|sE ?_;clear H a;intro a H
  refine k15 _ ?_;clear k15 K15
  refine wp_ret ?_
  refine ret1 (fn:=Tryz.f162) rfl H rfl ?_
  rw [(oS (c:=c) (r:=r) (by omega) hst).1,(oS (c:=c) (r:=r) (by omega) hst).2,show upB r.up r.f r.wn=!r.up by unfold upB;rw [hah];rfl]
  replace S:=boxM.same S (i:=0) rfl (cs':=cgL c { r with up:=!r.up,dg:=1,lf:=c.mv.toNat }) rfl
  exact ⟨rfl,(S.sel [0] G G)⟩
 have hah:ahB r.up r.f r.wn=true:=by
   cases h9:ahB r.up r.f r.wn with
   | true=>rfl
   | false=>exact absurd ((Dh hf hr.wn).2 h9) hc3
 refine wp_skip ?_
 refine k11 _ _ ?_
 replace H:=H.keep [0] rfl
 refine seq_list fun K16 k16=>?_
 refine ls 10 H<|sr 4 rfl<|sf sW rfl<|sf rG rfl<|sd ((aG aD rfl (boxM.rd S (i:=0) G G)).to (v' := .int .i64 ((c.mv.toNat:Nat):Int)) (congrArg (Value.int .i64) (show c.mv=_ by omega)))<|sr 1 rfl<|sf bA rfl<|sf fK rfl<|sE ?_;clear H a;intro a H
 refine aB H S (i:=0) G G G G bC G G ?_
 clear H a S;intro _ a S H
 refine ls 3 H<|sr 1 rfl<|sf bA rfl<|sf kI rfl<|sE ?_;clear H a;intro a H
 refine aB H S (i:=0) G G G G bC G G ?_
 clear H a S;intro _ a S H
 refine k16 _ _ ?_;clear k16 K16
 replace H:=H.keep [] rfl
 refine sS H fun K17 k17=>sr 1 rfl<|sE ?_;clear H a;intro a H
 refine k17 _ ?_;clear k17 K17
 refine wp_ret ?_
 refine ret1 (fn:=Tryz.f162) rfl H rfl ?_
 rw [(oS (c:=c) (r:=r) (by omega) hst).1,(oS (c:=c) (r:=r) (by omega) hst).2,show upB r.up r.f r.wn=r.up by unfold upB;rw [hah];rfl]
 replace S:=boxM.same S (i:=0) rfl (cs':=cgL c { r with up:=r.up,dg:=1,lf:=c.mv.toNat }) rfl
 exact ⟨rfl,(S.sel [0] G G)⟩
theorem Pu (c:Cr) (r:Rid) (b:Nat) (l:List Nat) (LA:Option Addr) (lc:Nat) (w:World) (F:Nat→Prop) (S:St w F [boxM b 255 (cgL c r)] w) (hr:ROk r) (hc:crB c=true) (hl:InS w F 1 LA l.length (wcl l)) (hln:l.length≤1000000) (hlb:∀ k,k<l.length→l.getD k 0<6) :
    Calls Tryz.prog 130 [.pointer (some ⟨b,0,none⟩),.slice LA l.length lc].toArray w (Ret (fun u w'=>u = .int .i64 (tickS c r l:Int)∧St w F [boxM b 255 (cgL c (tickR c r l))] w')):=by
 refine enter Tryz.func130 rfl Tryz.ntmps130 rfl (fun a H=>?_)
 skip
 refine sS H fun K1 k1=>sr 1 rfl<|sE ?_;clear H a;intro a H
 refine k1 _ ?_;clear k1 K1
 refine seq_list fun K2 k2=>?_
 refine ls 1 H<|sr 1 rfl<|sE ?_;clear H a;intro a H
 have S1:=(S.sel [0] G G)
 refine aA H G G Tryz.func160 G G (Vq c r b _ _ S1.startR hr) ?_;clear H a
 rintro _ _ a ⟨rfl,S2⟩ H
 replace S:=(S.sel [0] G G).callR (M:=[_]) S2;clear S1 S2
 refine k2 _ _ ?_;clear k2 K2
 refine wp_seq_k fun K3 k3=>?_
 refine sS H fun K4 k4=>sr 1 rfl<|sL aW rfl<|sr 1 rfl<|sE ?_;clear H a;intro a H
 refine k4 _ ?_;clear k4 K4
 refine wp_block ?_
 refine loop_st (X:=Nat×Nat) (R0:=_) [0,9,10] H rfl (fun ⟨k,sv⟩=>[(4,.int .i64 (sv:Int)),(11,.int .i64 (k:Int))]) (fun ⟨k,sv⟩=>[boxM b 255 (cgL c (lN l (endR r) k))]) (fun g ⟨k,sv⟩=>(k≤l.length∧g+k=l.length)∧sv<64∧sv=servN l (endR r) k) (l.length) (0,0) ?_ (S.sel [0] G G) (H.keep [4,11,0,9,10] rfl) ?_
 · exact ⟨⟨by omega,by omega⟩,by decide,rfl⟩
 clear H S a
 intro g1 x1 a w1 hp S H K5 k5
 obtain ⟨k,sv⟩:=x1
 dsimp only at hp S H
 obtain ⟨⟨hkl,hgk⟩,hsv,hse⟩:=hp
 refine sS H fun K6 k6=>sr 1 rfl<|sE ?_;clear H a;intro a H
 refine k6 _ ?_;clear k6 K6
 refine wp_seq_k fun K7 k7=>?_
 refine condL H rfl (fun hc1=>?_) (fun hc1=>?_)
 ·skip
  refine wp_skip ?_
  refine k7 _ _ ?_
  refine wp_seq_k fun K8 k8=>?_
  refine wp_block ?_
  refine sS H fun K9 k9=>si aW bC G G (hl.adr (by omega)) (by omega)<|slm aD rfl (hl.rd S (by omega) (by omega))<|sr 1 rfl<|sE ?_;clear H a;intro a H
  refine k9 _ ?_;clear k9 K9
  have hpb:=hlb k (by omega)
  refine seq_list fun K10 k10=>?_
  refine ls 2 H<|sr 2 rfl<|sE ?_;clear H a;intro a H
  have S1:=(S.sel [0] G G)
  have hcl9:=Ky c (lN l (endR r) k) b (l.getD k 0) _ _ S1.startR (pR (rA hr) k (fun q hq=>hlb q (by omega))) (hlb k (by omega))
  refine aA H G G Tryz.func161 G G hcl9 ?_;clear H a hcl9
  rintro _ _ a ⟨rfl,S2⟩ H
  replace S:=(S.sel [0] G G).callR (M:=[_]) S2;clear S1 S2
  refine k10 _ _ ?_;clear k10 K10
  refine cond_ H rfl (fun hc2=>?_) (fun hc2=>?_)
  ·skip
   try simp only [o1,o2,o3,o4,o5,o6,o7,o8,o9,oa] at hc2
   replace H:=H.keep [0,4,6,9,10,11] rfl
   refine sO H<|sr 2 rfl<|sd ((dE G G (by omega) (by omega) (shl6 hpb)))<|sd ((nW G G).to (v' := .int .i64 ((sv ||| 2^l.getD k 0:Nat):Int)) (congrArg (Value.int .i64) (nX hpb hsv).1))<|sr 1 rfl<|sE ?_;clear H a;intro a H
   refine k8 _ _ ?_
   refine sO H<|sd (aK G G (by unfold i64ok;omega))<|sr 1 rfl<|sE ?_;clear H a;intro a H
   exact k5 (g1-1) (k+1,_) a _ (by omega) (⟨⟨by omega,by omega⟩,(nX hpb hsv).2,by rw [servN,if_pos hc2,hse]⟩) (S.sel [0] G G) (H.keep [4,11,0,9,10] rfl)
  try simp only [o1,o2,o3,o4,o5,o6,o7,o8,o9,oa] at hc2
  refine wp_skip ?_
  refine k8 _ _ ?_
  refine sO H<|sd (aK G G (by unfold i64ok;omega))<|sr 1 rfl<|sE ?_;clear H a;intro a H
  exact k5 (g1-1) (k+1,_) a _ (by omega) (⟨⟨by omega,by omega⟩,hsv,by rw [servN,if_neg (by rw [hc2];simp),hse]⟩) (S.sel [0] G G) (H.keep [4,11,0,9,10] rfl)
 refine wp_exit ?_
 refine k3 _ _ ?_
 refine wp_seq_k fun K14 k14=>?_
 obtain rfl:k=l.length:=by omega
 replace H:=H.keep [0,4] rfl
 refine seq_list fun K15 k15=>?_
 refine ls 1 H<|sr 1 rfl<|sE ?_;clear H a;intro a H
 have S1:=(S.sel [0] G G)
 refine aA H G G Tryz.func162 G G (Gm c (lN l (endR r) l.length) b _ _ S1.startR (pR (rA hr) l.length hlb) hc) ?_;clear H a
 rintro _ _ a ⟨rfl,S2⟩ H
 replace S:=(S.sel [0] G G).callR (M:=[_]) S2;clear S1 S2
 refine k15 _ _ ?_;clear k15 K15
 refine cond_ H rfl (fun hc3=>?_) (fun hc3=>?_)
 ·skip
  try simp only [o1,o2,o3,o4,o5,o6,o7,o8,o9,oa] at hc3
  have htk:=yP hc hr hlb
  have hff:=htk.f
  replace H:=H.keep [0,4] rfl
  refine sO H<|sr 3 rfl<|sf bA rfl<|sf gO rfl<|sd ((aG aD rfl (boxM.rd S (i:=0) G G)).to (v' := .int .i64 (((tickR c r l).f:Nat):Int)) rfl)<|sd ((dE G G (by omega) (by omega) (shl6 hff)))<|sd ((nW G G).to (v' := .int .i64 ((sv ||| 2^(tickR c r l).f:Nat):Int)) (congrArg (Value.int .i64) (nX hff hsv).1))<|sr 1 rfl<|sE ?_;clear H a;intro a H
  refine k14 _ _ ?_
  replace H:=H.keep [4] rfl
  refine sS H fun K17 k17=>sr 2 rfl<|sE ?_;clear H a;intro a H
  refine k17 _ ?_;clear k17 K17
  refine wp_ret ?_
  refine ret1 (fn:=Tryz.f130) rfl H rfl ?_
  exact ⟨by unfold tickS;rw [if_pos hc3,hse],(S.sel [0] G G)⟩
 try simp only [o1,o2,o3,o4,o5,o6,o7,o8,o9,oa] at hc3
 refine wp_skip ?_
 refine k14 _ _ ?_
 refine sS H fun K18 k18=>sr 2 rfl<|sE ?_;clear H a;intro a H
 refine k18 _ ?_;clear k18 K18
 refine wp_ret ?_
 refine ret1 (fn:=Tryz.f130) rfl H rfl ?_
 exact ⟨by unfold tickS;rw [if_neg (by rw [hc3];simp),hse],(S.sel [0] G G)⟩
end
section
section
variable {P:Program} {L:List (Nat×Value)} {w:World} {d:Option Nat} {ty:TypeId} {pos:String} {af:Array Edge} {g:Option (Nat×Bool)}
end
section
variable {P:Program} {L:List (Nat×Value)} {w:World} {d:Option Nat} {ty:TypeId} {pos:String} {af:Array Edge} {g:Option (Nat×Bool)}
end
def byteI (s:ByteArray) (k:Nat):Int:=((s.data.getD k 0).toNat:Int)
def bytM (b e:Nat) (s:ByteArray):Mem where
  fp:=fun k=>k=b
  holds:=fun w=>∃ (cs:Array Value) (fr:Nat×Nat),w.heap[b]?=some (.cells cs e fr)∧∀ k,k<s.size→cs[k]?=some (.int .u8 (byteI s k))
  stable:=fun _ _ h ⟨cs,fr,h1,h2⟩=>⟨cs,fr,(h b rfl).trans h1,h2⟩
section
variable {P:Program} {ops:Array Oper} {w w0:World} {F0:Nat→Prop} {R:List Mem} {Q:Exit→Act→World→Prop} {rest:List Oper} {N:FN} {L:List (Nat×Value)} {a:Act} {ty:TypeId} {pos:String} {af:Array Edge}
theorem bytM.inS {i b e:Nat} {s:ByteArray} (S:St w0 F0 R w) (hi:R[i]?=some (bytM b e s)):InS w noF 1 (some ⟨b,0,none⟩) s.size (fun k _ => .int .u8 (byteI s k)):=by
  intro _
  obtain ⟨cs,fr,hb,hc⟩:=S.holds hi
  refine ⟨b,0,rfl,cA hb,fun h=>h,fun k j hk hj=>?_⟩
  obtain rfl:j=0:=by omega
  have:=cell_of_row w b (k*1+0) cs e fr hb
  rw [Nat.zero_add,this,show k*1+0=k by omega,hc k hk]
theorem bytM.rd {i b e k j:Nat} {s:ByteArray} (S:St w0 F0 R w) (hi:R[i]?=some (bytM b e s)) (hk:k<s.size) (hj:j<1):w.cell? (pt (some ⟨b,0,none⟩) 1 k j)=some (.int .u8 (byteI s k)):=by
  obtain ⟨cs,fr,hb,hc⟩:=S.holds hi
  obtain rfl:j=0:=by omega
  have:pt (some ⟨b,0,none⟩) 1 k 0=⟨b,k,none⟩:=by simp [pt,Go.Proofs.YtinghmelkmblmaaGreat.adr]
  rw [this,←hc k hk]
  exact cell_of_row w b k cs e fr hb
end
end
section
section
variable {P:Program} {ops:Array Oper} {w w0:World} {F0:Nat→Prop} {R:List Mem} {Q:Exit→Act→World→Prop} {rest:List Oper} {N:FN} {L:List (Nat×Value)} {a:Act} {ty:TypeId} {pos:String} {af:Array Edge}
end
end
section
section
variable {ps:List Psg} {out:Int} {help:Bool} {l:List Int} {a b:Int} {k:Nat} {s:Int×Int}
end
section
variable {P:Nat} {ps:List Psg} {xs:List Int} {out:Int} {help:Bool} {fr to:Nat} {l:List Int}
end
structure Hr where
  out:Int
  help:Bool
  pe:List Int
  A:Option Addr
  c:Nat
def Hr.zero:Hr:=⟨0,false,[],none,0⟩
def Hr.cell (h:Hr):Nat→Value
  | 0 => .int .i64 h.out
  | 1 => .bool h.help
  | _ => .slice h.A h.pe.length h.c
structure Hq where
  out:Int
  help:Bool
  pe:List Int
def Hq.zero:Hq:=⟨0,false,[]⟩
def Hr.q (h:Hr):Hq:=⟨h.out,h.help,h.pe⟩
def hcl (l:List Hq) (DA:Nat→Option Addr) (dc:Nat→Nat) (k:Nat):Nat→Value
  | 0 => .int .i64 (l.getD k Hq.zero).out
  | 1 => .bool (l.getD k Hq.zero).help
  | _ => .slice (DA k) (l.getD k Hq.zero).pe.length (dc k)
structure Prm where
  fr:Int
  to:Int
  first:Int
  last:Int
  helped:Bool
def Prm.zero:Prm:=⟨0,0,0,0,false⟩
def Prm.cell (p:Prm):Nat→Value
  | 0 => .int .i64 p.fr
  | 1 => .int .i64 p.to
  | 2 => .int .i64 p.first
  | 3 => .int .i64 p.last
  | _ => .bool p.helped
def nH (l:List Prm) (k j:Nat):Value:=(l.getD k Prm.zero).cell j
def hqOk (pl:Int) (h:Hq):Bool:=decide (0≤h.out∧h.out≤4095)&&eT pl h.pe
def dayOk (pl:Int) (day:List Hq):Bool:=allN (fun k=>hqOk pl (day.getD k Hq.zero)) day.length&&decide (day.length≤48)
def dayE (pl:Int) (ps:List Psg) (xs:List Int) (day:List Hq):Int:=if stE pl ps xs≠0 then stE pl ps xs else if dayOk pl day=true then 0 else 81
def prmOk (pl:Int) (p:Prm):Bool:=decide (0≤p.fr∧p.fr≤pl-1∧0≤p.to∧p.to≤pl-1∧0≤p.first∧p.first≤p.last∧p.last<48)
def prsOk (pl:Int) (l:List Prm):Bool:=allN (fun k=>prmOk pl (l.getD k Prm.zero)) l.length&&decide (l.length≤40)
def keptE (pl:Int) (ps:List Psg) (xs:List Int) (day:List Hq) (l:List Prm):Int:=if dayE pl ps xs day≠0 then dayE pl ps xs day else if prsOk pl l=true then 0 else 82
theorem xC {pl:Int} {ps:List Psg} {xs:List Int} {day:List Hq} (h:dayE pl ps xs day=0):stE pl ps xs=0∧dayOk pl day=true:=by
  unfold dayE at h
  split at h
  · omega
  · split at h
    · exact ⟨by omega,by assumption⟩
    · cases h
theorem Kz {pl:Int} {day:List Hq} (h:dayOk pl day=true):day.length≤48∧∀ k,k<day.length→(0≤(day.getD k Hq.zero).out∧(day.getD k Hq.zero).out≤4095)∧eT pl (day.getD k Hq.zero).pe=true:=by
  unfold dayOk at h
  simp only [Bool.and_eq_true,decide_eq_true_eq] at h
  refine ⟨h.2,fun k hk=>?_⟩
  have:=cC.1 h.1 k hk
  unfold hqOk at this
  simpa using this
theorem zK {pl:Int} {ps:List Psg} {xs:List Int} {day:List Hq} {l:List Prm} (h:keptE pl ps xs day l=0):dayE pl ps xs day=0∧l.length≤40∧∀ k,k<l.length→prmOk pl (l.getD k Prm.zero)=true:=by
  unfold keptE at h
  split at h
  · omega
  · split at h
    · rename_i h1 h2
      unfold prsOk at h2
      simp only [Bool.and_eq_true,decide_eq_true_eq] at h2
      exact ⟨by omega,h2.2,cC.1 h2.1⟩
    · cases h
theorem qB {pl:Int} {p:Prm}:prmOk pl p=true↔(0≤p.fr∧p.fr≤pl-1∧0≤p.to∧p.to≤pl-1∧0≤p.first∧p.first≤p.last∧p.last<48):=by unfold prmOk;rw [decide_eq_true_eq]
noncomputable def fH (P:Nat) (ps:List Psg) (h:Hq) (n:Nat) (p:Prm):Bool:=(decide (p.first≤(n:Int))&&decide ((n:Int)≤p.last))&&decide (dst P ps h.out (h.help&&p.helped) p.to.toNat p.fr.toNat<0)
noncomputable def oT (P:Nat) (ps:List Psg) (day:List Hq) (l:List Prm) (h:Nat):Nat:=fstB (fun i=>fH P ps (day.getD h Hq.zero) h (l.getD i Prm.zero)) l.length
noncomputable def tE (P:Nat) (ps:List Psg) (day:List Hq) (l:List Prm):Nat:=fstB (fun h=>decide (oT P ps day l h<l.length)) day.length
noncomputable def keptV (pl:Int) (ps:List Psg) (xs:List Int) (day:List Hq) (l:List Prm):Int×Int×Bool×Int:=
  if keptE pl ps xs day l≠0 then (0,0,false,keptE pl ps xs day l)
  else if tE pl.toNat ps day l<day.length then ((tE pl.toNat ps day l:Int),(oT pl.toNat ps day l (tE pl.toNat ps day l):Int),false,0) else (0,0,true,0)
section
variable {P:Nat} {ps:List Psg} {xs:List Int} {day:List Hq} {l:List Prm} {h i:Nat}
theorem oU {pl:Int} (he:keptE pl ps xs day l≠0):keptV pl ps xs day l=(0,0,false,keptE pl ps xs day l):=by unfold keptV;rw [if_pos he]
theorem Pv (he:keptE P ps xs day l=0) (hh:h<day.length) (hi:i<l.length) (h1:∀ q,q<h→∀ j,j<l.length→fH P ps (day.getD q Hq.zero) q (l.getD j Prm.zero)=false) (h2:∀ j,j<i→fH P ps (day.getD h Hq.zero) h (l.getD j Prm.zero)=false)
    (hb:fH P ps (day.getD h Hq.zero) h (l.getD i Prm.zero)=true):keptV P ps xs day l=((h:Int),(i:Int),false,0):=by
  have e1:oT P ps day l h=i:=Ko h2 hb hi
  have e2:tE P ps day l=h:=Ko (fun q hq=>decide_eq_false (by unfold oT;rw [lU (h1 q hq)];omega)) (decide_eq_true (by rw [e1];exact hi)) hh
  unfold keptV
  rw [if_neg (by omega),Int.toNat_natCast,e2,if_pos hh,e1]
theorem La (he:keptE P ps xs day l=0) (h1:∀ q,q<day.length→∀ j,j<l.length→fH P ps (day.getD q Hq.zero) q (l.getD j Prm.zero)=false):keptV P ps xs day l=(0,0,true,0):=by
  have e2:tE P ps day l=day.length:=lU (fun q hq=>decide_eq_false (by unfold oT;rw [lU (h1 q hq)];omega))
  unfold keptV
  rw [if_neg (by omega),Int.toNat_natCast,e2,if_neg (by omega)]
theorem tF {pl:Int} {k:Nat} (hk:k<day.length) (hx:hqOk pl (day.getD k Hq.zero)=false):dayOk pl day=false:=by unfold dayOk;rw [fW hk hx];rfl
theorem zL {pl:Int} (h1:allN (fun k=>hqOk pl (day.getD k Hq.zero)) day.length=true):dayOk pl day=decide (day.length≤48):=by unfold dayOk;rw [h1];rfl
theorem Gn (h1:∀ q,q<h→∀ j,j<l.length→fH P ps (day.getD q Hq.zero) q (l.getD j Prm.zero)=false) (h2:∀ j,j<i→fH P ps (day.getD h Hq.zero) h (l.getD j Prm.zero)=false) (hi:l.length≤i) :
    ∀ q,q<h+1→∀ j,j<l.length→fH P ps (day.getD q Hq.zero) q (l.getD j Prm.zero)=false:=fun q hq j hj=>by
  by_cases e:q=h
  · subst e;exact h2 j (by omega)
  · exact h1 q (by omega) j hj
theorem Pw {f:Nat→Bool} (h:∀ j,j<i→f j=false) (hi:f i=false):∀ j,j<i+1→f j=false:=fun j hj=>by
  by_cases e:j=i
  · subst e;exact hi
  · exact h j (by omega)
end
section
variable {w w0:World} {F0:Nat→Prop} {R:List Mem} {e sz i k:Nat} {A:Nat→Option Addr} {n c:Nat→Nat} {cell:Nat→Nat→Nat→Value}
theorem ragM.none (S:St w0 F0 R w) (e sz:Nat) (A:Nat→Option Addr) (n c:Nat→Nat) (cell:Nat→Nat→Nat→Value):St w0 F0 (ragM e sz (fun q=>q<0) A n c cell::R) w:=
  S.new (Keeps.refl _ _) ⟨fun q hq=>absurd hq (Nat.not_lt_zero q),fun q _ hq=>absurd hq (Nat.not_lt_zero q)⟩ (fun b ⟨q,hq,_⟩=>absurd hq (Nat.not_lt_zero q))
theorem ragM.add {A':Option Addr} {n' c':Nat} {cell':Nat→Nat→Value} (S:St w0 F0 (ownM e sz A' n' c' cell'::R) w) (hi:R[i]?=some (ragM e sz (fun q=>q<k) A n c cell)) :
    St w0 F0 (R.set i (ragM e sz (fun q=>q<k+1) (upd A k A') (upd n k n') (upd c k c') (upd cell k cell'))) w:=by
  have e1:(fun q=>q<k)=(fun q=>q<k+1∧q≠k):=by funext q;exact propext ⟨fun h=>by omega,fun h=>by omega⟩
  rw [e1] at hi
  exact ragM.put (D:=fun q=>q<k+1) S hi (by omega)
theorem ragM.recell {n':Nat→Nat} {A':Nat→Option Addr} {c':Nat→Nat} {cell':Nat→Nat→Nat→Value} {D:Nat→Prop} (S:St w0 F0 R w) (hi:R[i]?=some (ragM e sz D A n c cell)) (h:∀ q,D q→A q=A' q∧n q=n' q∧c q=c' q∧cell q=cell' q):St w0 F0 (R.set i (ragM e sz D A' n' c' cell')) w:=by
  have hrow:∀ q,D q→ownM e sz (A' q) (n' q) (c' q) (cell' q)=ownM e sz (A q) (n q) (c q) (cell q):=fun q hq=>by obtain ⟨h1,h2,h3,h4⟩:=h q hq;rw [h1,h2,h3,h4]
  refine S.imp hi (fun ⟨h1,h2⟩=>⟨fun q hq=>by rw [hrow q hq];exact h1 q hq,fun q r hq hr hqr b hb hb'=>?_⟩) ?_
  · rw [hrow q hq] at hb;rw [hrow r hr] at hb';exact h2 q r hq hr hqr b hb hb'
  · rintro b ⟨q,hq,hb⟩;rw [hrow q hq] at hb;exact ⟨q,hq,hb⟩
end
end
section
def conC (v:Value) (_k _j:Nat):Value:=v
end
section
structure Mch where
  IA:Option Addr
  ic:Nat
  CA:Option Addr
  cc:Nat
  SA:Option Addr
  sc:Nat
  RA:Option Addr
  rc:Nat
  wh:Nat→Option Addr
  whc:Nat→Nat
  te:Nat→Option Addr
  tec:Nat→Nat
  se:Nat→Option Addr
  sec:Nat→Nat
def couC (_k:Nat):Nat→Value
  | 0 => .string (⟨#[110]⟩:ByteArray)
  | _ => .int .i64 7
def staC (_k:Nat):Nat→Value
  | 0 => .string (⟨#[100,97,121]⟩:ByteArray)
  | _ => .int .i64 0
def ruC (m:Mch) (k:Nat):Nat→Value
  | 0 => .int .i64 0
  | 1 => .int .i64 0
  | 2 => .slice (m.wh k) 1 (m.whc k)
  | _ => .slice (m.se k) 1 (m.sec k)
def whC (m:Mch) (k _i _j:Nat):Value := .slice (m.te k) 1 (m.tec k)
def litC (k _i:Nat):Nat→Value
  | 0 => .int .i64 1
  | 1 => .int .i64 0
  | 2 => .int .i64 0
  | _ => .bool (decide (k=1))
def setC (k _i:Nat):Nat→Value
  | 0 => .int .i64 ((k:Int)+1)
  | _ => .int .i64 0
structure MIn (w:World) (F:Nat→Prop) (m:Mch):Prop where
  inp:InS w F 1 m.IA 1 (conC (.string (⟨#[115,101,101,110]⟩:ByteArray)))
  cou:InS w F 2 m.CA 1 couC
  sta:InS w F 2 m.SA 1 staC
  rul:InS w F 4 m.RA 2 (ruC m)
  whn:∀ k,k<2→InS w F 1 (m.wh k) 1 (whC m k)
  ter:∀ k,k<2→InS w F 4 (m.te k) 1 (litC k)
  set:∀ k,k<2→InS w F 2 (m.se k) 1 (setC k)
theorem MIn.now {w0 w:World} {R:List Mem} {m:Mch} (h:MIn w0 noF m) (S:St w0 noF R w):MIn w noF m:=
  ⟨h.inp.now S,h.cou.now S,h.sta.now S,h.rul.now S,fun k hk=>(h.whn k hk).now S,fun k hk=>(h.ter k hk).now S,fun k hk=>(h.set k hk).now S⟩
end
section
def jJ (b:Nat→Bool) (n:Nat):Int:=match (List.range n).find? b with
  | some k=>(k:Int)
  | none => -1
theorem mM {b:Nat→Bool} {n k:Nat} (hk:k<n) (hb:b k=true) (h:∀ q,q<k→b q=false):jJ b n=k:=by
  unfold jJ
  have e:(List.range n).find? b=some k:=by
    rw [List.find?_eq_some_iff_append]
    refine ⟨hb,List.range k,(List.range (n-k-1)).map (k+1+·),?_,fun a ha=>?_⟩
    · have e1:n=k+((n-k-1)+1):=by omega
      conv=>lhs;rw [e1,List.range_add]
      rw [List.range_succ_eq_map]
      simp only [List.map_cons,Nat.add_zero,List.map_map]
      congr 2
      refine List.map_congr_left fun a _=>?_
      simp only [Function.comp]
      omega
    · rw [h a (List.mem_range.1 ha)];rfl
  rw [e]
theorem qP {b:Nat→Bool} {n:Nat} (h:∀ q,q<n→b q=false):jJ b n = -1:=by
  unfold jJ
  have e:(List.range n).find? b=none:=by
    rw [List.find?_eq_none]
    intro a ha
    rw [h a (List.mem_range.1 ha)];simp
  rw [e]
theorem Lb (b:Nat→Bool):∀ n,(∃ k,k<n∧b k=true∧∀ q,q<k→b q=false)∨∀ q,q<n→b q=false:=by
  intro n
  induction n with
  | zero=>exact .inr fun q hq=>absurd hq (Nat.not_lt_zero _)
  | succ n ih=>
    rcases ih with ⟨k,h1,h2,h3⟩|h
    · exact .inl ⟨k,by omega,h2,h3⟩
    · cases hb:b n
      · refine .inr fun q hq=>?_
        by_cases e:q=n
        · subst e;exact hb
        · exact h q (by omega)
      · exact .inl ⟨n,by omega,hb,h⟩
theorem xD (b:Nat→Bool) (n:Nat):(jJ b n = -1∧∀ q,q<n→b q=false)∨∃ k,k<n∧jJ b n=k∧b k=true∧∀ q,q<k→b q=false:=by
  rcases Lb b n with ⟨k,h1,h2,h3⟩|h
  · exact .inr ⟨k,h1,mM h1 h2 h3,h2,h3⟩
  · exact .inl ⟨qP h,h⟩
theorem Gp {p:Part} {l:List Use}:∀ m,m≤l.length→(∀ k,k<m→fits p l k)∨∃ n,n<m∧IsAt p l n:=by
  classical
  intro m
  induction m with
  | zero=>intro _;exact .inl fun k hk=>absurd hk (Nat.not_lt_zero _)
  | succ m ih=>
    intro hm
    rcases ih (by omega) with h|⟨n,hn,h⟩
    · by_cases hf:fits p l m
      · refine .inl fun k hk=>?_
        by_cases e:k=m
        · subst e;exact hf
        · exact h k (by omega)
      · exact .inr ⟨m,by omega,by omega,h,fun _=>hf⟩
    · exact .inr ⟨n,by omega,h⟩
theorem Ue (p:Part) (l:List Use):∃ n,IsAt p l n:=by
  rcases Gp (p:=p) l.length (Nat.le_refl _) with h|⟨n,_,h⟩
  · exact ⟨l.length,Nat.le_refl _,h,fun h=>absurd h (Nat.lt_irrefl _)⟩
  · exact ⟨n,h⟩
noncomputable def atN (p:Part) (l:List Use):Nat:=Classical.choose (Ue p l)
theorem xE (p:Part) (l:List Use):IsAt p l (atN p l):=Classical.choose_spec (Ue p l)
theorem xF {p:Part} {l:List Use} {n:Nat} (h:IsAt p l n):atN p l=n:=(xE p l).same h
theorem Px {p:Part} {l:List Use}:IsAt p l l.length↔atN p l=l.length:=⟨xF,fun h=>by have:=xE p l;rw [h] at this;exact this⟩
theorem Vr {p:Part} {l:List Use} (h:PartOk p l):∀ k,k≤l.length→(∀ q,q<k→fits p l q)→(fwd p l k).1≤(fwd p l k).2:=by
  intro k
  induction k with
  | zero=>intro _ _;exact Int.le_refl _
  | succ k ih=>
    intro hk hf
    have h1:=ih (by omega) fun q hq=>hf q (by omega)
    by_cases hm:(l.getD k Use.zero).meas=true
    · exact hf k (by omega) hm
    · have hu:=h.use (show k<l.length by omega)
      unfold useOk at hu
      simp only [decide_eq_true_eq] at hu
      have hr:=h.rate (k:=(l.getD k Use.zero).cls.toNat) (by omega)
      unfold gR at hr
      simp only [decide_eq_true_eq] at hr
      rw [fwd,if_neg hm]
      unfold addS cV
      have:=Int.mul_le_mul_of_nonneg_left hr.2.1 (show 0≤(l.getD k Use.zero).turns by omega)
      dsimp only
      omega
def fstep (p:Part) (s:Int×Int) (u:Use):Int×Int:=if u.meas then meetS (addS s (cV p u)) (u.lo,u.hi) else addS s (cV p u)
theorem zM {p:Part} {l:List Use} (h:PartOk p l) {k:Nat} (hk:k<l.length) (hf:∀ q,q<k→fits p l q):fits p l k↔(fwd p l (k+1)).1≤(fwd p l (k+1)).2:=
  ⟨fun h'=>Vr h (k+1) (by omega) fun q hq=>by
    by_cases e:q=k
    · subst e;exact h'
    · exact hf q (by omega),fun h' _=>h'⟩
open Classical in
noncomputable def wearE (p:Part) (l:List Use):Int:=if cE p l≠0 then cE p l else if IsAt p l l.length then 0 else 3
theorem Gq {p:Part} {l:List Use} (h:cE p l≠0):wearE p l=cE p l:=by unfold wearE;rw [if_pos h]
theorem Ca {p:Part} {l:List Use} (h:cE p l=0) (h':¬ IsAt p l l.length):wearE p l=3:=by unfold wearE;rw [if_neg (by omega),if_neg h']
theorem tG {p:Part} {l:List Use} (h:cE p l=0) (h':IsAt p l l.length):wearE p l=0:=by unfold wearE;rw [if_neg (by omega),if_pos h']
theorem lE {p:Part} {l:List Use} (h:wearE p l=0):cE p l=0∧IsAt p l l.length:=by
  unfold wearE at h
  split at h
  · exact absurd h (by assumption)
  · split at h
    · exact ⟨by omega,by assumption⟩
    · omega
noncomputable def refO (p:Part) (l:List Use):Int×Bool×Int:=if cE p l≠0 then (0,false,cE p l) else if atN p l<l.length then ((atN p l:Int),true,0) else (0,false,0)
def wornB (p:Part) (l:List Use) (k:Nat) (wr:Int):Bool:=(decide (p.turns<sumT l (k+1))||decide (p.age<(l.getD k Use.zero).day))||decide (p.worn*1000000<wr)
noncomputable def dR (p:Part) (l:List Use) (e:Int×Int→Int):Int×Int:=if wearE p l≠0 then (0,wearE p l) else (jJ (fun k=>wornB p l k (e (bP p l k))) l.length,0)
theorem Yw {p:Part} {l:List Use} (e:Int×Int→Int) (h:wearE p l=0):dR p l e=(jJ (fun k=>wornB p l k (e (bP p l k))) l.length,0):=by
  unfold dR
  rw [if_neg (by omega)]
end
section
structure EndN (N:Net) (r0:RM) (b x:Nat) (v:Int) (r:RM) (L:Nat→Int):Prop where
  fl:Fl N r0 r b x v
  nn:0≤v
  lev:LevOk N r b L
  full:L x<0
section
variable {N:Net} {r r0 r1 r2:RM} {b x u:Nat} {v v' m B:Int} {L L':Nat→Int}
theorem zN {S:Nat→Bool} (h:∀ i,i<N.k→∀ j,j<N.n i→r2 i j=r1 i j):resid N r2 S=resid N r1 S:=lO fun i hi=>lO fun j hj=>by rw [h i hi j hj]
theorem Fl.congr (W:N.Wf) (h:Fl N r r1 u x m) (e:∀ i,i<N.k→∀ j,j<N.n i→r2 i j=r1 i j):Fl N r r2 u x m:=
  ⟨fun S=>by rw [zN e];exact h.cut S,fun i hi j hj=>by rw [e i hi j hj,e _ (W.to_lt i hi j hj) _ (W.bk_lt i hi j hj)];exact h.pair i hi j hj,fun i hi j hj=>by rw [e i hi j hj];exact h.nn i hi j hj⟩
theorem Lc {S:Nat→Bool} (hb:S b=true) (hx:S x=false):ind S b-ind S x=1:=by unfold ind;rw [hb,hx];rfl
theorem EndN.bound (O:Ok N r0 B) (h:EndN N r0 b x v r L) {S:Nat→Bool} (hb:S b=true) (hx:S x=false):v≤resid N r0 S:=by
  have h1:=sC (S:=S) (h.fl.ok O)
  rw [h.fl.cut,Lc hb hx] at h1
  omega
theorem EndN.inside (h:EndN N r0 b x v r L) {S:Nat→Bool} (hb:S b=true) (hx:S x=false) (hc:resid N r0 S=v):∀ u,u<N.k→0≤L u→S u=true:=by
  have h0:resid N r S=0:=by rw [h.fl.cut,Lc hb hx];omega
  exact h.lev.least hb (tB h.fl.nn h0)
end
structure Eg where
  f:Nat
  t:Nat
  pas:Int
  tick:Int
def Eg.zero:Eg:=⟨0,0,0,0⟩
def Jn.zero:Jn:=⟨0,0,0,Mv.none⟩
def ixs (E:List Eg) (i:Nat):List Nat:=(List.range E.length).filter fun e=>decide ((E.getD e Eg.zero).f=i)
def tw (e:Nat):Nat:=if e%2=0 then e+1 else e-1
structure Lk (N:Net) (E:List Eg):Prop where
  len:∀ i,i<N.k→(ixs E i).length=N.n i
  lt:∀ i,i<N.k→∀ q,q<N.n i→(ixs E i).getD q 0<E.length
  ef:∀ i,i<N.k→∀ q,q<N.n i→(E.getD ((ixs E i).getD q 0) Eg.zero).f=i
  et:∀ i,i<N.k→∀ q,q<N.n i→(E.getD ((ixs E i).getD q 0) Eg.zero).t=N.to i q
  tw:∀ i,i<N.k→∀ q,q<N.n i→(ixs E (N.to i q)).getD (N.back i q) 0=tw ((ixs E i).getD q 0)
  inj:∀ i,i<N.k→∀ q q',q<N.n i→q'<N.n i→(ixs E i).getD q 0=(ixs E i).getD q' 0→q=q'
  evn:E.length%2=0
def rmE (E:List Eg) (r:Nat→Int):RM:=fun i q=>r ((ixs E i).getD q 0)
theorem Yx {e:Nat}:tw e≠e:=by unfold tw;split <;> omega
def pushE (r:Nat→Int) (e:Nat) (m:Int):Nat→Int:=upd (upd r e (r e-m)) (tw e) (r (tw e)+m)
section
variable {N:Net} {E:List Eg} {r:Nat→Int} {u j:Nat} {m B:Int}
theorem Ld:pushE r u m u=r u-m:=by unfold pushE;rw [cJ _ _ (fun e=>Yx e.symm),bX]
theorem Le:pushE r u m (tw u)=r (tw u)+m:=bX _ _ _
theorem Lf {e:Nat} (h1:e≠u) (h2:e≠tw u):pushE r u m e=r e:=by unfold pushE;rw [cJ _ _ h2,cJ _ _ h1]
theorem Lk.push (K:Lk N E) (W:N.Wf) (hu:u<N.k) (hj:j<N.n u):∀ i,i<N.k→∀ q,q<N.n i→rmE E (pushE r ((ixs E u).getD j 0) m) i q=along N (rmE E r) u j m i q:=by
  intro i hi q hq
  have htk:=W.to_lt u hu j hj
  have hbk:=W.bk_lt u hu j hj
  have same:∀ {i q i' q'},i<N.k→q<N.n i→i'<N.k→q'<N.n i'→(ixs E i).getD q 0=(ixs E i').getD q' 0→i=i'∧q=q':=by
    intro i q i' q' hi hq hi' hq' e
    have e1:i=i':=by rw [←K.ef i hi q hq,e,K.ef i' hi' q' hq']
    subst e1
    exact ⟨rfl,K.inj i hi q q' hq hq' e⟩
  show pushE r ((ixs E u).getD j 0) m ((ixs E i).getD q 0)=_
  by_cases h1:i=u∧q=j
  · obtain ⟨rfl,rfl⟩:=h1
    rw [Ld,oA W hi hq];rfl
  · by_cases h2:i=N.to u j∧q=N.back u j
    · obtain ⟨rfl,rfl⟩:=h2
      rw [oB,K.tw u hu j hj,Le]
      show _=r ((ixs E (N.to u j)).getD (N.back u j) 0)+m
      rw [K.tw u hu j hj]
    · rw [oC h1 h2,Lf (fun e=>h1 (same hi hq hu hj e)) (fun e=>h2 (same hi hq htk hbk (by rw [K.tw u hu j hj];exact e)))];rfl
structure Rch (N:Net) (E:List Eg) (r:Nat→Int) (b:Nat) (L:Nat→Int) (by_:Nat→Nat):Prop where
  from_:∀ v,v<N.k→0≤L v→v=b∨∃ u,u<N.k∧∃ j,j<N.n u∧0≤L u∧0<rmE E r u j∧N.to u j=v∧L v=L u+1∧by_ v=(ixs E u).getD j 0
theorem Rch.start {b:Nat} (hb:b<N.k) {L:Nat→Int} (hL:∀ v,v<N.k→L v=if v=b then 0 else -1) {by_:Nat→Nat}:Rch N E r b L by_:=⟨fun v hv h0=>by
  rw [hL v hv] at h0
  split at h0
  · rename_i e;exact .inl e
  · omega⟩
end
def goneI (out:Int) (p:Psg) (place:Int):Int:=
  if othr p place<0∨p.kind=4 then -1 else if p.kind=3∧bitI out p.mach=1 then p.still else if p.kind=3∧place=p.b then -1 else p.ticks
def endI (p:Psg) (k:Nat):Int:=if k=0 then p.a else p.b
def hC (U:Nat→Nat→Bool) (T:Nat) (f t:Nat) (d:Int) (c:Int) (tick:Nat):Int:=if (tick:Int)+d≤T∧U f tick=true∧U t (tick+d.toNat)=false then c else 0
def pC (U:Nat→Nat→Bool) (T:Nat) (xs:List Int) (out:Int) (p:Psg) (tick k:Nat):Int:=if 0≤goneI out p (endI p k)∧hasI xs (endI p k)=false then hC U T (endI p k).toNat (endI p (1-k)).toNat (goneI out p (endI p k)) p.wide tick else 0
section
variable {P T:Nat} {pe xs:List Int} {out:Int} {ps:List Psg} {S:Nat→Bool}
end
section
variable {P T:Nat} {pe xs:List Int} {out:Int} {ps:List Psg} {S:Nat→Bool}
end
section
variable {P T:Nat} {pe xs:List Int} {out:Int} {ps:List Psg} {S:Nat→Bool} {v v':Int} {r r':RM} {L L':Nat→Int}
end
section
variable {N:Net} {E:List Eg} {r r2:Nat→Int} {b x:Nat} {L:Nat→Int} {by_:Nat→Nat} {m B:Int}
end
section
variable {P T:Nat} {pe xs:List Int} {out:Int} {ps:List Psg}
end
section
variable {P T:Nat} {ps:List Psg} {xs:List Int} {out:Int} {pe bl:List Int} {k:Nat}
end
section
variable {P T:Nat} {ps:List Psg} {xs:List Int} {out:Int} {pe pe' bl:List Int}
end
section
variable (ps:List Psg) (xs:List Int) (out:Int) (pe:List Int) (l:List Mv)
def mvIn (m:Mv):Prop:=(0≤m.pas∧m.pas<ps.length)∧(0≤m.at_∧m.at_≤60)∧(1≤m.many∧m.many≤1000)
instance (m:Mv):Decidable (mvIn ps m):=by unfold mvIn;exact inferInstance
end
section
variable {P T:Nat} {ps:List Psg} {xs:List Int} {out:Int} {pe bl:List Int} {l:List Mv} {m:Mv}
end
end
section
def enc2 (k:Int×Int):Value := .agg #[.int .i64 k.1,.int .i64 k.2]
section
variable {P:Program} {w:World} {kt e:TypeId}
theorem Gr (h1:One P e) {cs:Array Value} {i:Nat} {v:Value} (h:cs[i]?=some v):(part e cs i).run P w = .ok v w:=by
  have:(isAgg e).run P w = .ok false w:=by
    unfold One jU at h1
    unfold isAgg
    cases hu:P.underlying e with
    | none=>rw [hu] at h1;simp at h1
    | some d=>rw [hu] at h1;simp only [Sem.run_bind,bT hu,Result.andThen_ok];cases d <;> simp_all
  simp [part,this,h]
theorem Py (he:P.underlying e=some (.int .i64)) (d:Nat) (a b:Int):(Op.equalIn (d+1) e (.int .i64 a) (.int .i64 b)).run P w = .ok (a == b) w:=by
  simp [Op.equalIn,bT he]
theorem Pz (he:P.underlying e=some (.int .i64)) (m:Bool) (n:Nat) (a:Int):(Instr.checkKey m (n+1) e (.int .i64 a)).run P w = .ok () w:=by
  rw [Instr.checkKey]
  simp only [Sem.run_bind,bT he,Result.andThen_ok]
  rfl
theorem Qa {κ:Type} [DecidableEq κ] {enc:κ→Value} (heq:∀ (k k':κ) (w:World),(Op.equal kt (enc k) (enc k')).run P w = .ok (decide (k=k')) w) (k:κ):∀ (l:List (κ×Value)) (es:List MapEntry) (i:Nat),es.map (fun e=>(e.key,e.val))=l.map (fun p=>(enc p.1,p.2))→(Instr.findAsking kt (enc k) es i).run P w = .ok (findL k l i) w:=by
  intro l
  induction l with
  | nil=>
    intro es i he
    have:es=[]:=by simpa using he
    subst this
    rfl
  | cons p l ih=>
    intro es i he
    cases es with
    | nil=>simp at he
    | cons x es=>
      simp only [List.map_cons,List.cons.injEq,Prod.mk.injEq] at he
      obtain ⟨⟨g1,g2⟩,g3⟩:=he
      rw [Instr.findAsking,g1]
      simp only [Sem.run_bind,heq,Result.andThen_ok,findL]
      by_cases hk:k=p.1
      · rw [if_pos hk,decide_eq_true hk,g2];rfl
      · rw [if_neg hk,decide_eq_false hk]
        exact ih es (i+1) g3
end
theorem Lg {κ:Type} {enc:κ→Value} {es:List MapEntry} {l:List (κ×Value)} {j:Nat} {k:κ} {v:Value} (he:es.map (fun e=>(e.key,e.val))=l.map (fun p=>(enc p.1,p.2))) (h:l[j]?=some (k,v)):∃ e,es[j]?=some e∧e.key=enc k∧e.val=v:=by
  have h1:(es.map (fun e=>(e.key,e.val)))[j]?=(l.map (fun p=>(enc p.1,p.2)))[j]?:=by rw [he]
  rw [List.getElem?_map,List.getElem?_map,h] at h1
  cases h2:es[j]? with
  | none=>rw [h2] at h1;simp at h1
  | some e=>rw [h2] at h1;simp at h1;exact ⟨e,rfl,h1.1,h1.2⟩
def mapK {κ:Type} [DecidableEq κ] (enc:κ→Value) (b:Nat) (Φ:(κ→Option Value)→Prop):Mem where
  fp:=fun k=>k=b
  holds:=fun w=>∃ (es:Array MapEntry) (ck:Nat) (l:List (κ×Value)),w.heap[b]?=some (.map es ck)∧es.toList.map (fun e=>(e.key,e.val))=l.map (fun p=>(enc p.1,p.2))∧(∀ x ∈ es.toList,x.born<ck)∧(es.toList.map MapEntry.born).Nodup∧Φ (getL l)
  stable:=fun _ _ h ⟨es,ck,l,h1,h2⟩=>⟨es,ck,l,(h b rfl).trans h1,h2⟩
section
variable {P:Program} {ops:Array Oper} {w w0:World} {F0:Nat→Prop} {R:List Mem} {Q:Exit→Act→World→Prop} {rest:List Oper} {N:FN} {L:List (Nat×Value)} {a:Act} {ty:TypeId} {pos:String} {af:Array Edge}
variable {κ:Type} [DecidableEq κ] {enc:κ→Value} {Φ Φ':(κ→Option Value)→Prop}
theorem iG {d t:Nat} (enc:κ→Value) (Φ:(κ→Option Value)→Prop) (hΦ:Φ (fun _=>none)) (H:Fr N L a) (hd:Nat.blt d N.n=true) (S:St w0 F0 R w)
    (k:∀ b w' a',w0.heap.size≤b→St w0 F0 (mapK enc b Φ::R) w'→Fr N ((d,.map (some b))::L) a'→wpList P ops Q rest a' w') :
    wpList P ops Q (⟨some d,.makeMap t none,ty,pos,af,none⟩::rest) a w:=by
  refine wpList_plain rfl fun K hK=>?_
  unfold Oper.wp
  have e:(execOp a.eval ⟨some d,.makeMap t none,ty,pos,af,none⟩).run P w = .ok (.value (.map (some w.heap.size))) (w.alloc (.map #[] 0)):=by
    simp [execOp,Instr.makeMap,newObj,Sem.run]
  rw [e]
  refine hK _ _ (k w.heap.size _ _ S.size (S.new (Keeps.alloc w _ _) ⟨#[],0,[],heap_alloc_new w _,rfl,fun x hx=>by simp at hx,by simp,hΦ⟩ ?_) (H.put _ hd))
  intro q hq
  rw [show q=w.heap.size from hq]
  simp
theorem oV {x y:Operand} {t kt et b i:Nat} {d:Option Nat} {g:Option (Nat×Bool)} {z v:Value} {k:κ} (S:St w0 F0 R w) (hi:R[i]?=some (mapK enc b Φ)) (ht:MapT P t kt et) (hk:KeyOk P kt enc) (hz:ZeroV P et z) (hx:ev L x=some (.map (some b))) (hy:ev L y=some (enc k)) (hv:∀ h,Φ h→(h k).getD z=v) :
    Does P L ⟨d,.lookup t x y false,ty,pos,af,g⟩ w v:=fun ρ hρ=>by
  obtain ⟨es,ck,l,hb,he,_,_,hΦ⟩:=S.holds hi
  have:=nC (k:=k) ht hk hz (⟨es,ck,hb,he⟩:(mapM enc b l).holds w) false
  simp [execOp,hρ _ _ hx,hρ _ _ hy,this,hv _ hΦ]
theorem lV {x y:Operand} {t kt et b i:Nat} {d:Option Nat} {g:Option (Nat×Bool)} {z v:Value} {s:Bool} {k:κ} (S:St w0 F0 R w) (hi:R[i]?=some (mapK enc b Φ)) (ht:MapT P t kt et) (hk:KeyOk P kt enc) (hz:ZeroV P et z) (hx:ev L x=some (.map (some b))) (hy:ev L y=some (enc k)) (hv:∀ h,Φ h→(h k).getD z=v∧(h k).isSome=s) :
    Does P L ⟨d,.lookup t x y true,ty,pos,af,g⟩ w (.tuple #[v,.bool s]):=fun ρ hρ=>by
  obtain ⟨es,ck,l,hb,he,_,_,hΦ⟩:=S.holds hi
  have:=nC (k:=k) ht hk hz (⟨es,ck,hb,he⟩:(mapM enc b l).holds w) true
  obtain ⟨h1,h2⟩:=hv _ hΦ
  simp [execOp,hρ _ _ hx,hρ _ _ hy,this,h1,h2]
theorem tH {l:List (κ×Value)} {k:κ} {v:Value} (h:findL k l 0=none):setL l k v=l++[(k,v)]:=by unfold setL;rw [h]
theorem tI {l:List (κ×Value)} {k:κ} {v v0:Value} {j:Nat} (h:findL k l 0=some (j,v0)):setL l k v=l.modify j fun p=>(p.1,v):=by unfold setL;rw [h]
theorem vC {l:List (κ×Value)} {k:κ} {v:Value}:getL (setL l k v)=fun k'=>if k'=k then some v else getL l k':=funext fun k'=>yT v k k' l
theorem vD {l:List (κ×Value)} {k:κ} (h:findL k l 0=none):getL l k=none:=by unfold getL;rw [h];rfl
theorem qQ (f:MapEntry→MapEntry) (hf:∀ e,(f e).born=e.born):∀ (l:List MapEntry) (i:Nat),(l.modify i f).map MapEntry.born=l.map MapEntry.born:=by
  intro l
  induction l with
  | nil=>intro i;simp
  | cons e l ih=>
    intro i
    cases i with
    | zero=>simp [hf]
    | succ i=>simp [List.modify_succ_cons,ih]
theorem Eh {l l':List MapEntry} {ck:Nat} (h:l'.map MapEntry.born=l.map MapEntry.born) (hl:∀ x ∈ l,x.born<ck):∀ x ∈ l',x.born<ck:=fun x hx=>by
  have h1:x.born ∈ l'.map MapEntry.born:=List.mem_map.2 ⟨x,hx,rfl⟩
  rw [h] at h1
  obtain ⟨y,hy,e⟩:=List.mem_map.1 h1
  have:=hl y hy
  omega
theorem zO {l:List MapEntry} {e:MapEntry} {ck:Nat} (he:e.born=ck) (hl:∀ x ∈ l,x.born<ck) (hn:(l.map MapEntry.born).Nodup):(∀ x ∈ l++[e],x.born<ck+1)∧((l++[e]).map MapEntry.born).Nodup:=by
  constructor
  · intro x hx
    rcases List.mem_append.1 hx with hx|hx
    · have:=hl x hx;omega
    · rw [List.mem_singleton.1 hx];omega
  · rw [List.map_append,List.nodup_append]
    refine ⟨hn,by simp,fun p hp q hq e1=>?_⟩
    obtain ⟨x,hx,rfl⟩:=List.mem_map.1 hp
    simp only [List.map_cons,List.map_nil,List.mem_singleton] at hq
    have:=hl x hx
    omega
theorem iR {x y u:Operand} {t kt et b i:Nat} {k:κ} {v:Value} (Φ':(κ→Option Value)→Prop) (H:Fr N L a) (S:St w0 F0 R w) (hi:R[i]?=some (mapK enc b Φ)) (ht:MapT P t kt et) (hk:KeyOk P kt enc) (hx:ev L x=some (.map (some b))) (hy:ev L y=some (enc k)) (hu:ev L u=some v)
    (hΦ':∀ h,Φ h→Φ' (fun k'=>if k'=k then some v else h k'))
    (kk:∀ w' a',St w0 F0 (R.set i (mapK enc b Φ')) w'→Fr N L a'→wpList P ops Q rest a' w') :
    wpList P ops Q (⟨none,.mapUpdate t x y u,ty,pos,af,none⟩::rest) a w:=by
  refine wpList_plain rfl fun K hK=>?_
  obtain ⟨es,ck,l,hb,he,hlt,hnd,hΦ⟩:=S.holds hi
  have hf:=hk.find l k es.toList w he
  have hg:(getObj b).run P w = .ok (.map es ck) w:=by simp [getObj,Sem.run,hb]
  have hs:∀ o,(setObj b o).run P w = .ok () (w.putObj b o):=fun o=>by simp [setObj,Sem.run,hb,World.putObj]
  have hkeeps:∀ o,Keeps w (w.putObj b o) (fun k=>k=b):=fun o=>⟨rfl,rfl,rfl,by simp [World.putObj],fun q _ hq=>World.putObj_heap_other (fun e=>hq e)⟩
  have hΦ2:Φ' (getL (setL l k v)):=by rw [vC];exact hΦ' _ hΦ
  unfold MapT at ht
  unfold Oper.wp
  cases hfl:findL k l 0 with
  | none=>
    rw [hfl] at hf
    have e1:(execOp a.eval ⟨none,.mapUpdate t x y u,ty,pos,af,none⟩).run P w = .ok .skip (w.putObj b (.map (es.push { key:=enc k,val:=v,born:=ck }) (ck+1))):=by
      simp [execOp,H.eval hx,H.eval hy,H.eval hu,Instr.mapUpdate,bT ht,hg,hk.check,hf,hs]
    rw [e1]
    have hb2:=zO (e:={ key:=enc k,val:=v,born:=ck }) rfl hlt hnd
    refine hK _ _ (kk _ _ (S.updSame hi (hkeeps _) ⟨_,_,setL l k v,World.putObj_heap_same (cA hb),?_,?_,?_,hΦ2⟩ (fun _ h=>h)) (H.put_none _))
    · rw [tH hfl];simp [he]
    · rw [Array.toList_push];exact hb2.1
    · rw [Array.toList_push];exact hb2.2
  | some q=>
    obtain ⟨j,v0⟩:=q
    rw [hfl] at hf
    have hat:=nZ hfl
    obtain ⟨e0,h1,h2,h3⟩:=Lg he hat
    have hej:(es[j]?).map (·.key)=some (enc k):=by rw [←Array.getElem?_toList,h1,←h2];rfl
    have hst:(Instr.keyThatStays (enc k) (enc k)).run P w = .ok (enc k) w:=by simp [Instr.keyThatStays,hk.bits k]
    have e1:(execOp a.eval ⟨none,.mapUpdate t x y u,ty,pos,af,none⟩).run P w = .ok .skip (w.putObj b (.map (es.modify j fun e=>{ e with key:=enc k,val:=v }) ck)):=by
      simp [execOp,H.eval hx,H.eval hy,H.eval hu,Instr.mapUpdate,bT ht,hg,hk.check,hf,hs,hej,hst]
    rw [e1]
    have hbm:=qQ (fun e=>{ e with key:=enc k,val:=v }) (fun _=>rfl) es.toList j
    refine hK _ _ (kk _ _ (S.updSame hi (hkeeps _) ⟨_,_,setL l k v,World.putObj_heap_same (cA hb),?_,?_,?_,hΦ2⟩ (fun _ h=>h)) (H.put_none _))
    · rw [tI hfl,Array.toList_modify]
      refine nB _ _ _ _ es.toList l j he fun e p g1 g2 g3=>?_
      rw [hat] at g3
      injection g3 with g3
      subst g3
      rfl
    · rw [Array.toList_modify];exact Eh hbm hlt
    · rw [Array.toList_modify,hbm];exact hnd
end
def ints (xs:List Int):Value := .agg (xs.map fun x=>Value.int .i64 x).toArray
structure IntsK (P:Program) (t:TypeId) (n D:Nat):Prop where
  agg:Agg P t
  sz:Sz P t n
  eq:∀ (d:Nat) (xs ys:List Int) (w:World),xs.length=n→ys.length=n→(Op.equalIn (d+D) t (ints xs) (ints ys)).run P w = .ok (decide (xs=ys)) w
  ck:∀ (m:Bool) (d:Nat) (xs:List Int) (w:World),xs.length=n→(Instr.checkKey m (d+D) t (ints xs)).run P w = .ok () w
section
variable {P:Program} {w:World} {kt e:TypeId} {n D:Nat}
theorem vE {n:Nat} (ha:Agg P e) (hs:Sz P e n) (cs:Array Value) (i:Nat):(part e cs i).run P w = .ok (.agg (cs.extract i (i+n))) w:=by
  have h1:(isAgg e).run P w = .ok true w:=by
    unfold Agg jU at ha
    unfold isAgg
    cases hu:P.underlying e with
    | none=>rw [hu] at ha;simp at ha
    | some d=>rw [hu] at ha;simp only [Sem.run_bind,bT hu,Result.andThen_ok];cases d <;> simp_all
  have h2:(sizeOf e).run P w = .ok n w:=by
    unfold Sz at hs
    cases hi:P.info? e with
    | none=>rw [hi] at hs;simp at hs
    | some i=>rw [hi] at hs;simp at hs;simp [sizeOf,typeInfo,hi,hs]
  simp [part,h1,h2]
theorem vF {n:Nat} (hs:Sz P e n):(sizeOf e).run P w = .ok n w:=by
  unfold Sz at hs
  cases hi:P.info? e with
  | none=>rw [hi] at hs;simp at hs
  | some i=>rw [hi] at hs;simp at hs;simp [sizeOf,typeInfo,hi,hs]
theorem zP (xs:List Int) (i n:Nat):((xs.map fun x=>Value.int .i64 x).toArray).extract i (i+n)=(((xs.drop i).take n).map fun x=>Value.int .i64 x).toArray:=by
  rw [List.extract_toArray,List.extract_eq_take_drop,Nat.add_sub_cancel_left,List.map_take,List.map_drop]
theorem Qb {xs:List Int} {i:Nat} (h:i<xs.length):((xs.map fun x=>Value.int .i64 x).toArray)[i]?=some (.int .i64 (xs.getD i 0)):=by
  simp [List.getD_eq_getElem?_getD,h]
theorem Lh {α:Type} {f:α→Sem Bool} {b:α→Bool} {w:World} (l:List α) (h:∀ i ∈ l,(f i).run P w = .ok (b i) w) :
    (do let r ←forIn (m:=Sem) l ((none,()):Option Bool×PUnit) fun i r=>do
          let x ←f i
          if !x then pure (ForInStep.done (some false,())) else pure (ForInStep.yield (none,()))
        match r.fst with
        | some a=>pure a
        | none=>pure true:Sem Bool).run P w = .ok (l.all b) w:=by
  have key:∀ l:List α,(∀ i ∈ l,(f i).run P w = .ok (b i) w)→(forIn (m:=Sem) l ((none,()):Option Bool×PUnit) fun i r=>do
          let x ←f i
          if !x then pure (ForInStep.done (some false,())) else pure (ForInStep.yield (none,()))).run P w = .ok ((if l.all b=true then none else some false,())) w:=by
    intro l
    induction l with
    | nil=>intro _;simp
    | cons a l ih=>
      intro h
      have h1:=h a (by simp)
      have h2:=ih fun i hi=>h i (by simp [hi])
      rw [List.forIn_cons]
      cases hb:b a with
      | true=>
        rw [hb] at h1
        have e:(a::l).all b=l.all b:=by simp [hb]
        rw [e]
        simp only [Sem.run_bind,h1,Result.andThen_ok]
        simpa using h2
      | false=>
        rw [hb] at h1
        simp [h1,hb]
  simp only [Sem.run_bind,key l h,Result.andThen_ok]
  by_cases hl:l.all b=true
  · simp [hl]
  · simp [hl]
theorem Gs {α:Type} {f:α→Sem Unit} {w:World} (l:List α) (h:∀ i ∈ l,(f i).run P w = .ok () w) :
    (forIn (m:=Sem) l () fun i r=>do f i;pure (ForInStep.yield ())).run P w = .ok () w:=by
  induction l with
  | nil=>simp
  | cons a l ih=>
    have h1:=h a (by simp)
    have h2:=ih fun i hi=>h i (by simp [hi])
    rw [List.forIn_cons]
    simp only [Sem.run_bind,h1,Result.andThen_ok]
    simpa using h2
def seg (xs:List Int) (off n:Nat):List Int:=(xs.drop off).take n
theorem oW {xs:List Int} {off n:Nat} (h:off+n≤xs.length):(seg xs off n).length=n:=by simp [seg];omega
structure PartK (P:Program) (t:TypeId) (n D:Nat):Prop where
  eq:∀ (d:Nat) (xs ys:List Int) (off:Nat) (w:World),off+n≤xs.length→off+n≤ys.length →
    (do let a ←part t (xs.map fun x=>Value.int .i64 x).toArray off;let b ←part t (ys.map fun x=>Value.int .i64 x).toArray off;Op.equalIn (d+D) t a b:Sem Bool).run P w = .ok (decide (seg xs off n=seg ys off n)) w
  ck:∀ (m:Bool) (d:Nat) (xs:List Int) (off:Nat) (w:World),off+n≤xs.length→(do let a ←part t (xs.map fun x=>Value.int .i64 x).toArray off;Instr.checkKey m (d+D) t a:Sem Unit).run P w = .ok () w
theorem PartK.of (h:IntsK P kt n D):PartK P kt n D:=by
  refine ⟨fun d xs ys off w hx hy=>?_,fun m d xs off w hx=>?_⟩
  · simp only [Sem.run_bind,vE h.agg h.sz,Result.andThen_ok,zP]
    exact h.eq d _ _ w (oW hx) (oW hy)
  · simp only [Sem.run_bind,vE h.agg h.sz,Result.andThen_ok,zP]
    exact h.ck m d _ w (oW hx)
theorem Ei {xs:List Int} {i:Nat} (h:i<xs.length):seg xs i 1=[xs.getD i 0]:=by
  rw [seg,List.drop_eq_getElem_cons h,List.take_succ_cons,List.take_zero,List.getD_eq_getElem?_getD,List.getElem?_eq_getElem h]
  rfl
theorem PartK.int (he:P.underlying e=some (.int .i64)) (h1:One P e):PartK P e 1 1:=by
  have hp:∀ (zs:List Int) (i:Nat),i<zs.length→∀ w,(part e (zs.map fun x=>Value.int .i64 x).toArray i).run P w = .ok (.int .i64 (zs.getD i 0)) w:=fun zs i hi w=>Gr h1 (Qb hi)
  refine ⟨fun d xs ys off w hx hy=>?_,fun m d xs off w hx=>?_⟩
  · simp only [Sem.run_bind,hp xs off (by omega),hp ys off (by omega),Result.andThen_ok,Py he]
    rw [Ei (by omega),Ei (by omega)]
    rw [show decide ([xs.getD off 0]=[ys.getD off 0])=decide (xs.getD off 0=ys.getD off 0) by simp]
    rfl
  · simp only [Sem.run_bind,hp xs off (by omega),Result.andThen_ok,Pz he]
theorem PartK.mono {n D:Nat} (h:PartK P e n D):PartK P e n (D+1):=
  ⟨fun d xs ys off w hx hy=>by have:=h.eq (d+1) xs ys off w hx hy;rw [Nat.add_assoc,Nat.add_comm 1 D] at this;exact this,fun m d xs off w hx=>by have:=h.ck m (d+1) xs off w hx;rw [Nat.add_assoc,Nat.add_comm 1 D] at this;exact this⟩
theorem PartK.int2 (he:P.underlying e=some (.int .i64)) (h1:One P e):PartK P e 1 2:=(PartK.int he h1).mono
theorem Ej {xs ys:List Int} {off n m:Nat} (hx:off+n+m≤xs.length) (hy:off+n+m≤ys.length):seg xs off (n+m)=seg ys off (n+m)↔seg xs off n=seg ys off n∧seg xs (off+n) m=seg ys (off+n) m:=by
  have e:∀ zs:List Int,seg zs off (n+m)=seg zs off n++seg zs (off+n) m:=fun zs=>by
    unfold seg;rw [List.take_add,List.drop_drop]
  rw [e,e]
  exact ⟨fun h=>List.append_inj h (by rw [oW (by omega),oW (by omega)]),fun h=>by rw [h.1,h.2]⟩
theorem rK {xs:List Int} {n:Nat} (h:xs.length=n):seg xs 0 n=xs:=by unfold seg;rw [List.drop_zero,List.take_of_length_le (by omega)]
theorem Vs {xs ys:List Int} {m:Nat}:∀ len,len*m≤xs.length→len*m≤ys.length→((List.range len).all fun i=>decide (seg xs (i*m) m=seg ys (i*m) m))=decide (seg xs 0 (len*m)=seg ys 0 (len*m)):=by
  intro len
  induction len with
  | zero=>intro _ _;simp [seg]
  | succ len ih=>
    intro hx hy
    rw [Nat.add_mul] at hx hy
    rw [List.range_succ,List.all_append,ih (by omega) (by omega),Bool.eq_iff_iff,Nat.add_mul,Nat.one_mul,decide_eq_true_eq,Ej (by omega) (by omega),Nat.zero_add]
    simp
theorem Li {len m D:Nat} (hk:P.underlying kt=some (.array len e)) (hs:Sz P kt (len*m)) (he:PartK P e m D) (hse:Sz P e m):IntsK P kt (len*m) (D+1):=by
  refine ⟨by unfold Agg jU;rw [hk],hs,fun d xs ys w hx hy=>?_,fun b d xs w hx=>?_⟩
  · have hq:∀ i ∈ List.range len,(do let a ←part e (xs.map fun x=>Value.int .i64 x).toArray (i*m);let b ←part e (ys.map fun x=>Value.int .i64 x).toArray (i*m);Op.equalIn (d+D) e a b:Sem Bool).run P w = .ok (decide (seg xs (i*m) m=seg ys (i*m) m)) w:=fun i hi=>by
      have hi':=List.mem_range.1 hi
      have:(i+1)*m≤len*m:=Nat.mul_le_mul_right _ (by omega)
      rw [Nat.add_mul] at this
      exact he.eq d xs ys (i*m) w (by omega) (by omega)
    have hr:=Lh (P:=P) (w:=w) (List.range len) hq
    rw [Vs len (by omega) (by omega),rK hx,rK hy] at hr
    unfold ints
    rw [show d+(D+1)=(d+D)+1 from rfl,Op.equalIn]
    simp only [Sem.run_bind,bT hk,vF hse,Result.andThen_ok,Std.Legacy.Range.forIn_eq_forIn_range',Std.Legacy.Range.size]
    rw [List.range_eq_range'] at hr
    simp at hr ⊢
    rw [←hr]
    congr 1
    funext a w'
    cases a with|mk x y=>cases x <;> rfl
  · have hz:(sizeOf e).run P w = .ok m w:=vF hse
    have hq:∀ i ∈ List.range len,(do let s ←sizeOf e;let a ←part e (xs.map fun x=>Value.int .i64 x).toArray (i*s);Instr.checkKey b (d+D) e a:Sem Unit).run P w = .ok () w:=fun i hi=>by
      have hi':=List.mem_range.1 hi
      have:(i+1)*m≤len*m:=Nat.mul_le_mul_right _ (by omega)
      rw [Nat.add_mul] at this
      have h9:=he.ck b d xs (i*m) w (by omega)
      rw [Sem.run_bind,hz,Result.andThen_ok]
      exact h9
    have hr:=Gs (P:=P) (w:=w) (List.range len) hq
    unfold ints
    rw [show d+(D+1)=(d+D)+1 from rfl,Instr.checkKey]
    simp only [Sem.run_bind,bT hk,Result.andThen_ok,Std.Legacy.Range.forIn_eq_forIn_range',Std.Legacy.Range.size]
    rw [List.range_eq_range'] at hr
    simp at hr ⊢
    exact congrArg (fun r:Result Unit=>r.andThen fun _ w'=>Result.ok () w') hr
inductive FieldsK (P:Program) (D:Nat):Nat→List Field→Nat→Prop
  | nil (off:Nat):FieldsK P D off [] off
  | cons {off n E : Nat} {f : Field} {fs : List Field} (h1 : f.name ≠ "_") (h2 : f.offset = off) (h3 : PartK P f.type n D) (h4 : FieldsK P D (off + n) fs E) : FieldsK P D off (f :: fs) E
theorem FieldsK.le {fs:List Field} {off E:Nat} (h:FieldsK P D off fs E):off≤E:=by
  induction h with
  | nil=>exact Nat.le_refl _
  | cons _ _ _ _ ih=>omega
theorem FieldsK.eqs {fs:List Field} {off E:Nat} (h:FieldsK P D off fs E) (xs ys:List Int) (d:Nat) (hx:E≤xs.length) (hy:E≤ys.length) :
    (forIn (m := Sem) fs ((none, ()) : Option Bool × PUnit) fun f r => if f.name ≠ "_" then do
          let c ←(do let a ←part f.type (xs.map fun x=>Value.int .i64 x).toArray f.offset;let b ←part f.type (ys.map fun x=>Value.int .i64 x).toArray f.offset;Op.equalIn (d+D) f.type a b:Sem Bool)
          if !c then pure (ForInStep.done (some false,())) else pure (ForInStep.yield (none,()))
        else pure (ForInStep.yield (none,()))).run P w = .ok ((if seg xs off (E-off)=seg ys off (E-off) then none else some false,())) w:=by
  induction h with
  | nil off=>simp [seg]
  | @cons off n E f fs h1 h2 h3 h4 ih=>
    have hle:=h4.le
    have h5:=h3.eq d xs ys off w (by omega) (by omega)
    have h6:=ih hx hy
    have h7:=Ej (xs:=xs) (ys:=ys) (off:=off) (n:=n) (m:=E-(off+n)) (by omega) (by omega)
    rw [show n+(E-(off+n))=E-off by omega] at h7
    rw [List.forIn_cons,if_pos h1,h2]
    by_cases hs:seg xs off n=seg ys off n
    · rw [decide_eq_true hs] at h5
      rw [Sem.run_bind,Sem.run_bind,h5,Result.andThen_ok]
      simp only [Bool.not_true,Bool.false_eq_true,if_false,Sem.run_pure,Result.andThen_ok]
      rw [h6]
      by_cases ht:seg xs (off+n) (E-(off+n))=seg ys (off+n) (E-(off+n))
      · rw [if_pos ht,if_pos (h7.2 ⟨hs,ht⟩)]
      · rw [if_neg ht,if_neg (fun h=>ht (h7.1 h).2)]
    · rw [decide_eq_false hs] at h5
      rw [Sem.run_bind,Sem.run_bind,h5,Result.andThen_ok]
      simp only [Bool.not_false,if_true,Sem.run_pure,Result.andThen_ok]
      rw [if_neg (fun h=>hs (h7.1 h).1)]
theorem FieldsK.cks {fs:List Field} {off E:Nat} (h:FieldsK P D off fs E) (xs:List Int) (m:Bool) (d:Nat) (hx:E≤xs.length) :
    (forIn (m := Sem) fs () fun f r => if f.name ≠ "_" then do
          (do let a ←part f.type (xs.map fun x=>Value.int .i64 x).toArray f.offset;Instr.checkKey m (d+D) f.type a:Sem Unit)
          pure (ForInStep.yield ())
        else pure (ForInStep.yield ())).run P w = .ok () w:=by
  induction h with
  | nil off=>simp
  | @cons off n E f fs h1 h2 h3 h4 ih=>
    have hle:=h4.le
    have h5:=h3.ck m d xs off w (by omega)
    have h6:=ih hx
    rw [List.forIn_cons,if_pos h1,h2]
    rw [Sem.run_bind,Sem.run_bind,h5,Result.andThen_ok]
    simp only [Sem.run_pure,Result.andThen_ok]
    exact h6
theorem Lj {fs:Array Field} {n:Nat} (hk:P.underlying kt=some (.struct fs)) (hs:Sz P kt n) (hf:FieldsK P D 0 fs.toList n) (hst:P.stoodInHeld kt=false):IntsK P kt n (D+1):=by
  refine ⟨by unfold Agg jU;rw [hk],hs,fun d xs ys w hx hy=>?_,fun b d xs w hx=>?_⟩
  · have hr:=hf.eqs (w:=w) xs ys d (by omega) (by omega)
    rw [Nat.sub_zero,rK hx,rK hy] at hr
    have hpg:(program:Sem Program).run P w = .ok P w:=rfl
    unfold ints
    rw [show d+(D+1)=(d+D)+1 from rfl,Op.equalIn]
    simp only [Sem.run_bind,bT hk,hpg,hst,Result.andThen_ok]
    simp at hr ⊢
    have hr2:=congrArg (fun r:Result (Option Bool×PUnit)=>r.andThen fun a w'=>Sem.run P (match a.fst with|some r=>pure r|none=>pure true) w') hr
    refine Eq.trans ?_ (hr2.trans (by by_cases h:xs=ys <;> simp [h]))
    refine congrArg _ ?_
    funext a w'
    cases a with|mk x y=>cases x <;> rfl
  · have hr:=hf.cks (w:=w) xs b d (by omega)
    unfold ints
    rw [show d+(D+1)=(d+D)+1 from rfl,Instr.checkKey]
    simp only [Sem.run_bind,bT hk,Result.andThen_ok]
    simp at hr ⊢
    exact congrArg (fun r:Result Unit=>r.andThen fun _ w'=>Result.ok () w') hr
def KeyN (n:Nat):Type:={ l:List Int // l.length=n }
instance {n:Nat}:DecidableEq (KeyN n):=fun a b=>if h:a.1=b.1 then .isTrue (Subtype.ext h) else .isFalse fun e=>h (congrArg Subtype.val e)
def encN {n:Nat} (k:KeyN n):Value:=ints k.1
theorem Gt (xs:List Int) (d:Nat):Instr.sameBits (d+1) (ints xs) (ints xs)=true:=by
  unfold ints
  rw [Instr.sameBits]
  simp only [beq_self_eq_true,Bool.true_and]
  rw [List.all_eq_true]
  rintro ⟨x,y⟩ h
  rw [List.zip_eq_zipWith] at h
  simp only [List.zipWith_self,List.mem_map] at h
  obtain ⟨v,hv,e⟩:=h
  cases e
  have hv':x ∈ xs.map fun x=>Value.int .i64 x:=by simpa using hv
  obtain ⟨q,_,rfl⟩:=List.mem_map.1 hv'
  simp [Instr.sameBits]
theorem Qc {n:Nat} (h:IntsK P kt n D) (hD:D≤100) (hwide:(match P.underlying kt with|some (.array _ _)|some (.struct _)=>true|_=>false)=true):KeyOk P kt (encN (n:=n)):=by
  have heq:∀ (k k':KeyN n) (w:World),(Op.equal kt (encN k) (encN k')).run P w = .ok (decide (k=k')) w:=fun k k' w=>by
    have:=h.eq (10000-D) k.1 k'.1 w k.2 k'.2
    rw [Nat.sub_add_cancel (by omega)] at this
    unfold Op.equal Op.maxDepth encN
    rw [this]
    congr 1
    exact decide_eq_decide.2 ⟨fun h=>Subtype.ext h,fun h=>congrArg Subtype.val h⟩
  refine ⟨fun l k es w he=>?_,fun m k w=>?_,fun k=>Gt _ _⟩
  · rw [run_findKey_eq w hwide]
    exact Qa heq k l es 0 he
  · have:=h.ck m (10000-D) k.1 w k.2
    rw [Nat.sub_add_cancel (by omega)] at this
    exact this
end
structure Unt where
  mach:Int
  every:Int
  seen:Int
  rates:List (Int×Int)
  RA:Option Addr
  rc:Nat
  worn:Int
  turns:Int
  age:Int
  uses:List Use
  UA:Option Addr
  uc:Nat
  old:Int
  tn:Int
  cl:Int
  kind:Int
def Unt.zero:Unt:=⟨0,0,0,[],none,0,0,0,0,[],none,0,0,0,0,0⟩
def Unt.cell (u:Unt):Nat→Value
  | 0 => .int .i64 u.mach
  | 1 => .int .i64 u.every
  | 2 => .int .i64 u.seen
  | 3 => .slice u.RA u.rates.length u.rc
  | 4 => .int .i64 u.worn
  | 5 => .int .i64 u.turns
  | 6 => .int .i64 u.age
  | 7 => .slice u.UA u.uses.length u.uc
  | 8 => .int .i64 u.old
  | 9 => .int .i64 u.tn
  | 10 => .int .i64 u.cl
  | _ => .int .i64 u.kind
def vcell (l:List Unt) (k j:Nat):Value:=(l.getD k Unt.zero).cell j
def Unt.part (u:Unt):Part:=⟨u.rates,u.worn,u.turns,u.age⟩
def Unt.same (u v:Unt):Prop:=v={ u with RA:=v.RA,rc:=v.rc,UA:=v.UA,uc:=v.uc }
structure Spr where
  day:Int
  kind:Int
  many:Int
def Spr.zero:Spr:=⟨0,0,0⟩
def Spr.cell (s:Spr):Nat→Value
  | 0 => .int .i64 s.day
  | 1 => .int .i64 s.kind
  | _ => .int .i64 s.many
def tJ (l:List Spr) (k j:Nat):Value:=(l.getD k Spr.zero).cell j
structure Tsk where
  day:Int
  unit:Int
  kind:Int
deriving instance DecidableEq for Tsk
def Tsk.zero:Tsk:=⟨0,0,0⟩
def Tsk.cell (t:Tsk):Nat→Value
  | 0 => .int .i64 t.day
  | 1 => .int .i64 t.unit
  | _ => .int .i64 t.kind
def lF (l:List Tsk) (k j:Nat):Value:=(l.getD k Tsk.zero).cell j
structure Yr where
  days:Int
  pl:Int
  ps:List Psg
  PA:Option Addr
  pc:Nat
  xs:List Int
  XA:Option Addr
  xc:Nat
  pe:List Int
  BA:Option Addr
  bc:Nat
  limit:Int
  help:Bool
  prs:List Prm
  QA:Option Addr
  qc:Nat
  us:List Unt
  VA:Option Addr
  vc:Nat
  crew:Int
  sps:List Spr
  SA:Option Addr
  sc:Nat
def Yr.cells (y:Yr):List Value:=[.int .i64 y.days,.int .i64 y.pl,.slice y.PA y.ps.length y.pc,.slice y.XA y.xs.length y.xc,.slice y.BA y.pe.length y.bc,.int .i64 y.limit,.bool y.help,.slice y.QA y.prs.length y.qc,.slice y.VA y.us.length y.vc,.int .i64 y.crew,.slice y.SA y.sps.length y.sc]
abbrev Yr.st (y:Yr):Value := .agg [.int .i64 y.pl,.slice y.PA y.ps.length y.pc,.slice y.XA y.xs.length y.xc].toArray
abbrev Yr.u (y:Yr) (k:Nat):Unt:=y.us.getD k Unt.zero
structure YIn (w:World) (F:Nat→Prop) (y:Yr):Prop where
  ps:InS w F 7 y.PA y.ps.length (pcell y.ps)
  xs:InS w F 1 y.XA y.xs.length (icl y.xs)
  pe:InS w F 1 y.BA y.pe.length (icl y.pe)
  prs:InS w F 5 y.QA y.prs.length (nH y.prs)
  us:InS w F 12 y.VA y.us.length (vcell y.us)
  sps:InS w F 3 y.SA y.sps.length (tJ y.sps)
  rt:∀ k,k<y.us.length→InS w F 2 (y.us.getD k Unt.zero).RA (y.us.getD k Unt.zero).rates.length (scell (y.us.getD k Unt.zero).rates)
  ul:∀ k,k<y.us.length→InS w F 6 (y.us.getD k Unt.zero).UA (y.us.getD k Unt.zero).uses.length (ucell (y.us.getD k Unt.zero).uses)
structure YBd (y:Yr):Prop where
  ps:y.ps.length*56≤140737488351232
  xs:y.xs.length*8≤140737488351232
  pe:y.pe.length*8≤140737488351232
  prs:y.prs.length*40≤140737488351232
  us:y.us.length*120≤140737488351232
  sps:y.sps.length*24≤140737488351232
  rt:∀ k,k<y.us.length→(y.us.getD k Unt.zero).rates.length*16≤140737488351232
  ul:∀ k,k<y.us.length→(y.us.getD k Unt.zero).uses.length*48≤140737488351232
  cap:∀ k,k<y.us.length→(y.us.getD k Unt.zero).uses.length≤(y.us.getD k Unt.zero).uc
section
variable {w w0:World} {F F0:Nat→Prop} {R:List Mem} {y:Yr}
theorem YIn.now (h:YIn w0 F0 y) (S:St w0 F0 R w):YIn w noF y:=
  ⟨h.ps.now S,h.xs.now S,h.pe.now S,h.prs.now S,h.us.now S,h.sps.now S,fun k hk=>(h.rt k hk).now S,fun k hk=>(h.ul k hk).now S⟩
theorem YBd.psn (h:YBd y):y.ps.length≤9223372036854775807:=by have:=h.ps;omega
theorem YBd.xsn (h:YBd y):y.xs.length≤9223372036854775807:=by have:=h.xs;omega
theorem YBd.pen (h:YBd y):y.pe.length≤9223372036854775807:=by have:=h.pe;omega
theorem YBd.prn (h:YBd y):y.prs.length≤9223372036854775807:=by have:=h.prs;omega
theorem YBd.usn (h:YBd y):y.us.length≤9223372036854775807:=by have:=h.us;omega
theorem YBd.spn (h:YBd y):y.sps.length≤9223372036854775807:=by have:=h.sps;omega
theorem YBd.rtn (h:YBd y) {k:Nat} (hk:k<y.us.length):(y.us.getD k Unt.zero).rates.length≤9223372036854775807:=by have:=h.rt k hk;omega
theorem YBd.uln (h:YBd y) {k:Nat} (hk:k<y.us.length):(y.us.getD k Unt.zero).uses.length≤9223372036854775807:=by have:=h.ul k hk;omega
end
def untI (u:Unt):Prop:=(1≤u.every∧u.every≤20)∧(-20≤u.seen∧u.seen≤0)∧(0≤u.kind∧u.kind≤3)∧u.uses.length≤20∧(prevD u.uses u.uses.length≤u.old∧u.old≤99980)∧(0≤u.tn∧u.tn≤1000000)∧(0≤u.cl∧u.cl≤(u.rates.length:Int)-1)
instance (u:Unt):Decidable (untI u):=by unfold untI;exact inferInstance
def freeN (ps:List Psg) (us:List Unt) (n i:Nat) (m:Int):Bool:=!allN (fun k=>!(decide (0≤(ps.getD k Psg.zero).mach)&&decide ((ps.getD k Psg.zero).mach=m))) n&&allN (fun k=>!decide ((us.getD k Unt.zero).mach=m)) i
def freeM (ps:List Psg) (us:List Unt) (i:Nat) (m:Int):Bool:=freeN ps us ps.length i m
noncomputable def untU (ps:List Psg) (us:List Unt) (i:Nat) (u:Unt):Bool:=freeM ps us i u.mach&&(decide (untI u)&&decide (wearE u.part u.uses=0))
noncomputable def untB (ps:List Psg) (us:List Unt) (i:Nat):Bool:=untU ps us i (us.getD i Unt.zero)
def sprB (days:Int) (s:Spr):Bool:=decide ((0≤s.day∧s.day≤days-1)∧(0≤s.kind∧s.kind≤3)∧(1≤s.many∧s.many≤8))
def yrI (y:Yr):Prop:=(1≤y.days∧y.days≤20)∧((y.pe.length:Int)=y.pl∧∀ k,k<y.pe.length→0≤y.pe.getD k 0∧y.pe.getD k 0≤1000)∧(0≤y.limit∧y.limit≤60)∧(0≤y.crew∧y.crew≤8)∧y.sps.length≤20∧∀ k,k<y.sps.length→sprB y.days (y.sps.getD k Spr.zero)=true
open Classical in
noncomputable def yearE (y:Yr):Int:=if keptE y.pl y.ps y.xs [] y.prs≠0 then keptE y.pl y.ps y.xs [] y.prs else if ¬ yrI y then 120 else if 6<y.us.length then 2 else if allN (untB y.ps y.us) y.us.length=true then 0 else 121
def befB (a b:Tsk):Bool:=if a.day≠b.day then decide (a.day<b.day) else if a.unit≠b.unit then decide (a.unit<b.unit) else decide (a.kind<b.kind)
def tskB (y:Yr) (l:List Tsk) (i:Nat):Bool:=decide ((0≤(l.getD i Tsk.zero).day∧(l.getD i Tsk.zero).day≤y.days-1)∧(0≤(l.getD i Tsk.zero).unit∧(l.getD i Tsk.zero).unit≤(y.us.length:Int)-1)∧(1≤(l.getD i Tsk.zero).kind∧(l.getD i Tsk.zero).kind≤2))&&(decide (i=0)||befB (l.getD (i-1) Tsk.zero) (l.getD i Tsk.zero))
noncomputable def taskE (y:Yr) (l:List Tsk):Int:=if yearE y≠0 then yearE y else if 60<l.length then 2 else if allN (tskB y l) l.length=true then 0 else 122
structure YOk (y:Yr):Prop where
  kept:keptE y.pl y.ps y.xs [] y.prs=0
  yr:yrI y
  many:y.us.length≤6
  un:∀ k,k<y.us.length→untB y.ps y.us k=true
section
variable {y:Yr} {l:List Tsk} {i k:Nat} {ps:List Psg} {us:List Unt}
theorem nI (h:keptE y.pl y.ps y.xs [] y.prs≠0):yearE y=keptE y.pl y.ps y.xs [] y.prs:=by unfold yearE;rw [if_pos h]
theorem oX (h:keptE y.pl y.ps y.xs [] y.prs=0) (h1:¬ yrI y):yearE y=120:=by unfold yearE;rw [if_neg (by omega),if_pos h1]
theorem tK (h:keptE y.pl y.ps y.xs [] y.prs=0) (h1:yrI y) (h2:6<y.us.length):yearE y=2:=by unfold yearE;rw [if_neg (by omega),if_neg (fun h=>h h1),if_pos h2]
theorem tL (h:keptE y.pl y.ps y.xs [] y.prs=0) (h1:yrI y) (h2:¬ 6<y.us.length) (hk:k<y.us.length) (h3:untB y.ps y.us k=false):yearE y=121:=by
  unfold yearE;rw [if_neg (by omega),if_neg (fun h=>h h1),if_neg h2,if_neg]
  rw [cC]
  intro h4
  rw [h4 k hk] at h3
  cases h3
theorem zQ (h:keptE y.pl y.ps y.xs [] y.prs=0) (h1:yrI y) (h2:¬ 6<y.us.length) (h3:allN (untB y.ps y.us) y.us.length=true):yearE y=0:=by
  unfold yearE;rw [if_neg (by omega),if_neg (fun h=>h h1),if_neg h2,if_pos h3]
theorem rL (h:yearE y=0):YOk y:=by
  unfold yearE at h
  split at h
  · omega
  · split at h
    · cases h
    · split at h
      · cases h
      · split at h
        · rename_i h1 h2 h3 h4
          exact ⟨by omega,Classical.not_not.1 h2,by omega,cC.1 h4⟩
        · cases h
theorem tM (h:yearE y≠0):taskE y l=yearE y:=by unfold taskE;rw [if_pos h]
theorem tN (h:yearE y=0) (h1:60<l.length):taskE y l=2:=by unfold taskE;rw [if_neg (by omega),if_pos h1]
theorem fZ (h:yearE y=0) (h1:¬ 60<l.length) (hi:i<l.length) (h2:tskB y l i=false):taskE y l=122:=by
  unfold taskE;rw [if_neg (by omega),if_neg h1,if_neg]
  rw [cC]
  intro h4
  rw [h4 i hi] at h2
  cases h2
theorem zR (h:yearE y=0) (h1:¬ 60<l.length) (h2:allN (tskB y l) l.length=true):taskE y l=0:=by unfold taskE;rw [if_neg (by omega),if_neg h1,if_pos h2]
theorem Ek (h:taskE y l=0):yearE y=0∧l.length≤60∧∀ k,k<l.length→tskB y l k=true:=by
  unfold taskE at h
  split at h
  · omega
  · split at h
    · cases h
    · split at h
      · rename_i h1 h2 h3
        exact ⟨by omega,by omega,cC.1 h3⟩
      · cases h
theorem Vt (h:tskB y l i=true):(0≤(l.getD i Tsk.zero).day∧(l.getD i Tsk.zero).day≤y.days-1)∧(0≤(l.getD i Tsk.zero).unit∧(l.getD i Tsk.zero).unit≤(y.us.length:Int)-1)∧(1≤(l.getD i Tsk.zero).kind∧(l.getD i Tsk.zero).kind≤2):=by
  unfold tskB at h
  rw [Bool.and_eq_true] at h
  exact of_decide_eq_true h.1
theorem Gu {m:Int}:freeM ps us i m=true↔(∃ k,k<ps.length∧0≤(ps.getD k Psg.zero).mach∧(ps.getD k Psg.zero).mach=m)∧∀ k,k<i→(us.getD k Unt.zero).mach≠m:=by
  unfold freeM freeN
  rw [Bool.and_eq_true,Bool.not_eq_true',←Bool.not_eq_true,cC,cC]
  constructor
  · rintro ⟨h1,h2⟩
    refine ⟨Classical.byContradiction fun h3=>h1 fun k hk=>?_,fun k hk=>?_⟩
    · rw [Bool.not_eq_true',←Bool.not_eq_true,Bool.and_eq_true,decide_eq_true_eq,decide_eq_true_eq]
      exact fun h4=>h3 ⟨k,hk,h4⟩
    · have:=h2 k hk
      rw [Bool.not_eq_true'] at this
      exact of_decide_eq_false this
  · rintro ⟨⟨k,hk,h1⟩,h2⟩
    refine ⟨fun h3=>?_,fun k hk=>by rw [decide_eq_false (h2 k hk)];rfl⟩
    have:=h3 k hk
    rw [decide_eq_true h1.1,decide_eq_true h1.2] at this
    cases this
structure UntOk (ps:List Psg) (us:List Unt) (u:Unt) (i:Nat):Prop where
  free:freeM ps us i u.mach=true
  i:untI u
  wear:wearE u.part u.uses=0
theorem tO {u:Unt}:untU ps us i u=true↔UntOk ps us u i:=by
  unfold untU
  rw [Bool.and_eq_true,Bool.and_eq_true,decide_eq_true_eq,decide_eq_true_eq]
  exact ⟨fun h=>⟨h.1,h.2.1,h.2.2⟩,fun h=>⟨h.free,h.i,h.wear⟩⟩
theorem jK:untB ps us i=true↔UntOk ps us (us.getD i Unt.zero) i:=tO
theorem zS {u:Unt} (h:¬ UntOk ps us u i):untU ps us i u=false:=by rw [←Bool.not_eq_true,tO];exact h
def macP (ps:List Psg) (us:List Unt) (n i:Nat) (h:Int→Option Value):Prop:=∀ m,(h m).getD (.bool false) = .bool (freeN ps us n i m)
theorem Gv:macP ps us 0 0 (fun _=>none):=fun m=>rfl
theorem zT {n:Nat} {m:Int}:freeN ps us (n+1) 0 m=(freeN ps us n 0 m||(decide (0≤(ps.getD n Psg.zero).mach)&&decide ((ps.getD n Psg.zero).mach=m))):=by
  unfold freeN
  simp only [allN,Bool.and_true,Bool.not_and,Bool.not_not,Bool.not_or]
theorem Qd {n:Nat} (hd:∀ j,j<n→0≤(ps.getD n Psg.zero).mach→(ps.getD j Psg.zero).mach≠(ps.getD n Psg.zero).mach) (hn:∀ j,j<n→(ps.getD n Psg.zero).mach<0→(ps.getD j Psg.zero).mach=(ps.getD n Psg.zero).mach→(ps.getD j Psg.zero).mach<0) :
    ∀ h,macP ps us n 0 h→macP ps us (n+1) 0 (fun k'=>if k'=(ps.getD n Psg.zero).mach then some (.bool (decide (0≤(ps.getD n Psg.zero).mach))) else h k'):=fun h hh m=>by
  dsimp only
  rw [zT]
  by_cases e:m=(ps.getD n Psg.zero).mach
  · subst e
    rw [if_pos rfl,decide_eq_true (p:=(ps.getD n Psg.zero).mach=(ps.getD n Psg.zero).mach) rfl,Bool.and_true]
    by_cases h0:0≤(ps.getD n Psg.zero).mach
    · rw [decide_eq_true h0,Bool.or_true];rfl
    · rw [decide_eq_false h0,Bool.or_false]
      have:freeN ps us n 0 (ps.getD n Psg.zero).mach=false:=by
        unfold freeN
        rw [Bool.and_eq_false_iff]
        left
        rw [Bool.not_eq_false',cC]
        intro k hk
        rw [Bool.not_eq_true',Bool.and_eq_false_iff,decide_eq_false_iff_not,decide_eq_false_iff_not]
        by_cases e2:(ps.getD k Psg.zero).mach=(ps.getD n Psg.zero).mach
        · left;omega
        · exact .inr e2
      rw [this];rfl
  · rw [if_neg e,decide_eq_false (p:=(ps.getD n Psg.zero).mach=m) (fun h=>e h.symm),Bool.and_false,Bool.or_false]
    exact hh m
theorem Qe {i:Nat}:∀ h,macP ps us ps.length i h→macP ps us ps.length (i+1) (fun k'=>if k'=(us.getD i Unt.zero).mach then some (.bool false) else h k'):=fun h hh m=>by
  dsimp only
  have e0:freeN ps us ps.length (i+1) m=(freeN ps us ps.length i m&&!decide ((us.getD i Unt.zero).mach=m)):=by
    unfold freeN
    show (_&&(allN _ i&&_))=_
    rw [Bool.and_assoc]
  rw [e0]
  by_cases e:m=(us.getD i Unt.zero).mach
  · subst e
    rw [if_pos rfl,decide_eq_true rfl,Bool.not_true,Bool.and_false];rfl
  · rw [if_neg e,decide_eq_false (fun h=>e h.symm),Bool.not_false,Bool.and_true]
    exact hh m
theorem zU (h:¬ UntOk ps us (us.getD i Unt.zero) i):untB ps us i=false:=by rw [←Bool.not_eq_true,jK];exact h
end
def bsum (f:Nat→Bool):Nat→Int
  | 0=>0
  | n+1=>bsum f n+if f n=true then 2^n else 0
theorem oY (n:Nat):(0:Int)<2^n:=Int.pow_pos (by decide)
theorem rM (f:Nat→Bool):∀ n,0≤bsum f n∧bsum f n<2^n:=by
  intro n
  induction n with
  | zero=>exact ⟨Int.le_refl 0,(by decide:(0:Int)<2^0)⟩
  | succ n ih=>
    have h:=oY n
    rw [bsum,Int.pow_succ]
    split <;> omega
theorem Qf {x:Int} {n:Nat} (h0:0≤x) (h1:x<2^n):x/2^n%2=0∧(x+2^n)/2^n%2=1:=by
  have hp:=oY n
  have e1:x/2^n=0:=Int.ediv_eq_zero_of_lt h0 h1
  refine ⟨by rw [e1];rfl,?_⟩
  have e2:(x+2^n)/2^n=x/2^n+1:=by
    have:=Int.add_mul_ediv_right x 1 (show (2:Int)^n≠0 by omega)
    rw [Int.one_mul] at this
    exact this
  rw [e2,e1];rfl
theorem Qg {x:Int} {n d:Nat} (hd:d<n):(x+2^n)/2^d%2=x/2^d%2:=by
  have hp:=oY d
  have e:(2:Int)^n=(2^(n-d-1)*2)*2^d:=by
    rw [←Int.pow_succ,←Int.pow_add]
    congr 1;omega
  rw [e,Int.add_mul_ediv_right _ _ (by omega)]
  omega
theorem tP {f:Nat→Bool}:∀ {n d:Nat},d<n→bsum f n/2^d%2=if f d=true then 1 else 0:=by
  intro n
  induction n with
  | zero=>intro d h;omega
  | succ n ih=>
    intro d hd
    have hb:=rM f n
    rw [bsum]
    by_cases e:d=n
    · subst e
      have h:=Qf hb.1 hb.2
      split
      · exact h.2
      · rw [Int.add_zero];exact h.1
    · split
      · rw [Qg (by omega)];exact ih (by omega)
      · rw [Int.add_zero];exact ih (by omega)
theorem El {f:Nat→Bool} {n d:Nat} (h:n≤d):bsum f n/2^d%2=0:=by
  have hb:=rM f n
  have hp:(2:Int)^n≤2^d:=by
    have h1:2^n≤2^d:=Nat.pow_le_pow_right (by decide) h
    exact_mod_cast h1
  rw [Int.ediv_eq_zero_of_lt hb.1 (by omega)];rfl
theorem vG (f:Nat→Bool) {n:Nat} (h:n≤39):0≤bsum f n∧bsum f n<2^40:=by
  have hb:=rM f n
  have hp:(2:Int)^n≤2^39:=by
    have h1:2^n≤2^39:=Nat.pow_le_pow_right (by decide) h
    exact_mod_cast h1
  omega
theorem Cb {d:Nat} (h:d≤39):i64ok (1*2^((d:Nat):Int).toNat):=by
  have hp:(2:Int)^d≤2^39:=by
    have h1:2^d≤2^39:=Nat.pow_le_pow_right (by decide) h
    exact_mod_cast h1
  have h0:=oY d
  rw [Int.toNat_natCast]
  unfold i64ok
  omega
theorem Ll {f:Nat→Bool} {n:Nat} (h:f n=true):bsum f n+2^((n:Nat):Int).toNat=bsum f (n+1):=by rw [bsum,if_pos h];rfl
theorem Lm {f:Nat→Bool} {n:Nat} (h:f n=false):bsum f n=bsum f (n+1):=by rw [bsum,if_neg (by rw [h];simp),Int.add_zero]
theorem nJ {f g:Nat→Bool}:∀ {n:Nat},(∀ i,i<n→f i=g i)→bsum f n=bsum g n:=by
  intro n
  induction n with
  | zero=>intro _;rfl
  | succ n ih=>intro h;rw [bsum,bsum,ih fun i hi=>h i (by omega),h n (by omega)]
theorem Qh {m k:Nat} (hm:m<2^40) (hk:k<40) (h:m/2^k%2=0):IntKind.i64.wrap ((BitVec.ofInt 64 (m:Int) ||| BitVec.ofInt 64 ((2^k:Nat):Int)).toNat:Int)=((m+2^k:Nat):Int):=by
  have hp:2^k≤2^39:=Nat.pow_le_pow_right (by omega) (by omega)
  have e:((BitVec.ofInt 64 (m:Int) ||| BitVec.ofInt 64 ((2^k:Nat):Int)).toNat)=m+2^k:=by
    rw [BitVec.toNat_or,BitVec.ofInt_natCast,BitVec.ofInt_natCast,BitVec.toNat_ofNat,BitVec.toNat_ofNat,Nat.mod_eq_of_lt (by omega),Nat.mod_eq_of_lt (by omega)]
    exact Un h
  rw [e]
  exact i64ok.eq ⟨by omega,by omega⟩
section
variable {P:Program} {L:List (Nat×Value)} {w:World} {d:Option Nat} {ty:TypeId} {pos:String} {af:Array Edge} {g:Option (Nat×Bool)}
theorem tQ {x y:Operand} {xt yt:TypeId} {m k:Int} (hx:ev L x=some (.int .i64 m)) (hy:ev L y=some (.int .i64 (1*2^k.toNat))) (hm:0≤m∧m<2^40) (hk:0≤k∧k<40) (h:m/2^k.toNat%2=0) :
    Does P L ⟨d,.binOp .or xt x y yt,ty,pos,af,g⟩ w (.int .i64 (m+2^k.toNat)):=fun ρ hρ=>by
  obtain ⟨m,rfl⟩:∃ n:Nat,m=n:=⟨m.toNat,by omega⟩
  have e1:(1:Int)*2^k.toNat=((2^k.toNat:Nat):Int):=by push_cast;omega
  have h1:m/2^k.toNat%2=0:=by
    have h2:((m/2^k.toNat%2:Nat):Int)=0:=by push_cast;exact h
    omega
  have e2:(m:Int)+2^k.toNat=((m+2^k.toNat:Nat):Int):=by push_cast;rfl
  have e:Op.intBits .or .i64 (m:Int) (1*2^k.toNat)=pure (.int .i64 ((m:Int)+2^k.toNat)):=by
    rw [e1,e2]
    exact congrArg (fun z=>(pure (Value.int .i64 z):Sem Value)) (Qh (by have:=hm.2;omega) (by omega) h1)
  rw [Int.one_mul] at e
  simp [execOp,hρ _ _ hx,hρ _ _ hy,eqGuard,binOp,e]
end
structure LSt where
  uses:List Use
  born:Int
  seen:Int
def insp (j:Int):Bool:=decide (j/2^(1:Int).toNat%2=1)
def renw (j:Int):Bool:=decide (j/2^(2:Int).toNat%2=1)
def useAt (u:Unt) (d born:Int):Use:=⟨d-born,u.tn,u.cl,false,0,0⟩
noncomputable def bydB (p:Part) (l:List Use):Bool:=!decide ((dR p l Prod.snd).2=0)||decide (0≤(dR p l Prod.snd).1)
def seenN (s:LSt) (j:Int) (d:Nat):Int:=if insp j=true then (d:Int) else s.seen
def certN (u:Unt) (s:LSt) (j:Int) (d:Nat):Bool:=decide ((d:Int)-seenN s j d≤u.every)
noncomputable def runN (u:Unt) (s:LSt) (j:Int) (d:Nat):Bool:=(decide (j=0)&&certN u s j d)&&!bydB u.part (s.uses++[useAt u d s.born])
noncomputable def stepL (u:Unt) (s:LSt) (j:Int) (d:Nat):LSt:=⟨if renw j=true then [] else if runN u s j d=true then s.uses++[useAt u d s.born] else s.uses,if renw j=true then (d:Int) else s.born,seenN s j d⟩
noncomputable def lifeS (u:Unt) (J:Nat→Int):Nat→LSt
  | 0=>⟨u.uses,-u.old,u.seen⟩
  | d+1=>stepL u (lifeS u J d) (J d) d
noncomputable def certB (u:Unt) (J:Nat→Int) (d:Nat):Bool:=certN u (lifeS u J d) (J d) d
noncomputable def runB' (u:Unt) (J:Nat→Int) (d:Nat):Bool:=runN u (lifeS u J d) (J d) d
section
variable {u:Unt} {J J':Nat→Int} {d n:Nat}
theorem Gw:∀ d,(lifeS u J d).uses.length≤u.uses.length+d:=by
  intro d
  induction d with
  | zero=>exact Nat.le_refl _
  | succ d ih=>
    show (stepL u (lifeS u J d) (J d) d).uses.length≤_
    unfold stepL
    dsimp only
    split
    · simp
    · split
      · rw [List.length_append];show _+1≤_;omega
      · omega
theorem Cc (ho:0≤u.old∧u.old≤99980):∀ d,-99980≤(lifeS u J d).born∧(lifeS u J d).born≤d:=by
  intro d
  induction d with
  | zero=>exact ⟨by show -99980 ≤ -u.old;omega,by show -u.old≤((0:Nat):Int);omega⟩
  | succ d ih=>
    show -99980≤(stepL u (lifeS u J d) (J d) d).born∧(stepL u (lifeS u J d) (J d) d).born≤((d+1:Nat):Int)
    unfold stepL
    dsimp only
    split <;> omega
theorem zV {s:LSt} {j:Int} (h : -20≤s.seen∧s.seen≤d) : -20≤seenN s j d∧seenN s j d≤d:=by
  unfold seenN
  split <;> omega
theorem Cd (ho : -20≤u.seen∧u.seen≤0):∀ d:Nat,-20≤(lifeS u J d).seen∧(lifeS u J d).seen≤d:=by
  intro d
  induction d with
  | zero=>exact ⟨ho.1,ho.2⟩
  | succ d ih=>
    have h:=zV (j:=J d) ih
    show -20≤seenN (lifeS u J d) (J d) d∧seenN (lifeS u J d) (J d) d≤((d+1:Nat):Int)
    omega
theorem qR:∀ d,(∀ i,i<d→J i=J' i)→lifeS u J d=lifeS u J' d:=by
  intro d
  induction d with
  | zero=>intro _;rfl
  | succ d ih=>intro h;rw [lifeS,lifeS,ih fun i hi=>h i (by omega),h d (by omega)]
theorem Ce (h:∀ i,i≤d→J i=J' i):runB' u J d=runB' u J' d:=by unfold runB';rw [qR d fun i hi=>h i (by omega),h d (Nat.le_refl d)]
theorem zW (h:∀ i,i≤d→J i=J' i):certB u J d=certB u J' d:=by unfold certB;rw [qR d fun i hi=>h i (by omega),h d (Nat.le_refl d)]
end
theorem Qi {w w0:World} {F0:Nat→Prop} {R:List Mem} {i b ty n:Nat} {f:Nat→Value} (S:St w0 F0 R w) (hi:R[i]?=some (boxM b ty ((List.range n).map f))) (hn:n≤maxLen):St w0 F0 (R.set i (ownM ty 1 (some ⟨b,0,none⟩) n n (fun k _=>f k))) w:=by
  refine S.imp hi (fun h => .inr ⟨b,_,rfl,h,Nat.le_refl _,hn,by simp,fun k j hk hj=>?_⟩) (fun k hk=>by obtain ⟨a,e,h⟩:=hk;cases e;exact h.symm)
  have:j=0:=by omega
  subst this
  simp [hk]
theorem Em (u:Unt) (J:Nat→Int) (d:Nat) (x:Int) (h:x=seenN (lifeS u J d) (J d) d):((decide (J d=0)&&decide ((d:Int)-x≤u.every))&&!bydB u.part ((lifeS u J d).uses++[⟨(d:Int)-(lifeS u J d).born,u.tn,u.cl,false,0,0⟩]))=runB' u J d:=by subst h;rfl
theorem zX (u:Unt) (J:Nat→Int) (d:Nat) (x:Int) (h:x=seenN (lifeS u J d) (J d) d):decide ((d:Int)-x≤u.every)=certB u J d:=by subst h;rfl
noncomputable def usesN (u:Unt) (J:Nat→Int) (d:Nat):List Use:=if runB' u J d=true then (lifeS u J d).uses++[useAt u d (lifeS u J d).born] else (lifeS u J d).uses
theorem Vu {u:Unt} {J:Nat→Int} {d:Nat} {x:Int} (h:renw (J d)=true) (hx:x=seenN (lifeS u J d) (J d) d):(⟨[],(d:Int),x⟩:LSt)=lifeS u J (d+1):=by
  subst hx
  show _=stepL u (lifeS u J d) (J d) d
  unfold stepL
  simp only [h,if_true]
theorem Vv {u:Unt} {J:Nat→Int} {d:Nat} {x:Int} (h:renw (J d)=false) (hx:x=seenN (lifeS u J d) (J d) d):(⟨usesN u J d,(lifeS u J d).born,x⟩:LSt)=lifeS u J (d+1):=by
  subst hx
  show _=stepL u (lifeS u J d) (J d) d
  unfold stepL usesN
  simp only [h,Bool.false_eq_true,if_false]
  rfl
theorem En {u:Unt} {J:Nat→Int} {d:Nat} (h:runB' u J d=true):usesN u J d=(lifeS u J d).uses++[useAt u d (lifeS u J d).born]:=if_pos h
theorem xG {u:Unt} {J:Nat→Int} {d:Nat} (h:runB' u J d=false):usesN u J d=(lifeS u J d).uses:=if_neg (by rw [h];simp)
def hasT (l:List Tsk) (d u k:Int):Bool:=l.any fun t=>decide (t.day=d∧t.unit=u∧t.kind=k)
def jobV (l:List Tsk) (u d:Int):Int:=(if hasT l d u 1=true then 2 else 0)+(if hasT l d u 2=true then 4 else 0)
theorem Qj (l:List Tsk) (u d:Int):0≤jobV l u d∧jobV l u d≤6:=by
  unfold jobV
  cases hasT l d u 1 <;> cases hasT l d u 2 <;> decide
theorem zY (l m:List Tsk) (d u k:Int):hasT (l++m) d u k=(hasT l d u k||hasT m d u k):=by unfold hasT;rw [List.any_append]
def jobF (l:List Tsk) (u:Nat):Nat→Int:=fun d=>jobV l u d
noncomputable def runsY (y:Yr) (l:List Tsk) (i d:Nat):Bool:=runB' (y.us.getD i Unt.zero) (jobF l i) d
noncomputable def outY (y:Yr) (l:List Tsk) (d:Nat):Nat→Int
  | 0=>0
  | i+1=>outY y l d i+if runsY y l i d=true then 0 else 2^(y.us.getD i Unt.zero).mach.toNat
def frzM (B:Nat→Prop) (wz:World):Mem where
  fp:=B
  holds:=fun w=>∀ k,B k→w.heap[k]?=wz.heap[k]?
  stable:=fun _ _ h h' k hk=>(h k hk).trans (h' k hk)
def RdF (w0:World) (F0 B:Nat→Prop) (wz:World) (sz:Nat) (A:Option Addr) (n:Nat) (cell:Nat→Nat→Value):Prop:=
  0<n→∃ b o,A=some ⟨b,o,none⟩∧((b<w0.heap.size∧¬ F0 b∧∀ k j,k<n→j<sz→w0.cell? ⟨b,o+k*sz+j,none⟩=some (cell k j))∨(B b∧b<wz.heap.size∧∀ k j,k<n→j<sz→wz.cell? ⟨b,o+k*sz+j,none⟩=some (cell k j)))
section
variable {w w0 wz:World} {F0 B:Nat→Prop} {R:List Mem} {sz n c i:Nat} {A:Option Addr} {cell:Nat→Nat→Value} {e:TypeId}
theorem RdF.base (h:InS w0 F0 sz A n cell):RdF w0 F0 B wz sz A n cell:=fun hn=>by
  obtain ⟨b,o,e,h1,h2,h3⟩:=h hn
  exact ⟨b,o,e,.inl ⟨h1,h2,h3⟩⟩
theorem RdF.nil:RdF w0 F0 B wz sz A 0 cell:=fun hn=>absurd hn (Nat.lt_irrefl 0)
theorem RdF.now (h:RdF w0 F0 B wz sz A n cell) (S:St w0 F0 R w) (hi:R[i]?=some (frzM B wz)):InS w noF sz A n cell:=fun hn=>by
  obtain ⟨b,o,e,h⟩:=h hn
  rcases h with ⟨h1,h2,h3⟩|⟨h1,h2,h3⟩
  · refine ⟨b,o,e,Nat.lt_of_lt_of_le h1 S.size,fun h=>h,fun k j hk hj=>?_⟩
    rw [←h3 k j hk hj]
    exact World.cell?_of_block (w:=w0) (S.ro b h1 h2)
  · refine ⟨b,o,e,(S.inn _ (List.mem_of_getElem? hi) b h1).1,fun h=>h,fun k j hk hj=>?_⟩
    rw [←h3 k j hk hj]
    exact World.cell?_of_block (w:=wz) (S.holds hi b h1)
theorem RdF.nowR {R':List Mem} (h:RdF w0 F0 B wz sz A n cell) (S:St w0 F0 R w) (hi:R[i]?=some (frzM B wz)) (hR:∀ m ∈ R',∃ j,j≠i∧R[j]?=some m):InS w (fps R') sz A n cell:=fun hn=>by
  obtain ⟨b,o,e,h⟩:=h hn
  rcases h with ⟨h1,h2,h3⟩|⟨h1,h2,h3⟩
  · refine ⟨b,o,e,Nat.lt_of_lt_of_le h1 S.size,fun ⟨m,hm,hmb⟩=>?_,fun k j hk hj=>?_⟩
    · obtain ⟨j,_,hj⟩:=hR m hm
      exact h2 ((S.inn m (List.mem_of_getElem? hj) b hmb).2 h1)
    · rw [←h3 k j hk hj]
      exact World.cell?_of_block (w:=w0) (S.ro b h1 h2)
  · refine ⟨b,o,e,(S.inn _ (List.mem_of_getElem? hi) b h1).1,fun ⟨m,hm,hmb⟩=>?_,fun k j hk hj=>?_⟩
    · obtain ⟨j,hji,hj⟩:=hR m hm
      exact S.disj j i m _ hj hi hji b hmb h1
    · rw [←h3 k j hk hj]
      exact World.cell?_of_block (w:=wz) (S.holds hi b h1)
theorem RdF.adr (h:RdF w0 F0 B wz sz A n cell) (hn:0<n):A=some ⟨(Go.Proofs.YtinghmelkmblmaaGreat.adr A).block,(Go.Proofs.YtinghmelkmblmaaGreat.adr A).off,none⟩:=by
  obtain ⟨b,o,rfl,_⟩:=h hn
  rfl
theorem RdF.rd (h:RdF w0 F0 B wz sz A n cell) (S:St w0 F0 R w) (hi:R[i]?=some (frzM B wz)) {k j:Nat} (hk:k<n) (hj:j<sz):w.cell? (pt A sz k j)=some (cell k j):=(h.now S hi).rd (St.start w) hk hj
theorem RdF.congr {cell':Nat→Nat→Value} (h:RdF w0 F0 B wz sz A n cell) (hc:∀ k j,k<n→j<sz→cell k j=cell' k j):RdF w0 F0 B wz sz A n cell':=fun hn=>by
  obtain ⟨b,o,e,h⟩:=h hn
  rcases h with ⟨h1,h2,h3⟩|⟨h1,h2,h3⟩
  · exact ⟨b,o,e,.inl ⟨h1,h2,fun k j hk hj=>by rw [h3 k j hk hj,hc k j hk hj]⟩⟩
  · exact ⟨b,o,e,.inr ⟨h1,h2,fun k j hk hj=>by rw [h3 k j hk hj,hc k j hk hj]⟩⟩
theorem St.frz0 (S:St w0 F0 R w):St w0 F0 (frzM noF w::R) w:=S.new (Keeps.refl _ _) (fun _ h=>h.elim) (fun _ h=>h.elim)
theorem RdF.grow {B':Nat→Prop} (h:RdF w0 F0 B wz sz A n cell) (S:St w0 F0 R w) (hi:R[i]?=some (frzM B wz)) (hB:∀ k,B k→B' k):RdF w0 F0 B' w sz A n cell:=fun hn=>by
  obtain ⟨b,o,e,h⟩:=h hn
  rcases h with h|⟨h1,h2,h3⟩
  · exact ⟨b,o,e,.inl h⟩
  · refine ⟨b,o,e,.inr ⟨hB b h1,(S.inn _ (List.mem_of_getElem? hi) b h1).1,fun k j hk hj=>?_⟩⟩
    rw [←h3 k j hk hj]
    exact World.cell?_of_block (w:=wz) (S.holds hi b h1)
theorem St.freeze (S:St w0 F0 (ownM e sz A n c cell::R) w) (hi:R[i]?=some (frzM B wz)) :
    ∃ B',St w0 F0 (R.set i (frzM B' w)) w∧RdF w0 F0 B' w sz A n cell∧∀ sz' A' n' cell',RdF w0 F0 B wz sz' A' n' cell'→RdF w0 F0 B' w sz' A' n' cell':=by
  refine ⟨fun k=>B k∨(ownM e sz A n c cell).fp k,S.merge (i:=i) hi (fun _ _=>rfl) (fun k h=>h.symm),fun hn=>?_,fun sz' A' n' cell' h=>h.grow S (i:=i+1) (by simpa using hi) fun _ h => .inl h⟩
  have hown:=S.holds (i:=0) rfl
  rcases hown with ⟨_,h,_⟩|⟨b,cs,rfl,hb,h1,h2,h3,h4⟩
  · omega
  · refine ⟨b,0,rfl,.inr ⟨.inr ⟨_,rfl,rfl⟩,cA hb,fun k j hk hj=>?_⟩⟩
    rw [←h4 k j hk hj,Nat.zero_add]
    exact cell_of_row w b (k*sz+j) cs e (0,0) hb
end
section
variable {P:Program} {ops:Array Oper} {w w0:World} {F0:Nat→Prop} {R:List Mem} {Q:Exit→Act→World→Prop} {rest:List Oper} {N:FN} {L:List (Nat×Value)} {a:Act} {ty:TypeId} {pos:String} {af:Array Edge}
theorem oZ {d t e sz by_ n c m c':Nat} {x y:Operand} {zs:List Value} {A B:Option Addr} {cell cell':Nat→Nat→Value} (H:Fr N L a) (hd:Nat.blt d N.n=true) (S:St w0 F0 R w) (ht:SlT P t e) (hs:Sz P e sz) (hz:Zero P e zs) (hby:Bytes P e by_) (hzs:Nat.beq zs.length sz=true) (hpos:Nat.blt 0 sz=true)
    (hx:ev L x=some (.slice A n c)) (hy:ev L y=some (.slice B m c')) (hA:InS w noF sz A n cell) (hn:A=none→n=0∧c=0) (hfull:c<n+m) (hm:0<m) (hB:InS w noF sz B m cell') (hone:∀ k j,k<m→j<sz→(cell' k j).oneCell'=true)
    (hlen:(n+m)*by_≤140737488355328) (hlen2:n+m≤9223372036854775807)
    (k:∀ A' c1 w' a',St w0 F0 (ownM e sz A' (n+m) c1 (capp n cell cell')::R) w'→Fr N ((d,.slice A' (n+m) c1)::L) a'→wpList P ops Q rest a' w') :
    wpList P ops Q (⟨some d,.call ⟨.builtin .append,#[x,y],#[t,t]⟩,ty,pos,af,none⟩::rest) a w:=by
  have hpos':0<sz:=by simpa using hpos
  have hzs':zs.length=sz:=Nat.eq_of_beq_eq_true hzs
  have hflat:∀ (q:Nat) (C:Option Addr) (cl:Nat→Nat→Value),InS w noF sz C q cl→∀ b,C=some b→∀ (j:Nat) u,(flat sz q cl)[j]?=some u→w.cell? (b.add j)=some u:=by
    intro q C cl h b hb j u hu
    have hjl:j<q*sz:=by
      have:=(List.getElem?_eq_some_iff.1 hu).1
      simpa [flat] using this
    have hq0:0<q:=by
      rcases Nat.eq_zero_or_pos q with h0|h0
      · subst h0;omega
      · exact h0
    obtain ⟨b',o,hC,_,_,hc⟩:=h hq0
    rw [hb] at hC
    injection hC with hC
    subst hC
    rw [iU]
    have hk:j/sz<q:=(Nat.div_lt_iff_lt_mul hpos').2 hjl
    have hj:j%sz<sz:=Nat.mod_lt _ hpos'
    have he:j/sz*sz+j%sz=j:=by rw [Nat.mul_comm];exact Nat.div_add_mod j sz
    have h1:=hc _ _ hk hj
    have h2:=jA (cell:=cl) hk hj
    rw [he,hu,Option.some.injEq] at h2
    rw [Nat.add_assoc,he] at h1
    rw [h1,h2]
  unfold Zero at hz
  unfold Sz at hs
  unfold Bytes at hby
  cases hi:P.info? e with
  | none=>rw [hi] at hz;simp at hz
  | some i=>
    rw [hi] at hz hs hby
    simp at hz hs hby
    obtain ⟨z,hz1,hz2⟩:=hz
    have hzsz:z.cells.size=sz:=by rw [←hzs',←hz2];simp
    obtain ⟨bb,bo,hBe,_⟩:=hB hm
    have hone':∀ u ∈ flat sz m cell',u.oneCell'=true:=by
      intro u hu
      simp only [flat,List.mem_map,List.mem_range] at hu
      obtain ⟨q,hq,rfl⟩:=hu
      exact hone _ _ ((Nat.div_lt_iff_lt_mul hpos').2 hq) (Nat.mod_lt _ hpos')
    refine wpList_append_grows (w:=w) rfl x y t rfl e i z sz by_ ht hi hz1 hs hby hzsz hpos' A n c (flat sz n cell) (H.eval hx) hn (by simp [flat]) (hflat n A cell hA) ⟨bb,bo,none⟩ m c' (flat sz m cell') (by rw [H.eval hy,hBe]) (by simp [flat]) (fun j u hu=>hflat m B cell' hB ⟨bb,bo,none⟩ hBe j u hu) hone' hfull (by simp only [maxLen];omega) hlen ?_
    intro v' w' hown hgrow
    have hfl:∀ k j,k<n+m→j<sz→(flat sz n cell++flat sz m cell')[k*sz+j]?=some (capp n cell cell' k j):=by
      intro k j hk hj
      have hl:(flat sz n cell).length=n*sz:=by simp [flat]
      unfold capp
      by_cases hkn:k<n
      · rw [if_pos hkn]
        have hlt:k*sz+j<n*sz:=by
          have:(k+1)*sz≤n*sz:=Nat.mul_le_mul_right _ (by omega)
          rw [Nat.add_mul] at this
          omega
        rw [List.getElem?_append_left (by omega)]
        exact jA hkn hj
      · rw [if_neg hkn]
        have hge:n*sz≤k*sz:=Nat.mul_le_mul_right _ (by omega)
        rw [List.getElem?_append_right (by omega),hl]
        have:k*sz+j-n*sz=(k-n)*sz+j:=by rw [Nat.sub_mul];omega
        rw [this]
        exact jA (by omega) hj
    have hown0:w'.ownsRow 0 e sz v' (n+m) (flat sz n cell++flat sz m cell'):=⟨hown.1,hown.2.imp (fun h=>h) fun ⟨g,cap,cur,h1,h2,h3⟩=>⟨g,cap,cur,h1,Nat.zero_le _,h3⟩⟩
    obtain ⟨A',c1,rfl,h6,h7⟩:=Df (cell:=capp n cell cell') hown0 hfl
    refine k A' c1 w' _ (S.new ((Keeps.of_grown hgrow).mono fun k hk=>by cases hk) h6 ?_) (H.put _ hd)
    rintro q ⟨aa,rfl,rfl⟩
    rcases hown.2 with ⟨h,_⟩|⟨g,cap,cur,h,h1,h2,_⟩
    · cases h
    · injection h with h _ _
      injection h with h
      subst h
      exact ⟨h1,cA h2⟩
end
theorem qS {P:Program} {L:List (Nat×Value)} {w:World} {d:Option Nat} {ty:TypeId} {pos:String} {af:Array Edge} {g:Option (Nat×Bool)} {t e sz:Nat} {x y z:Operand} {A:Option Addr} {n c hi:Nat} {k1 k2:IntKind} (ht:SlT P t e) (hs:Sz P e sz) (hx:ev L x=some (.slice A n c)) (hy:ev L y=some (.int k1 (hi:Int))) (hz:ev L z=some (.int k2 (hi:Int))) (h:hi≤c) :
    Does P L ⟨d,.slice t x none (some y) (some z),ty,pos,af,g⟩ w (.slice A hi hi):=fun ρ hρ=>by
  have hb:(Instr.sliceBounds true n c none (some (.int k1 (hi:Int))) (some (.int k2 (hi:Int)))).run P w = .ok (0,hi,hi) w:=by
    simp [Instr.sliceBounds,Instr.sliceBound,asIntOf,h]
  have e1:(Instr.sliceAt t (.slice A n c) none (some (.int k1 (hi:Int))) (some (.int k2 (hi:Int)))).run P w = .ok (.slice A hi hi) w:=by
    unfold Instr.sliceAt
    simp only [Sem.run_bind,bT ht,Result.andThen_ok,Instr.slice,hb,hs.run,Sem.run_pure]
    have e0:(if hi=0 then A else A.map (·.add (0*sz)))=A:=by
      split
      · rfl
      · cases A with
        | none=>rfl
        | some ad=>simp [Addr.add]
    rw [e0]
    rfl
  simp [execOp,hρ _ _ hx,hρ _ _ hy,hρ _ _ hz,e1]
section
variable {w w0:World} {F0:Nat→Prop} {R:List Mem} {i b:Nat} {κ:Type} [DecidableEq κ] {enc:κ→Value} {Φ Φ':(κ→Option Value)→Prop}
theorem mapK.fix (S:St w0 F0 R w) (hi:R[i]?=some (mapK enc b Φ)):∃ h0,Φ h0∧St w0 F0 (R.set i (mapK enc b (fun h=>h=h0))) w:=by
  obtain ⟨es,ck,l,h1,h2,h3,h4,h5⟩:=S.holds hi
  exact ⟨getL l,h5,S.imp hi (fun _=>⟨es,ck,l,h1,h2,h3,h4,rfl⟩) (fun _ h=>h)⟩
theorem mapK.weak (S:St w0 F0 R w) (hi:R[i]?=some (mapK enc b Φ)) (h:∀ g,Φ g→Φ' g):St w0 F0 (R.set i (mapK enc b Φ')) w:=
  S.imp hi (fun ⟨es,ck,l,h1,h2,h3,h4,h5⟩=>⟨es,ck,l,h1,h2,h3,h4,h _ h5⟩) (fun _ h=>h)
theorem Ln {ty:TypeId} {cs:List Value} (S:St w0 F0 R w) (hi:R[i]?=some (boxM b ty cs)) (hn:cs.length≤maxLen):St w0 F0 (R.set i (ownM ty 1 (some ⟨b,0,none⟩) cs.length cs.length (fun k _=>cs.getD k undef))) w:=by
  refine S.imp hi (fun h => .inr ⟨b,_,rfl,h,Nat.le_refl _,hn,by simp,fun k j hk hj=>?_⟩) (fun k hk=>by obtain ⟨a,e,h⟩:=hk;cases e;exact h.symm)
  have:j=0:=by omega
  subst this
  simp [hk]
theorem Qk {ty:TypeId} {n:Nat} {cell:Nat→Nat→Value} (S:St w0 F0 R w) (hi:R[i]?=some (ownM ty 1 (some ⟨b,0,none⟩) n n cell)):St w0 F0 (R.set i (boxM b ty ((List.range n).map fun k=>cell k 0))) w:=by
  refine S.imp hi (fun h=>?_) (fun k hk=>⟨_,rfl,hk.symm⟩)
  rcases h with ⟨h,_⟩|⟨b',cs,hA,hb,h1,h2,h3,h4⟩
  · cases h
  · injection hA with hA
    injection hA with hA
    subst hA
    show w.heap[b]?=_
    rw [hb]
    have e:cs=((List.range n).map fun k=>cell k 0).toArray:=by
      apply Array.ext
      · simp;omega
      · intro k hk1 hk2
        have hk:k<n:=by simpa using hk2
        have:=h4 k 0 hk (by omega)
        rw [Nat.mul_one,Nat.add_zero,Array.getElem?_eq_getElem hk1,Option.some.injEq] at this
        rw [this];simp
    rw [e]
end
def orJ (j k:Int):Int:=if k=1 then (if j/2%2=1 then j else j+2) else (if j/4%2=1 then j else j+4)
theorem Lo {P:Program} {L:List (Nat×Value)} {w:World} {d:Option Nat} {ty:TypeId} {pos:String} {af:Array Edge} {g:Option (Nat×Bool)} {x y:Operand} {xt yt:TypeId} {j k:Int} (hx:ev L x=some (.int .i64 j)) (hy:ev L y=some (.int .i64 (1*2^k.toNat))) (hj:j=0∨j=2∨j=4∨j=6) (hk:1≤k∧k≤2) :
    Does P L ⟨d,.binOp .or xt x y yt,ty,pos,af,g⟩ w (.int .i64 (orJ j k)):=fun ρ hρ=>by
  have hk':k=1∨k=2:=by omega
  have e:Op.intBits .or .i64 j (1*2^k.toNat)=pure (.int .i64 (orJ j k)):=by
    rcases hk' with rfl|rfl <;> rcases hj with rfl|rfl|rfl|rfl <;> rfl
  simp only [execOp,hρ _ _ hx,hρ _ _ hy]
  rw [Int.one_mul] at e
  simp [eqGuard,binOp,e]
theorem Gx (l:List Tsk) (u d:Int):jobV l u d=0∨jobV l u d=2∨jobV l u d=4∨jobV l u d=6:=by
  unfold jobV
  cases hasT l d u 1 <;> cases hasT l d u 2 <;> decide
theorem Lp (t:Tsk) (d u k:Int):hasT [t] d u k=decide (t.day=d∧t.unit=u∧t.kind=k):=by
  unfold hasT;simp
theorem tR {l:List Tsk} {t:Tsk} {u d:Int} (hk:1≤t.kind∧t.kind≤2):jobV (l++[t]) u d=if t.unit=u∧t.day=d then orJ (jobV l u d) t.kind else jobV l u d:=by
  have h1:=zY l [t] d u 1
  have h2:=zY l [t] d u 2
  rw [Lp] at h1 h2
  by_cases h:t.unit=u∧t.day=d
  · rw [if_pos h]
    have hk':t.kind=1∨t.kind=2:=by omega
    unfold jobV
    rw [h1,h2]
    rcases hk' with e|e
    · rw [e,decide_eq_true (show t.day=d∧t.unit=u∧(1:Int)=1 from ⟨h.2,h.1,rfl⟩),decide_eq_false (show ¬ (t.day=d∧t.unit=u∧(1:Int)=2) from fun h=>by omega)]
      cases hasT l d u 1 <;> cases hasT l d u 2 <;> decide
    · rw [e,decide_eq_false (show ¬ (t.day=d∧t.unit=u∧(2:Int)=1) from fun h=>by omega),decide_eq_true (show t.day=d∧t.unit=u∧(2:Int)=2 from ⟨h.2,h.1,rfl⟩)]
      cases hasT l d u 1 <;> cases hasT l d u 2 <;> decide
  · rw [if_neg h]
    unfold jobV
    rw [h1,h2,decide_eq_false (fun h9=>h ⟨h9.2.1,h9.1⟩),decide_eq_false (fun h9=>h ⟨h9.2.1,h9.1⟩),Bool.or_false,Bool.or_false]
theorem vH {l:List Tsk} {k:Nat} (hk:k<l.length):l.take (k+1)=l.take k++[l.getD k Tsk.zero]:=by
  rw [List.take_succ_eq_append_getElem hk,List.getD_eq_getElem?_getD,List.getElem?_eq_getElem hk]
  rfl
def kcl (i:Nat) (J:Nat→Int) (k _j:Nat):Value:=if k=0 then .int .i64 i else .int .i64 (J (k-1))
def jobP (l:List Tsk) (n i:Nat):Nat→Int:=fun d=>jobV (l.take n) i d
theorem Lq (l:List Tsk) (i:Nat):jobP l l.length i=jobF l i:=by
  funext d;unfold jobP jobF;rw [List.take_length]
theorem Gy (l:List Tsk) (i:Nat):jobP l 0 i=fun _=>0:=by funext d;rfl
theorem Lr {l:List Tsk} {i k j:Nat} (hk:k<21) (hj:j<1):(([.int .i64 (i:Int),.int .i64 0,.int .i64 0,.int .i64 0,.int .i64 0,.int .i64 0,.int .i64 0,.int .i64 0,.int .i64 0,.int .i64 0,.int .i64 0,.int .i64 0,.int .i64 0,.int .i64 0,.int .i64 0,.int .i64 0,.int .i64 0,.int .i64 0,.int .i64 0,.int .i64 0,.int .i64 0]:List Value).getD k undef)=kcl i (jobP l 0 i) k j:=by
  rw [Gy]
  unfold kcl
  rcases Nat.eq_zero_or_pos k with e|e
  · subst e;rfl
  · rw [if_neg (by omega)]
    obtain ⟨q,rfl⟩:∃ q,k=q+1:=⟨k-1,by omega⟩
    have hq:q<20:=by omega
    show ((List.replicate 20 (Value.int .i64 0)).getD q undef)=_
    rw [List.getD_eq_getElem?_getD,List.getElem?_replicate,if_pos hq]
    rfl
theorem Ql {k:Int} (h:1≤k∧k≤2):i64ok (1*2^k.toNat):=by
  have hk':k=1∨k=2:=by omega
  rcases hk' with rfl|rfl <;> (unfold i64ok;decide)
theorem Qm {l:List Tsk} {n i:Nat} (hn:n<l.length) (hk:1≤(l.getD n Tsk.zero).kind∧(l.getD n Tsk.zero).kind≤2) (h:¬ (l.getD n Tsk.zero).unit=(i:Int)):jobP l (n+1) i=jobP l n i:=by
  funext d
  unfold jobP
  rw [vH hn,tR hk,if_neg (fun h9=>h h9.1)]
theorem Qo {l:List Tsk} {n i d:Nat} (hn:n<l.length) (hk:1≤(l.getD n Tsk.zero).kind∧(l.getD n Tsk.zero).kind≤2) (h:(l.getD n Tsk.zero).unit=(i:Int)) (hd:(l.getD n Tsk.zero).day=(d:Int)) :
    ∀ k j,j<1→cput (kcl i (jobP l n i)) (d+1) 0 (.int .i64 (orJ (jobP l n i d) (l.getD n Tsk.zero).kind)) k j=kcl i (jobP l (n+1) i) k j:=by
  intro k j hj
  have hj0:j=0:=by omega
  subst hj0
  unfold cput kcl jobP
  rw [vH hn]
  by_cases e:k=d+1
  · subst e
    rw [if_pos ⟨rfl,rfl⟩,if_neg (by omega),Nat.add_sub_cancel,tR hk,if_pos ⟨h,hd⟩]
  · rw [if_neg (fun h9=>e h9.1)]
    by_cases e0:k=0
    · rw [if_pos e0,if_pos e0]
    · rw [if_neg e0,if_neg e0,tR hk,if_neg (fun h9=>by omega)]
def keyOf (i:Nat) (J:Nat→Int):KeyN 21:=⟨(i:Int)::(List.range 20).map J,by simp⟩
noncomputable def lifeV (u:Unt) (J:Nat→Int) (n:Nat):Value := .agg [.int .i64 (bsum (runB' u J) n),.int .i64 (bsum (certB u J) n)].toArray
theorem zZ {u:Unt} {J J':Nat→Int} {n:Nat} (h:∀ d,d<n→J d=J' d):lifeV u J n=lifeV u J' n:=by
  unfold lifeV
  rw [nJ (f:=runB' u J) (g:=runB' u J') fun d hd=>Ce fun i hi=>h i (by omega),nJ (f:=certB u J) (g:=certB u J') fun d hd=>zW fun i hi=>h i (by omega)]
theorem Gz {i i':Nat} {J J':Nat→Int} (h:keyOf i J=keyOf i' J'):i=i'∧∀ d,d<20→J d=J' d:=by
  have h1:(i:Int)::(List.range 20).map J=(i':Int)::(List.range 20).map J':=congrArg Subtype.val h
  injection h1 with h2 h3
  refine ⟨by omega,fun d hd=>?_⟩
  have h4:=congrArg (fun l=>l[d]?) h3
  simp only [List.getElem?_map,List.getElem?_range hd,Option.map_some,Option.some.injEq] at h4
  exact h4
def livP (y:Yr) (h:KeyN 21→Option Value):Prop:=∀ i J v,i<y.us.length→h (keyOf i J)=some v→v=lifeV (y.us.getD i Unt.zero) J y.days.toNat
theorem Ha {y:Yr}:livP y (fun _=>none):=fun _ _ _ _ h=>by cases h
theorem Ls {y:Yr} {i:Nat} {J:Nat→Int} {v:Value} (hd:y.days.toNat≤20) (hv:v=lifeV (y.us.getD i Unt.zero) J y.days.toNat):∀ h,livP y h→livP y (fun k'=>if k'=keyOf i J then some v else h k'):=fun h hh i' J' v' hi' hv'=>by
  dsimp only at hv'
  split at hv'
  · rename_i e
    obtain ⟨e1,e2⟩:=Gz e
    subst e1
    rw [Option.some.injEq] at hv'
    rw [←hv',hv]
    exact zZ fun d hd'=>(e2 d (by omega)).symm
  · exact hh i' J' v' hi' hv'
noncomputable def leavB (y:Yr) (out:Int):Bool:=decide (mfv y.pl.toNat y.limit.toNat y.pe y.xs (hds out y.xs y.ps)=sumI y.pe y.pe.length)
def safP (y:Yr) (h:Int→Option Value):Prop:=∀ o v,(0≤o∧o≤4095)→h o=some v→v = .bool (leavB y o)
theorem Hb {y:Yr}:safP y (fun _=>none):=fun _ _ _ h=>by cases h
noncomputable def prmB (y:Yr) (d out:Int) (k:Nat):Bool:=!(decide ((y.prs.getD k Prm.zero).first≤d)&&decide (d≤(y.prs.getD k Prm.zero).last))||decide (0≤dst y.pl.toNat y.ps out (y.help&&(y.prs.getD k Prm.zero).helped) (y.prs.getD k Prm.zero).to.toNat (y.prs.getD k Prm.zero).fr.toNat)
noncomputable def keepB (y:Yr) (d out:Int):Bool:=allN (prmB y d out) y.prs.length
def kepP (y:Yr) (h:Int×Int→Option Value):Prop:=∀ d o v,(0≤o∧o≤4095)→h (d,o)=some v→v = .bool (keepB y d o)
theorem Hc {y:Yr}:kepP y (fun _=>none):=fun _ _ _ _ h=>by cases h
theorem Lt {f g:Nat→Bool} {n:Nat} (h1:f n=false) (h2:g n=true) (h3:∀ i,i≠n→g i=f i):∀ N,bsum g N=bsum f N+if n<N then 2^n else 0:=by
  intro N
  induction N with
  | zero=>rw [if_neg (by omega)];rfl
  | succ N ih=>
    rw [bsum,bsum,ih]
    by_cases e:N=n
    · subst e
      rw [h1,h2,if_neg (Nat.lt_irrefl N),if_pos (c:=N<N+1) (by omega)]
      simp
    · rw [h3 N e]
      generalize (if f N=true then (2:Int)^N else 0)=z
      by_cases h4:n<N
      · rw [if_pos h4,if_pos (c:=n<N+1) (by omega)];omega
      · rw [if_neg h4,if_neg (c:=n<N+1) (by omega)];omega
noncomputable def outM (y:Yr) (l:List Tsk) (d k m:Nat):Bool:=!allN (fun i=>!(decide ((y.us.getD i Unt.zero).mach=(m:Int))&&!runsY y l i d)) k
section
variable {y:Yr} {l:List Tsk} {d k m:Nat}
theorem qC:outM y l d (k+1) m=(outM y l d k m||(decide ((y.us.getD k Unt.zero).mach=(m:Int))&&!runsY y l k d)):=by
  unfold outM
  simp only [allN,Bool.not_and,Bool.not_not,Bool.not_or]
theorem Lu:outM y l d k m=true↔∃ i,i<k∧(y.us.getD i Unt.zero).mach=(m:Int)∧runsY y l i d=false:=by
  unfold outM
  rw [Bool.not_eq_true',←Bool.not_eq_true,cC]
  constructor
  · intro h
    refine Classical.byContradiction fun h2=>h fun i hi=>?_
    rw [Bool.not_eq_true',←Bool.not_eq_true,Bool.and_eq_true,decide_eq_true_eq,Bool.not_eq_true']
    exact fun h3=>h2 ⟨i,hi,h3⟩
  · rintro ⟨i,hi,h1,h2⟩ h
    have:=h i hi
    rw [h1,h2] at this
    simp at this
theorem kL {ps:List Psg} {us:List Unt} {P:Int} {xs:List Int} (V:StV P ps xs) {u:Unt} {i:Nat} (h:UntOk ps us u i):(0≤u.mach∧u.mach≤11)∧∀ j,j<i→(us.getD j Unt.zero).mach≠u.mach:=by
  obtain ⟨⟨k,hk,h1,h2⟩,h3⟩:=Gu.1 h.free
  have h4:=eJ.1 (V.pas k hk)
  exact ⟨by omega,h3⟩
theorem YOk.V (h:YOk y):StV y.pl y.ps y.xs:=oR (xC (zK h.kept).1).1
theorem tS (h:YOk y) (hk:k<y.us.length):outM y l d k (y.us.getD k Unt.zero).mach.toNat=false:=by
  have h1:=kL h.V (jK.1 (h.un k hk))
  rw [←Bool.not_eq_true,Lu]
  rintro ⟨i,hi,h2,_⟩
  have:=h1.2 i hi
  omega
theorem vI (h:YOk y):∀ k,k≤y.us.length→outY y l d k=bsum (outM y l d k) 12:=by
  intro k
  induction k with
  | zero=>
    intro _
    have:∀ N,bsum (outM y l d 0) N=0:=fun N=>by
      induction N with
      | zero=>rfl
      | succ N ih=>rw [bsum,ih];rfl
    rw [this];rfl
  | succ k ih=>
    intro hk
    have h1:=kL h.V (jK.1 (h.un k (by omega)))
    have hf:=tS (l:=l) (d:=d) h (show k<y.us.length by omega)
    rw [outY,ih (by omega)]
    by_cases hr:runsY y l k d=true
    · rw [if_pos hr,Int.add_zero]
      refine nJ fun i _=>?_
      rw [qC,hr]
      simp
    · rw [if_neg hr]
      rw [Bool.not_eq_true] at hr
      rw [Lt (g:=outM y l d (k+1)) (n:=(y.us.getD k Unt.zero).mach.toNat) hf (by rw [qC,hr,decide_eq_true (by omega)];simp) (fun i hi=>by rw [qC,decide_eq_false (by omega)];simp),if_pos (by omega)]
theorem Eo (h:YOk y) (hk:k≤y.us.length):0≤outY y l d k∧outY y l d k≤4095:=by
  rw [vI h k hk]
  have:=rM (outM y l d k) 12
  have e:(2:Int)^12=4096:=by decide
  omega
theorem Lv (h:YOk y) (hk:k≤y.us.length) (hm:m<12):outY y l d k/2^m%2=if outM y l d k m=true then 1 else 0:=by
  rw [vI h k hk];exact tP hm
theorem Cf (h:YOk y) (hk:k<y.us.length):outY y l d k/2^(y.us.getD k Unt.zero).mach.toNat%2=0:=by
  have h1:=kL h.V (jK.1 (h.un k hk))
  rw [Lv h (by omega) (by omega),tS h hk];rfl
theorem Lw (hr:runsY y l k d=true):outY y l d (k+1)=outY y l d k:=by rw [outY,if_pos hr,Int.add_zero]
theorem Lx (hr:runsY y l k d=false):outY y l d (k+1)=outY y l d k+2^(y.us.getD k Unt.zero).mach.toNat:=by rw [outY,if_neg (by rw [hr];simp)]
noncomputable def setsQ (y:Yr) (l:List Tsk) (k q:Nat) (d _j:Nat):Value := .int .i64 (if d<q then outY y l d (k+1) else outY y l d k)
noncomputable def setsV (y:Yr) (l:List Tsk) (k:Nat) (d _j:Nat):Value := .int .i64 (outY y l d k)
theorem Cg:setsQ y l k 0=setsV y l k:=by
  funext d j;unfold setsQ setsV;rw [if_neg (by omega)]
theorem He {n:Nat}:∀ d j,d<n→j<1→setsQ y l k n d j=setsV y l (k+1) d j:=fun d j hd _=>by
  unfold setsQ setsV;rw [if_pos hd]
theorem Hf {q:Nat} (hr:runsY y l k q=true):setsQ y l k q=setsQ y l k (q+1):=by
  funext d j
  unfold setsQ
  by_cases e:d=q
  · subst e;rw [if_neg (by omega),if_pos (by omega),Lw hr]
  · by_cases h:d<q
    · rw [if_pos h,if_pos (by omega)]
    · rw [if_neg h,if_neg (by omega)]
theorem Hg {q:Nat} {v:Int} (hr:runsY y l k q=false) (hv:v=outY y l q k+2^(y.us.getD k Unt.zero).mach.toNat):∀ d j,j<1→cput (setsQ y l k q) q 0 (.int .i64 v) d j=setsQ y l k (q+1) d j:=fun d j hj=>by
  subst hv
  have:j=0:=by omega
  subst this
  unfold cput setsQ
  by_cases e:d=q
  · subst e;rw [if_pos ⟨rfl,rfl⟩,if_pos (by omega),Lx hr]
  · rw [if_neg (fun h=>e h.1)]
    by_cases h:d<q
    · rw [if_pos h,if_pos (by omega)]
    · rw [if_neg h,if_neg (by omega)]
theorem Yy {n q:Nat} (hq:q<n) (h:bsum (runB' (y.us.getD k Unt.zero) (jobF l k)) n/2^((q:Nat):Int).toNat%2=0):runsY y l k q=false:=by
  rw [Int.toNat_natCast,tP hq] at h
  rw [←Bool.not_eq_true]
  intro h2
  have h3:runB' (y.us.getD k Unt.zero) (jobF l k) q=true:=h2
  rw [if_pos h3] at h
  cases h
theorem Yz {n q:Nat} (hq:q<n) (h:¬ bsum (runB' (y.us.getD k Unt.zero) (jobF l k)) n/2^((q:Nat):Int).toNat%2=0):runsY y l k q=true:=by
  rw [Int.toNat_natCast,tP hq] at h
  refine Classical.byContradiction fun h2=>h ?_
  rw [if_neg (show ¬ runB' (y.us.getD k Unt.zero) (jobF l k) q=true from h2)]
end
section
variable {y:Yr} {l:List Tsk} {d k n m:Nat}
end
section
variable {y:Yr} {l:List Tsk} {u:Int} {f:Nat→Bool} {n:Nat}
end
section
variable {y:Yr} {l:List Tsk} {i d k:Nat} {f:Nat→Bool}
end
end
section
def BxIn (w:World) (b:Nat) (cs:List Value):Prop:=b<w.heap.size∧∀ (j:Nat) v,cs[j]?=some v→w.cell? ⟨b,j,none⟩=some v
theorem BxIn.now {w0 w:World} {R:List Mem} {b:Nat} {cs:List Value} (h:BxIn w0 b cs) (S:St w0 noF R w):BxIn w b cs:=
  ⟨Nat.lt_of_lt_of_le h.1 S.size,fun j v hv=>by
    rw [←h.2 j v hv]
    unfold World.cell?
    rw [S.ro b h.1 (fun h=>h)]⟩
theorem BxIn.of {w0 w:World} {F0:Nat→Prop} {R:List Mem} {i b:Nat} {t:TypeId} {cs:List Value} (S:St w0 F0 R w) (hi:R[i]?=some (boxM b t cs)) (h0:0<cs.length):BxIn w b cs:=by
  have hr:∀ (j:Nat) v,cs[j]?=some v→w.cell? ⟨b,j,none⟩=some v:=fun j v hv=>boxM.rd S hi hv
  refine ⟨?_,hr⟩
  have h1:=hr 0 _ (List.getElem?_eq_getElem h0)
  unfold World.cell? at h1
  split at h1
  · rename_i hb;exact cA hb
  · cases h1
end
section
theorem gA (n lo hi:Int) (w:World) :
    Calls Tryz.prog 88 [.int .i64 n,.int .i64 lo,.int .i64 hi].toArray w (Ret (fun v w'=>v = .bool (decide (lo≤n)&&decide (n≤hi))∧w'=w)):=by
 refine enter Tryz.func88 rfl Tryz.ntmps88 rfl (fun a H=>?_)
 have S:=St.start w
 refine sS H fun K1 k1=>sr 1 rfl<|sE ?_;clear H a;intro a H
 refine k1 _ ?_;clear k1 K1
 replace H:=H.keep [0,1,2] rfl
 refine sS H fun K2 k2=>sr 4 rfl<|sg 3 3 10 13 true G G (fun hg4=>sy hg4<|sr 1 rfl<|sy hg4<|sr 1 rfl<|sy hg4<|sr 1 rfl<|sz 3 G G G)<|sa G G G<|sr 1 rfl<|sE ?_;clear H a;intro a H
 refine k2 _ ?_;clear k2 K2
 refine wp_ret ?_
 refine ret1 (fn:=Tryz.f88) rfl H rfl ?_
 exact ⟨rfl,rfl⟩
theorem mN (n lo hi:Int) (w:World) :
    Calls Tryz.prog 50 [.int .i64 n,.int .i64 lo,.int .i64 hi].toArray w (Ret (fun v w'=>v = .bool (decide (lo≤n)&&decide (n≤hi))∧w'=w)):=by
 refine enter Tryz.func50 rfl Tryz.ntmps50 rfl (fun a H=>?_)
 have S:=St.start w
 refine sS H fun K1 k1=>sr 1 rfl<|sE ?_;clear H a;intro a H
 refine k1 _ ?_;clear k1 K1
 replace H:=H.keep [0,1,2] rfl
 refine sS H fun K2 k2=>sr 4 rfl<|sg 3 3 10 13 true G G (fun hg4=>sy hg4<|sr 1 rfl<|sy hg4<|sr 1 rfl<|sy hg4<|sr 1 rfl<|sz 3 G G G)<|sa G G G<|sr 1 rfl<|sE ?_;clear H a;intro a H
 refine k2 _ ?_;clear k2 K2
 refine wp_ret ?_
 refine ret1 (fn:=Tryz.f50) rfl H rfl ?_
 exact ⟨rfl,rfl⟩
theorem Ly (c:Cr) (w:World) :
    Calls Tryz.prog 91 [.agg [.int .i64 c.lo,.int .i64 c.hi,.int .i64 c.st,.int .i64 c.mv,.int .i64 c.sp].toArray].toArray w (Ret (fun u w'=>u = .bool (crB c)∧St w noF [] w')):=by
 refine enter Tryz.func91 rfl Tryz.ntmps91 rfl (fun a H=>?_)
 have S:=St.start w
 refine seq_list fun K1 k1=>?_
 refine aO H rfl S G G ?_;clear H a S;intro b1 _ a hb1 hbw1 S H
 refine ls 1 H<|sr 1 rfl<|sE ?_;clear H a;intro a H
 refine k1 _ _ ?_;clear k1 K1
 replace H:=H.keep [1] rfl
 refine sS H fun K2 k2=>sf wQ rfl<|sl S 0 aD G G G<|sf jS rfl<|sl S 0 aD G G G<|sf jT rfl<|sl S 0 aD G G G<|sc rfl Tryz.func88 G G (gA _ _ _ _)<|sr 1 rfl<|sg 3 7 10 13 true G G (fun hg8=>sy hg8<|sf jS rfl<|sy hg8<|sl S 0 aD G G G<|sy hg8<|sr 1 rfl<|sz 3 G G G)<|sa G G G<|sr 1 rfl<|sg 3 12 15 18 true G G (fun hg13=>sy hg13<|sf jT rfl<|sy hg13<|sl S 0 aD G G G<|sy hg13<|sr 1 rfl<|sz 3 G G G)<|sa G G G<|sr 1 rfl<|sg 3 17 20 23 true G G (fun hg18=>sy hg18<|sf rG rfl<|sy hg18<|sl S 0 aD G G G<|sy hg18<|sc rfl Tryz.func88 G G (gA _ _ _ _)<|sz 3 G G G)<|sa G G G<|sr 1 rfl<|sg 3 22 25 28 true G G (fun hg23=>sy hg23<|sf wR rfl<|sy hg23<|sl S 0 aD G G G<|sy hg23<|sc rfl Tryz.func88 G G (gA _ _ _ _)<|sz 3 G G G)<|sa G G G<|sr 1 rfl<|sE ?_;clear H a;intro a H
 refine k2 _ ?_;clear k2 K2
 refine wp_ret ?_
 refine ret1 (fn:=Tryz.f91) rfl H rfl ?_
 refine ⟨congrArg Value.bool ?_,(S.sel [] G G)⟩
 rw [Bool.eq_iff_iff,iV]
 simp only [Bool.and_eq_true,decide_eq_true_eq]
 omega
theorem Aa (c:Cr) (w:World) :
    Calls Tryz.prog 51 [.agg [.int .i64 c.lo,.int .i64 c.hi,.int .i64 c.st,.int .i64 c.mv,.int .i64 c.sp].toArray].toArray w (Ret (fun u w'=>u = .int .i64 (if crB c=true then 0 else 70)∧St w noF [] w')):=by
 refine enter Tryz.func51 rfl Tryz.ntmps51 rfl (fun a H=>?_)
 have S:=St.start w
 refine seq_list fun K1 k1=>?_
 refine aO H rfl S G G ?_;clear H a S;intro b1 _ a hb1 hbw1 S H
 refine ls 1 H<|sr 1 rfl<|sE ?_;clear H a;intro a H
 refine k1 _ _ ?_;clear k1 K1
 refine wp_seq_k fun K2 k2=>?_
 replace H:=H.keep [1] rfl
 refine sS H fun K3 k3=>sf jS rfl<|sl S 0 aD G G G<|sr 2 rfl<|sg 8 3 6 14 false G G (fun hg4=>by
     have hq4:=hg4;try simp only [o1,o2,o3,o4,o5,o6,o7,o8,o9,oa] at hq4
     exact sy hg4<|sf wQ rfl<|sy hg4<|sl S 0 aD G G G<|sy hg4<|sf jS rfl<|sy hg4<|sl S 0 aD G G G<|sy hg4<|sf jT rfl<|sy hg4<|sl S 0 aD G G G<|sy hg4<|sc rfl Tryz.func50 G G (mN _ _ _ _)<|sy hg4<|sr 1 rfl<|sz 8 G G G)<|so G G G<|sr 1 rfl<|sg 3 13 16 19 false G G (fun hg14=>by
     have hq14:=hg14;try simp only [o1,o2,o3,o4,o5,o6,o7,o8,o9,oa] at hq14
     exact sy hg14<|sf jT rfl<|sy hg14<|sl S 0 aD G G G<|sy hg14<|sr 1 rfl<|sz 3 G G G)<|so G G G<|sr 1 rfl<|sg 4 18 21 25 false G G (fun hg19=>by
     have hq19:=hg19;try simp only [o1,o2,o3,o4,o5,o6,o7,o8,o9,oa] at hq19
     exact sy hg19<|sf rG rfl<|sy hg19<|sl S 0 aD G G G<|sy hg19<|sc rfl Tryz.func50 G G (mN _ _ _ _)<|sy hg19<|sr 1 rfl<|sz 4 G G G)<|so G G G<|sr 1 rfl<|sg 4 24 27 31 false G G (fun hg25=>by
     have hq25:=hg25;try simp only [o1,o2,o3,o4,o5,o6,o7,o8,o9,oa] at hq25
     exact sy hg25<|sf wR rfl<|sy hg25<|sl S 0 aD G G G<|sy hg25<|sc rfl Tryz.func50 G G (mN _ _ _ _)<|sy hg25<|sr 1 rfl<|sz 4 G G G)<|so G G G<|sE ?_;clear H a;intro a H
 refine k3 _ ?_;clear k3 K3
 refine cond_ H rfl (fun hc1=>?_) (fun hc1=>?_)
 ·skip
  try simp only [o1,o2,o3,o4,o5,o6,o7,o8,o9,oa] at hc1
  replace H:=H.keep [] rfl
  refine sS H fun K4 k4=>sr 1 rfl<|sE ?_;clear H a;intro a H
  refine k4 _ ?_;clear k4 K4
  refine wp_ret ?_
  refine ret1 (fn:=Tryz.f51) rfl H rfl ?_
  rw [if_neg (by rw [iV];omega)]
  exact ⟨rfl,(S.sel [] G G)⟩
 try simp only [o1,o2,o3,o4,o5,o6,o7,o8,o9,oa] at hc1
 refine wp_skip ?_
 refine k2 _ _ ?_
 refine sS H fun K5 k5=>sr 1 rfl<|sE ?_;clear H a;intro a H
 refine k5 _ ?_;clear k5 K5
 refine wp_ret ?_
 refine ret1 (fn:=Tryz.f51) rfl H rfl ?_
 rw [if_pos (by rw [iV];omega)]
 exact ⟨rfl,(S.sel [] G G)⟩
theorem Lz (pr:List Pr) (RA:Option Addr) (rc:Nat) (w:World) (hpr:InS w noF 2 RA pr.length (fF pr)) (hpn:pr.length≤9223372036854775807) :
    Calls Tryz.prog 92 [.slice RA pr.length rc].toArray w (Ret (fun u w'=>u = .bool (timeB pr)∧St w noF [] w')):=by
 refine enter Tryz.func92 rfl Tryz.ntmps92 rfl (fun a H=>?_)
 have S:=St.start w
 refine sS H fun K1 k1=>sr 1 rfl<|sE ?_;clear H a;intro a H
 refine k1 _ ?_;clear k1 K1
 refine sS H fun K2 k2=>sr 1 rfl<|sE ?_;clear H a;intro a H
 refine k2 _ ?_;clear k2 K2
 refine wp_seq_k fun K3 k3=>?_
 refine sS H fun K4 k4=>sr 1 rfl<|sL dS rfl<|sr 1 rfl<|sE ?_;clear H a;intro a H
 refine k4 _ ?_;clear k4 K4
 refine wp_block ?_
 refine loop_st (X:=Nat×Int) (R0:=_) [0,6,7] H rfl (fun ⟨k,la⟩=>[(3,.int .i64 la),(8,.int .i64 (k:Int))]) (fun ⟨k,la⟩=>[]) (fun g ⟨k,la⟩=>(k≤pr.length∧g+k=pr.length)∧la=lastP pr k∧∀ q,q<k→prE pr q=true) (pr.length) (0,0) ?_ (S.sel [] G G) (H.keep [3,8,0,6,7] rfl) ?_
 · exact ⟨⟨by omega,by omega⟩,rfl,fun q hq=>absurd hq (Nat.not_lt_zero q)⟩
 clear H S a
 intro g1 x1 a w1 hp S H K5 k5
 obtain ⟨k,la⟩:=x1
 dsimp only at hp S H
 obtain ⟨⟨hkl,hgk⟩,hla,hal⟩:=hp
 refine sS H fun K6 k6=>sr 1 rfl<|sE ?_;clear H a;intro a H
 refine k6 _ ?_;clear k6 K6
 refine wp_seq_k fun K7 k7=>?_
 refine condL H rfl (fun hc1=>?_) (fun hc1=>?_)
 ·skip
  refine wp_skip ?_
  refine k7 _ _ ?_
  refine wp_seq_k fun K8 k8=>?_
  refine wp_block ?_
  refine seq_list fun K9 k9=>?_
  refine ls 2 H<|si dS dK G G (hpr.adr (by omega)) (by omega)<|sd ((aU mG dK rfl S hpr (by omega) (by omega)))<|sE ?_;clear H a;intro a H
  refine aI H rfl S Bt ?_;clear H a S;intro b5 _ a hb5 hbw5 S H
  refine aB H S (i:=0) G G G G dK G G ?_
  clear H a S;intro _ a S H
  refine k9 _ _ ?_;clear k9 K9
  refine wp_seq_k fun K10 k10=>?_
  replace H:=H.keep [0,3,5,6,7,8] rfl
  refine sS H fun K11 k11=>sf jG rfl<|sl S 0 aD G G G<|sr 1 rfl<|sc rfl Tryz.func88 G G (gA _ _ _ _)<|sr 1 rfl<|sE ?_;clear H a;intro a H
  refine k11 _ ?_;clear k11 K11
  refine cond_ H rfl (fun hc2=>?_) (fun hc2=>?_)
  ·skip
   try simp only [o1,o2,o3,o4,o5,o6,o7,o8,o9,oa] at hc2
   refine sS H fun K12 k12=>sr 1 rfl<|sE ?_;clear H a;intro a H
   refine k12 _ ?_;clear k12 K12
   refine wp_ret ?_
   refine ret1 (fn:=Tryz.f92) rfl H rfl ?_
   rw [yQ (k:=k) (by omega) (by rw [←Bool.not_eq_true,kS,←hla];intro h9;omega)]
   exact ⟨rfl,(S.sel [] G G)⟩
  try simp only [o1,o2,o3,o4,o5,o6,o7,o8,o9,oa] at hc2
  refine wp_skip ?_
  refine k10 _ _ ?_
  refine sO H<|sf jG rfl<|sl S 0 aD G G G<|sr 1 rfl<|sE ?_;clear H a;intro a H
  refine k8 _ _ ?_
  replace H:=H.keep [0,3,6,7,8] rfl
  refine sO H<|sd (aK G G (by unfold i64ok;omega))<|sr 1 rfl<|sE ?_;clear H a;intro a H
  exact k5 (g1-1) (k+1,_) a _ (by omega) (⟨⟨by omega,by omega⟩,rfl,fun q hq=>by
    by_cases e:q=k
    · subst e;rw [kS,←hla];simpa using hc2
    · exact hal q (by omega)⟩) (S.sel [] G G) (H.keep [3,8,0,6,7] rfl)
 refine wp_exit ?_
 refine k3 _ _ ?_
 refine sS H fun K15 k15=>sr 1 rfl<|sL dS rfl<|sr 2 rfl<|sE ?_;clear H a;intro a H
 refine k15 _ ?_;clear k15 K15
 refine wp_ret ?_
 refine ret1 (fn:=Tryz.f92) rfl H rfl ?_
 refine ⟨congrArg Value.bool ?_,(S.sel [] G G)⟩
 rw [Bool.eq_iff_iff,nY,decide_eq_true_eq]
 exact ⟨fun h=>⟨fun q hq=>hal q (by omega),by omega⟩,fun h=>by have:=h.2;omega⟩
theorem xH (pr:List Pr) (RA:Option Addr) (rc:Nat) (w:World) (hpr:InS w noF 2 RA pr.length (fF pr)) (hpn:pr.length≤9223372036854775807) :
    Calls Tryz.prog 52 [.slice RA pr.length rc].toArray w (Ret (fun u w'=>u = .bool (timeB pr)∧St w noF [] w')):=by
 refine enter Tryz.func52 rfl Tryz.ntmps52 rfl (fun a H=>?_)
 have S:=St.start w
 refine sS H fun K1 k1=>sr 1 rfl<|sE ?_;clear H a;intro a H
 refine k1 _ ?_;clear k1 K1
 refine wp_seq_k fun K2 k2=>?_
 refine sS H fun K3 k3=>sr 1 rfl<|sE ?_;clear H a;intro a H
 refine k3 _ ?_;clear k3 K3
 refine wp_block ?_
 refine loop_st (X:=Nat) (R0:=_) [0] H rfl (fun k=>[(3,.int .i64 (k:Int))]) (fun k=>[]) (fun g k=>(k≤pr.length∧g+k=pr.length)∧∀ q,q<k→prE pr q=true) (pr.length) 0 ?_ (S.sel [] G G) (H.keep [3,0] rfl) ?_
 · exact ⟨⟨by omega,by omega⟩,fun q hq=>absurd hq (Nat.not_lt_zero q)⟩
 clear H S a
 intro g1 x1 a w1 hp S H K4 k4
 obtain ⟨k,rfl⟩:∃ y,y=x1:=⟨_,rfl⟩
 obtain ⟨⟨hkl,hgk⟩,hal⟩:=hp
 refine wp_seq_k fun K5 k5=>?_
 refine sS H fun K6 k6=>sr 2 rfl<|sL dS rfl<|sr 1 rfl<|sE ?_;clear H a;intro a H
 refine k6 _ ?_;clear k6 K6
 refine condL H rfl (fun hc1=>?_) (fun hc1=>?_)
 ·skip
  refine wp_skip ?_
  refine k5 _ _ ?_
  refine wp_seq_k fun K7 k7=>?_
  refine wp_block ?_
  replace H:=H.keep [0,3] rfl
  replace S:=S.drew
  refine sD H fun K8 k8=>sr 2 rfl<|si dS dK G G (hpr.adr (by omega)) (by omega)<|sp jG rfl<|slm aD rfl (hpr.rd S (by omega) (by omega))<|sc rfl Tryz.func50 G G (mN _ _ _ _)<|sr 2 rfl<|sg 16 7 17 33 false G G (fun hg8=>by
      have hq8:=hg8;try simp only [o1,o2,o3,o4,o5,o6,o7,o8,o9,oa] at hq8
      exact sy hg8<|sr 1 rfl<|sy hg8<|sr 1 rfl<|sy hg8<|sr 1 rfl<|sg 12 10 20 32 true G G (fun hg11=>by
           have hq11:=hg11;try simp only [o1,o2,o3,o4,o5,o6,o7,o8,o9,oa] at hq11
           exact sy hg11<|sr 1 rfl<|sy hg11<|sr 1 rfl<|sy hg11<|si dS dK G G (hpr.adr (by omega)) (by omega)<|sy hg11<|sp jG rfl<|sy hg11<|slm aD rfl (hpr.rd S (by omega) (by omega))<|sy hg11<|sr 1 rfl<|sy hg11<|sr 1 rfl<|sy hg11<|sd (aS G G (by unfold i64ok;omega))<|sy hg11<|sI dS dK G G (hpr.adr (by omega)) (by omega) (by omega)<|sy hg11<|sp jG rfl<|sy hg11<|slm aD rfl (hpr.rd S (by omega) (by omega))<|sy hg11<|sr 1 rfl<|sz 12 G G G)<|sy hg8<|sa G G G<|sz 5 G G G)<|so G G G<|sE ?_;clear H a;intro a H
  refine k8 _ ?_;clear k8 K8
  refine cond_ H rfl (fun hc2=>?_) (fun hc2=>?_)
  ·skip
   try simp only [o1,o2,o3,o4,o5,o6,o7,o8,o9,oa] at hc2
   replace H:=H.keep [] rfl
   refine sS H fun K9 k9=>sr 1 rfl<|sE ?_;clear H a;intro a H
   refine k9 _ ?_;clear k9 K9
   refine wp_ret ?_
   refine ret1 (fn:=Tryz.f52) rfl H rfl ?_
   rw [yQ (k:=k) (by omega) (by rw [←Bool.not_eq_true,kS];intro h9;have hl9:=Dk hal;have e9:=rZ pr k;omega)]
   exact ⟨rfl,(S.sel [] G G)⟩
  try simp only [o1,o2,o3,o4,o5,o6,o7,o8,o9,oa] at hc2
  refine wp_skip ?_
  refine k7 _ _ ?_
  refine sO H<|sr 1 rfl<|sd (aK G G (by unfold i64ok;omega))<|sr 1 rfl<|sE ?_;clear H a;intro a H
  exact k4 (g1-1) (k+1) a _ (by omega) (⟨⟨by omega,by omega⟩,fun q hq=>by
    by_cases e:q=k
    · subst e;rw [kS];have e9:=rZ pr q;omega
    · exact hal q (by omega)⟩) (S.sel [] G G) (H.keep [3,0] rfl)
 refine wp_exit ?_
 refine k2 _ _ ?_
 refine sS H fun K11 k11=>sr 1 rfl<|sL dS rfl<|sr 2 rfl<|sE ?_;clear H a;intro a H
 refine k11 _ ?_;clear k11 K11
 refine wp_ret ?_
 refine ret1 (fn:=Tryz.f52) rfl H rfl ?_
 refine ⟨congrArg Value.bool ?_,(S.sel [] G G)⟩
 rw [Bool.eq_iff_iff,nY,decide_eq_true_eq]
 exact ⟨fun h=>⟨fun q hq=>hal q (by omega),by omega⟩,fun h=>by have:=h.2;omega⟩
theorem xI (ca : List Cr) (CA : Option Addr) (cc : Nat) (f : Nat) (fn : Func) (fs cs : List Value) (p : Nat → Bool) (w : World) (hca : InS w noF 5 CA ca.length (cU ca)) (hcn : ca.length ≤ 9223372036854775807) (hf : Tryz.prog.funcs[f]? = some fn) (hfb : fn.body.isNone = false) (hfn : (fn.name == "runtime.NumGoroutine") = false) (hcall : ∀ k, k < ca.length → ∀ w' : World, St w noF [] w' → Calls Tryz.prog f (fs ++ [Value.agg (cellsOf (cU ca) k 0 5).toArray] ++ cs).toArray w' (Ret fun u w'' => u = .bool (p k) ∧ St w' noF [] w'')) :
    Calls Tryz.prog 128 [.slice CA ca.length cc,.func (.func f) fs.toArray cs.toArray].toArray w (Ret (fun u w'=>∃ n:Int,u = .int .i64 n∧decide (0≤n)=smN p ca.length∧St w noF [] w')):=by
 refine enter Tryz.func128 rfl Tryz.ntmps128 rfl (fun a H=>?_)
 have S:=St.start w
 refine sS H fun K1 k1=>sr 1 rfl<|sE ?_;clear H a;intro a H
 refine k1 _ ?_;clear k1 K1
 refine wp_seq_k fun K2 k2=>?_
 refine sS H fun K3 k3=>sr 1 rfl<|sL eX rfl<|sr 1 rfl<|sE ?_;clear H a;intro a H
 refine k3 _ ?_;clear k3 K3
 refine wp_block ?_
 refine loop_st (X:=Nat) (R0:=_) [0,1,7] H rfl (fun k=>[(8,.int .i64 (k:Int))]) (fun k=>[]) (fun g k=>k≤ca.length∧g+k=ca.length∧∀ q,q<k→p q=false) (ca.length) 0 ?_ (S.sel [] G G) (H.keep [8,0,1,7] rfl) ?_
 · exact ⟨by omega,by omega,fun q hq=>absurd hq (Nat.not_lt_zero q)⟩
 clear H S a
 intro g1 x1 a w1 hp S H K4 k4
 obtain ⟨k,rfl⟩:∃ y,y=x1:=⟨_,rfl⟩
 refine sS H fun K5 k5=>sr 1 rfl<|sE ?_;clear H a;intro a H
 refine k5 _ ?_;clear k5 K5
 refine wp_seq_k fun K6 k6=>?_
 refine condL H rfl (fun hc1=>?_) (fun hc1=>?_)
 ·skip
  refine wp_skip ?_
  refine k6 _ _ ?_
  refine wp_seq_k fun K7 k7=>?_
  refine wp_block ?_
  refine sS H fun K8 k8=>sr 2 rfl<|sE ?_;clear H a;intro a H
  refine k8 _ ?_;clear k8 K8
  refine seq_list fun K9 k9=>?_
  refine ls 5 H<|sr 3 rfl<|si eX eU G G (hca.adr (by omega)) (by omega)<|sd ((aU kT eU rfl S hca (by omega) (by omega)))<|sE ?_;clear H a;intro a H
  refine fS (fs:=fs) (cs:=cs) (vs:=[Value.agg (cellsOf (cU ca) k 0 5).toArray]) H G G G hf hfb hfn (hcall k (by omega) _ (S.sel [] G G)) ?_;clear H a
  rintro _ _ a ⟨rfl,S2⟩ H
  replace S:=S.call S2;clear S2
  refine k9 _ _ ?_;clear k9 K9
  refine cond_ H rfl (fun hc2=>?_) (fun hc2=>?_)
  ·skip
   skip
   replace H:=H.keep [5] rfl
   refine sS H fun K10 k10=>sr 2 rfl<|sE ?_;clear H a;intro a H
   refine k10 _ ?_;clear k10 K10
   refine wp_ret ?_
   refine ret1 (fn:=Tryz.f128) rfl H rfl ?_
   exact ⟨_,rfl,by rw [mD.2 ⟨k,by omega,hc2⟩];exact decide_eq_true (by omega),(S.sel [] G G)⟩
  skip
  refine wp_skip ?_
  refine k7 _ _ ?_
  refine sO H<|sd (aK G G (by unfold i64ok;omega))<|sr 1 rfl<|sE ?_;clear H a;intro a H
  exact k4 (g1-1) (k+1) a _ (by omega) (⟨by omega,by omega,fun q hq=>by
    by_cases e:q=k
    · subst e;simpa using hc2
    · exact hp.2.2 q (by omega)⟩) (S.sel [] G G) (H.keep [8,0,1,7] rfl)
 refine wp_exit ?_
 refine k2 _ _ ?_
 refine sS H fun K12 k12=>sr 1 rfl<|sE ?_;clear H a;intro a H
 refine k12 _ ?_;clear k12 K12
 refine wp_ret ?_
 refine ret1 (fn:=Tryz.f128) rfl H rfl ?_
 exact ⟨_,rfl,by rw [nA.2 (fun q hq=>hp.2.2 q (by omega))];rfl,(S.sel [] G G)⟩
theorem lI (ca : List Cr) (CA : Option Addr) (cc : Nat) (f : Nat) (fn : Func) (fs cs : List Value) (p : Nat → Bool) (w : World) (hca : InS w noF 5 CA ca.length (cU ca)) (hcn : ca.length ≤ 9223372036854775807) (hf : Tryz.prog.funcs[f]? = some fn) (hfb : fn.body.isNone = false) (hfn : (fn.name == "runtime.NumGoroutine") = false) (hcall : ∀ k, k < ca.length → ∀ w' : World, St w noF [] w' → Calls Tryz.prog f (fs ++ [Value.agg (cellsOf (cU ca) k 0 5).toArray] ++ cs).toArray w' (Ret fun u w'' => u = .bool (p k) ∧ St w' noF [] w'')) :
    Calls Tryz.prog 89 [.slice CA ca.length cc,.func (.func f) fs.toArray cs.toArray].toArray w (Ret (fun u w'=>u = .bool (smN p ca.length)∧St w noF [] w')):=by
 refine enter Tryz.func89 rfl Tryz.ntmps89 rfl (fun a H=>?_)
 have S:=St.start w
 refine sS H fun K1 k1=>sr 1 rfl<|sE ?_;clear H a;intro a H
 refine k1 _ ?_;clear k1 K1
 refine seq_list fun K2 k2=>?_
 refine ls 2 H<|sr 2 rfl<|sE ?_;clear H a;intro a H
 have hcl9:=xI ca CA cc f fn fs cs p _ (hca.now S) hcn hf hfb hfn (fun k hk w9 S9=>hcall k hk w9 (S.call S9))
 refine aA H G G Tryz.func128 G G hcl9 ?_;clear H a hcl9
 rintro _ _ a ⟨n9,rfl,hn9,S2⟩ H
 replace S:=S.call S2;clear S2
 refine ls 2 H<|sr 2 rfl<|sE ?_;clear H a;intro a H
 refine k2 _ _ ?_;clear k2 K2
 refine wp_ret ?_
 refine ret1 (fn:=Tryz.f89) rfl H rfl ?_
 exact ⟨congrArg Value.bool hn9,(S.sel [] G G)⟩
theorem Hh (c:Cr) (w:World) :
    Calls Tryz.prog 90 [.agg [.int .i64 c.lo,.int .i64 c.hi,.int .i64 c.st,.int .i64 c.mv,.int .i64 c.sp].toArray].toArray w (Ret (fun u w'=>u = .bool (!crB c)∧St w noF [] w')):=by
 refine enter Tryz.func90 rfl Tryz.ntmps90 rfl (fun a H=>?_)
 have S:=St.start w
 refine seq_list fun K1 k1=>?_
 refine aO H rfl S G G ?_;clear H a S;intro b1 _ a hb1 hbw1 S H
 refine ls 1 H<|sr 1 rfl<|sE ?_;clear H a;intro a H
 refine k1 _ _ ?_;clear k1 K1
 refine seq_list fun K2 k2=>?_
 refine ls 1 H<|sd ((aE kT eU rfl S (i:=0) G G))<|sE ?_;clear H a;intro a H
 refine aA H G G Tryz.func91 G G (Ly c _) ?_;clear H a
 rintro _ _ a ⟨rfl,S2⟩ H
 replace S:=S.call S2;clear S2
 refine ls 2 H<|sr 2 rfl<|sE ?_;clear H a;intro a H
 refine k2 _ _ ?_;clear k2 K2
 refine wp_ret ?_
 refine ret1 (fn:=Tryz.f90) rfl H rfl ?_
 exact ⟨rfl,(S.sel [] G G)⟩
theorem Hi (c:Cr) (p:Pr) (b:Nat) (w:World) (hb:BxIn w b [.int .i64 p.at',.int .i64 p.fl]) :
    Calls Tryz.prog 93 [.agg [.int .i64 c.lo,.int .i64 c.hi,.int .i64 c.st,.int .i64 c.mv,.int .i64 c.sp].toArray,.pointer (some ⟨b,0,none⟩)].toArray w (Ret (fun u w'=>u = .bool (inB c p)∧St w noF [] w')):=by
 refine enter Tryz.func93 rfl Tryz.ntmps93 rfl (fun a H=>?_)
 have S:=St.start w
 refine seq_list fun K1 k1=>?_
 refine aO H rfl S G G ?_;clear H a S;intro b2 _ a hb2 hbw2 S H
 refine ls 1 H<|sr 1 rfl<|sE ?_;clear H a;intro a H
 refine k1 _ _ ?_;clear k1 K1
 replace H:=H.keep [1,2] rfl
 refine sS H fun K2 k2=>sf jH rfl<|slm aD rfl ((hb.now S).2 1 _ rfl)<|sf jS rfl<|sl S 0 aD G G G<|sf jT rfl<|sl S 0 aD G G G<|sc rfl Tryz.func88 G G (gA _ _ _ _)<|sr 1 rfl<|sE ?_;clear H a;intro a H
 refine k2 _ ?_;clear k2 K2
 refine wp_ret ?_
 refine ret1 (fn:=Tryz.f93) rfl H rfl ?_
 exact ⟨rfl,(S.sel [] G G)⟩
theorem eO (ca:List Cr) (CA:Option Addr) (cc:Nat) (pr:List Pr) (RA:Option Addr) (rc:Nat) (w:World) (hca:InS w noF 5 CA ca.length (cU ca)) (hcn:ca.length≤9223372036854775807) (hpr:InS w noF 2 RA pr.length (fF pr)) (hpn:pr.length≤9223372036854775807) :
    Calls Tryz.prog 53 [.slice CA ca.length cc,.slice RA pr.length rc].toArray w (Ret (fun u w'=>u = .int .i64 (grpE ca pr)∧St w noF [] w')):=by
 refine enter Tryz.func53 rfl Tryz.ntmps53 rfl (fun a H=>?_)
 have S:=St.start w
 refine sS H fun K1 k1=>sr 1 rfl<|sE ?_;clear H a;intro a H
 refine k1 _ ?_;clear k1 K1
 refine wp_seq_k fun K2 k2=>?_
 refine seq_list fun K3 k3=>?_
 refine ls 2 H<|sr 1 rfl<|sL eX rfl<|sE ?_;clear H a;intro a H
 refine aA H G G Tryz.func88 G G (gA _ _ _ _) ?_;clear H a
 rintro _ _ a ⟨rfl,rfl⟩ H
 refine ls 2 H<|sr 2 rfl<|sE ?_;clear H a;intro a H
 apply cI (i:=4) (g:=11) (t:=13) (b:=false) 2 H S G G (by kernel_rfl) (by kernel_rfl) G G
 case h1=>
  intro hg5
  have hq5:=hg5;try simp only [o1,o2,o3,o4,o5,o6,o7,o8,o9,oa] at hq5
  refine ls 1 H<|sy hg5<|sr 1 rfl<|sE ?_;intro a H
  refine dB H G G (by assumption) ?_
  have hcl9:=lI ca CA cc 90 _ [] [] (fun k=>!crB (ca.getD k Cr.zero)) _ (hca.now S) hcn Tryz.func90 G G (fun k hk w9 S9=>Hh (ca.getD k Cr.zero) w9)
  refine aA H G G Tryz.func89 G G hcl9 ?_;clear H a hcl9
  rintro _ _ a ⟨rfl,S2⟩ H
  replace S:=S.call S2;clear S2
  exact wpList_nil ⟨H.strip 2 G G,(S.sel [] G G)⟩
 clear H a S;intro a _ H S
 refine ls 1 H<|so G G G<|sE ?_;clear H a;intro a H
 refine k3 _ _ ?_;clear k3 K3
 refine cond_ H rfl (fun hc1=>?_) (fun hc1=>?_)
 ·skip
  try simp only [o1,o2,o3,o4,o5,o6,o7,o8,o9,oa] at hc1
  replace H:=H.keep [] rfl
  refine sS H fun K4 k4=>sr 1 rfl<|sE ?_;clear H a;intro a H
  refine k4 _ ?_;clear k4 K4
  refine wp_ret ?_
  refine ret1 (fn:=Tryz.f53) rfl H rfl ?_
  rcases hc1 with h9|h9
  · rw [Dl (by omega)];exact ⟨rfl,(S.sel [] G G)⟩
  · rw [Dm h9];exact ⟨rfl,(S.sel [] G G)⟩
 try simp only [o1,o2,o3,o4,o5,o6,o7,o8,o9,oa] at hc1
 have hl1:1≤ca.length∧ca.length≤3:=by omega
 have hc9:=hc1.2
 refine wp_skip ?_
 refine k2 _ _ ?_
 refine wp_seq_k fun K5 k5=>?_
 refine seq_list fun K6 k6=>?_
 refine ls 1 H<|sr 1 rfl<|sE ?_;clear H a;intro a H
 refine aA H G G Tryz.func92 G G (Lz pr RA rc _ (hpr.now S) hpn) ?_;clear H a
 rintro _ _ a ⟨rfl,S2⟩ H
 replace S:=S.call S2;clear S2
 refine ls 1 H<|sr 1 rfl<|sE ?_;clear H a;intro a H
 refine k6 _ _ ?_;clear k6 K6
 refine cond_ H rfl (fun hc2=>?_) (fun hc2=>?_)
 ·skip
  try simp only [o1,o2,o3,o4,o5,o6,o7,o8,o9,oa] at hc2
  refine sS H fun K7 k7=>sr 1 rfl<|sE ?_;clear H a;intro a H
  refine k7 _ ?_;clear k7 K7
  refine wp_ret ?_
  refine ret1 (fn:=Tryz.f53) rfl H rfl ?_
  rw [yR hl1 hc9 (by simpa using hc2)];exact ⟨rfl,(S.sel [] G G)⟩
 try simp only [o1,o2,o3,o4,o5,o6,o7,o8,o9,oa] at hc2
 have htm:timeB pr=true:=by simpa using hc2
 refine wp_skip ?_
 refine k5 _ _ ?_
 refine wp_seq_k fun K8 k8=>?_
 refine sS H fun K9 k9=>sr 1 rfl<|sL dS rfl<|sr 1 rfl<|sE ?_;clear H a;intro a H
 refine k9 _ ?_;clear k9 K9
 refine wp_block ?_
 refine loop_st (X:=Nat) (R0:=_) [0,18,19] H rfl (fun z=>[(20,.int .i64 (z:Int))]) (fun z=>[]) (fun g z=>(z≤pr.length∧g+z=pr.length)∧∀ q,q<z→(fun k=>!srvB ca (pr.getD k Pr.zero)) q=false) (pr.length) 0 ?_ (S.sel [] G G) (H.keep [20,0,18,19] rfl) ?_
 · exact ⟨⟨by omega,by omega⟩,fun q hq=>absurd hq (Nat.not_lt_zero q)⟩
 clear H S a
 intro g1 x1 a w1 hp S H K10 k10
 obtain ⟨z,rfl⟩:∃ y,y=x1:=⟨_,rfl⟩
 obtain ⟨⟨hkl,hgk⟩,hal⟩:=hp
 refine sS H fun K11 k11=>sr 1 rfl<|sE ?_;clear H a;intro a H
 refine k11 _ ?_;clear k11 K11
 refine wp_seq_k fun K12 k12=>?_
 refine condL H rfl (fun hc3=>?_) (fun hc3=>?_)
 ·skip
  refine wp_skip ?_
  refine k12 _ _ ?_
  refine wp_seq_k fun K13 k13=>?_
  refine wp_block ?_
  refine seq_list fun K14 k14=>?_
  refine mC H rfl (by first | (exact aZ dS dK G G (by first | (exact hca.adr (by omega); trace "ALT eO 7.0.1 0") | (exact hpr.adr (by omega); trace "ALT eO 7.0.1 1")) (by omega); trace "ALT eO 7.0.3 0") | (exact bK dS dK G G (by first | (exact hca.adr (by omega); trace "ALT eO 7.0.1 0") | (exact hpr.adr (by omega); trace "ALT eO 7.0.1 1")) (by omega) (by omega); trace "ALT eO 7.0.3 1")) ?_;clear H a;intro a H
  refine mC H rfl ((by first | (exact aU mG dK rfl S hca (by omega) (by omega); trace "ALT eO 7.1.1 0") | (exact aU mG dK rfl S hpr (by omega) (by omega); trace "ALT eO 7.1.1 1"))) ?_;clear H a;intro a H
  refine aI H rfl S Bt ?_;clear H a S;intro b6 _ a hb6 hbw6 S H
  first | (refine aB H S (i := 0) G G G G dK G G ?_; trace "ALT eO 7.3.1 0") | (refine cQ H S (i := 0) G G G (by omega) (by omega) dK rfl ?_; trace "ALT eO 7.3.1 1")
  clear H a S;intro _ a S H
  refine k14 _ _ ?_;clear k14 K14
  refine seq_list fun K15 k15=>?_
  refine ls 2 H<|sr 2 rfl<|sE ?_;clear H a;intro a H
  have hcl9:=lI ca CA cc 93 _ [] [.pointer (some ⟨_,0,none⟩)] (fun k=>inB (ca.getD k Cr.zero) (pr.getD z Pr.zero)) _ (hca.now S) hcn Tryz.func93 G G (fun k hk w9 S9=>Hi (ca.getD k Cr.zero) (pr.getD z Pr.zero) _ w9 ((BxIn.of S (i:=0) rfl (Nat.succ_pos _)).now S9))
  refine aA H G G Tryz.func89 G G hcl9 ?_;clear H a hcl9
  rintro _ _ a ⟨rfl,S2⟩ H
  replace S:=S.call S2;clear S2
  refine ls 1 H<|sr 1 rfl<|sE ?_;clear H a;intro a H
  refine k15 _ _ ?_;clear k15 K15
  refine cond_ H rfl (fun hc4=>?_) (fun hc4=>?_)
  ·skip
   try simp only [o1,o2,o3,o4,o5,o6,o7,o8,o9,oa] at hc4
   replace H:=H.keep [] rfl
   refine sS H fun K16 k16=>sr 1 rfl<|sE ?_;clear H a;intro a H
   refine k16 _ ?_;clear k16 K16
   refine wp_ret ?_
   refine ret1 (fn:=Tryz.f53) rfl H rfl ?_
   rw [yS hl1 hc9 htm (mD.2 ⟨z,by omega,by show (!smN _ _)=true;simpa using hc4⟩)];exact ⟨rfl,(S.sel [] G G)⟩
  try simp only [o1,o2,o3,o4,o5,o6,o7,o8,o9,oa] at hc4
  refine wp_skip ?_
  refine k13 _ _ ?_
  refine sO H<|sd (aK G G (by unfold i64ok;omega))<|sr 1 rfl<|sE ?_;clear H a;intro a H
  exact k10 (g1-1) (z+1) a _ (by omega) (⟨⟨by omega,by omega⟩,fun q hq=>by
    by_cases e:q=z
    · subst e;show (!smN _ _)=false;simpa using hc4
    · exact hal q (by omega)⟩) (S.sel [] G G) (H.keep [20,0,18,19] rfl)
 refine wp_exit ?_
 refine k8 _ _ ?_
 refine sS H fun K18 k18=>sr 1 rfl<|sE ?_;clear H a;intro a H
 refine k18 _ ?_;clear k18 K18
 refine wp_ret ?_
 refine ret1 (fn:=Tryz.f53) rfl H rfl ?_
 rw [Jl hl1 hc9 htm (nA.2 fun q hq=>hal q (by omega))];exact ⟨rfl,(S.sel [] G G)⟩
theorem aQ (ca : List Cr) (CA            : Option Addr) (cc:Nat) (pr:List Pr) (RA:Option Addr) (rc:Nat) (w:World) (hca:InS w noF 5 CA ca.length (cU ca)) (hcn:ca.length≤9223372036854775807) (hpr:InS w noF 2 RA pr.length (fF pr)) (hpn:pr.length≤9223372036854775807) :
    Calls Tryz.prog 17 [.slice CA ca.length cc,.slice RA pr.length rc].toArray w (Ret (fun u w'=>u = .int .i64 (grpE ca pr)∧St w noF [] w')):=by
 refine enter Tryz.func17 rfl Tryz.ntmps17 rfl (fun a H=>?_)
 have S:=St.start w
 refine sS H fun K1 k1=>sr 1 rfl<|sE ?_;clear H a;intro a H
 refine k1 _ ?_;clear k1 K1
 refine wp_seq_k fun K2 k2=>?_
 refine sS H fun K3 k3=>sr 1 rfl<|sL eX rfl<|sc rfl Tryz.func50 G G (mN _ _ _ _)<|sr 1 rfl<|sE ?_;clear H a;intro a H
 refine k3 _ ?_;clear k3 K3
 refine cond_ H rfl (fun hc1=>?_) (fun hc1=>?_)
 ·skip
  try simp only [o1,o2,o3,o4,o5,o6,o7,o8,o9,oa] at hc1
  refine sS H fun K4 k4=>sr 1 rfl<|sE ?_;clear H a;intro a H
  refine k4 _ ?_;clear k4 K4
  refine wp_ret ?_
  refine ret1 (fn:=Tryz.f17) rfl H rfl ?_
  rw [Dl (by omega)];exact ⟨rfl,(S.sel [] G G)⟩
 try simp only [o1,o2,o3,o4,o5,o6,o7,o8,o9,oa] at hc1
 have hl1:1≤ca.length∧ca.length≤3:=by omega
 refine wp_skip ?_
 refine k2 _ _ ?_
 refine wp_seq_k fun K5 k5=>?_
 refine sS H fun K6 k6=>sr 1 rfl<|sE ?_;clear H a;intro a H
 refine k6 _ ?_;clear k6 K6
 refine wp_block ?_
 refine loop_st (X:=Nat) (R0:=_) [0,1] H rfl (fun k=>[(5,.int .i64 (k:Int))]) (fun k=>[]) (fun g k=>(k≤ca.length∧g+k=ca.length)∧∀ q,q<k→(fun k=>!crB (ca.getD k Cr.zero)) q=false) (ca.length) 0 ?_ (S.sel [] G G) (H.keep [5,0,1] rfl) ?_
 · exact ⟨⟨by omega,by omega⟩,fun q hq=>absurd hq (Nat.not_lt_zero q)⟩
 clear H S a
 intro g1 x1 a w1 hp S H K7 k7
 obtain ⟨k,rfl⟩:∃ y,y=x1:=⟨_,rfl⟩
 obtain ⟨⟨hkl,hgk⟩,hal⟩:=hp
 refine wp_seq_k fun K8 k8=>?_
 refine sS H fun K9 k9=>sr 2 rfl<|sL eX rfl<|sr 1 rfl<|sE ?_;clear H a;intro a H
 refine k9 _ ?_;clear k9 K9
 refine condL H rfl (fun hc2=>?_) (fun hc2=>?_)
 ·skip
  refine wp_skip ?_
  refine k8 _ _ ?_
  refine wp_seq_k fun K10 k10=>?_
  refine wp_block ?_
  replace H:=H.keep [0,1,5] rfl
  refine seq_list fun K11 k11=>?_
  refine ls 2 H<|sr 2 rfl<|sE ?_;clear H a;intro a H
  refine mC H rfl (by first | (exact aZ eX eU G G (by first | (exact hca.adr (by omega); trace "ALT aQ 6.2.1 0") | (exact hpr.adr (by omega); trace "ALT aQ 6.2.1 1")) (by omega); trace "ALT aQ 6.2.3 0") | (exact bK eX eU G G (by first | (exact hca.adr (by omega); trace "ALT aQ 6.2.1 0") | (exact hpr.adr (by omega); trace "ALT aQ 6.2.1 1")) (by omega) (by omega); trace "ALT aQ 6.2.3 1")) ?_;clear H a;intro a H
  refine mC H rfl ((by first | (exact aU kT eU rfl S hca (by omega) (by omega); trace "ALT aQ 6.3.1 0") | (exact aU kT eU rfl S hpr (by omega) (by omega); trace "ALT aQ 6.3.1 1"))) ?_;clear H a;intro a H
  refine aA H G G Tryz.func51 G G (Aa (ca.getD k Cr.zero) _) ?_;clear H a
  rintro _ _ a ⟨rfl,S2⟩ H
  replace S:=S.call S2;clear S2
  refine ls 1 H<|sr 1 rfl<|sE ?_;clear H a;intro a H
  refine k11 _ _ ?_;clear k11 K11
  refine condN H rfl (fun hc3=>?_) (fun hc3=>?_)
  ·skip
   have hcb:crB (ca.getD k Cr.zero)=false:=by
     cases h9:crB (ca.getD k Cr.zero) with
     | false=>rfl
     | true=>rw [h9] at hc3;exact absurd rfl hc3
   refine sS H fun K12 k12=>sr 1 rfl<|sE ?_;clear H a;intro a H
   refine k12 _ ?_;clear k12 K12
   refine wp_ret ?_
   refine ret1 (fn:=Tryz.f17) rfl H rfl ?_
   rw [Dm (mD.2 ⟨k,by omega,by show (!crB _)=true;rw [hcb];rfl⟩)];exact ⟨rfl,(S.sel [] G G)⟩
  have hcb:crB (ca.getD k Cr.zero)=true:=by
    cases h9:crB (ca.getD k Cr.zero) with
    | true=>rfl
    | false=>rw [h9] at hc3;cases hc3
  refine wp_skip ?_
  refine k10 _ _ ?_
  replace H:=H.keep [0,1,5] rfl
  refine sO H<|sr 1 rfl<|sd (aK G G (by unfold i64ok;omega))<|sr 1 rfl<|sE ?_;clear H a;intro a H
  exact k7 (g1-1) (k+1) a _ (by omega) (⟨⟨by omega,by omega⟩,fun q hq=>by
    by_cases e:q=k
    · subst e;show (!crB _)=false;rw [hcb];rfl
    · exact hal q (by omega)⟩) (S.sel [] G G) (H.keep [5,0,1] rfl)
 refine wp_exit ?_
 refine k5 _ _ ?_
 refine wp_seq_k fun K14 k14=>?_
 have hc9:smN (fun k=>!crB (ca.getD k Cr.zero)) ca.length=false:=nA.2 fun q hq=>hal q (by omega)
 refine seq_list fun K15 k15=>?_
 refine ls 1 H<|sr 1 rfl<|sE ?_;clear H a;intro a H
 refine aA H G G Tryz.func52 G G (xH pr RA rc _ (hpr.now S) hpn) ?_;clear H a
 rintro _ _ a ⟨rfl,S2⟩ H
 replace S:=S.call S2;clear S2
 refine ls 1 H<|sr 1 rfl<|sE ?_;clear H a;intro a H
 refine k15 _ _ ?_;clear k15 K15
 refine cond_ H rfl (fun hc4=>?_) (fun hc4=>?_)
 ·skip
  try simp only [o1,o2,o3,o4,o5,o6,o7,o8,o9,oa] at hc4
  refine sS H fun K16 k16=>sr 1 rfl<|sE ?_;clear H a;intro a H
  refine k16 _ ?_;clear k16 K16
  refine wp_ret ?_
  refine ret1 (fn:=Tryz.f17) rfl H rfl ?_
  rw [yR hl1 hc9 (by simpa using hc4)];exact ⟨rfl,(S.sel [] G G)⟩
 try simp only [o1,o2,o3,o4,o5,o6,o7,o8,o9,oa] at hc4
 have htm:timeB pr=true:=by simpa using hc4
 refine wp_skip ?_
 refine k14 _ _ ?_
 refine wp_seq_k fun K17 k17=>?_
 refine sS H fun K18 k18=>sr 1 rfl<|sE ?_;clear H a;intro a H
 refine k18 _ ?_;clear k18 K18
 refine wp_block ?_
 refine loop_st (X:=Nat) (R0:=_) [0,1] H rfl (fun z=>[(6,.int .i64 (z:Int))]) (fun z=>[]) (fun g z=>(z≤pr.length∧g+z=pr.length)∧∀ q,q<z→(fun k=>!srvB ca (pr.getD k Pr.zero)) q=false) (pr.length) 0 ?_ (S.sel [] G G) (H.keep [6,0,1] rfl) ?_
 · exact ⟨⟨by omega,by omega⟩,fun q hq=>absurd hq (Nat.not_lt_zero q)⟩
 clear H S a
 intro g2 x2 a w2 hp S H K19 k19
 obtain ⟨z,rfl⟩:∃ y,y=x2:=⟨_,rfl⟩
 obtain ⟨⟨hzl,hgz⟩,hal⟩:=hp
 refine wp_seq_k fun K20 k20=>?_
 refine sS H fun K21 k21=>sr 2 rfl<|sL dS rfl<|sr 1 rfl<|sE ?_;clear H a;intro a H
 refine k21 _ ?_;clear k21 K21
 refine condL H rfl (fun hc5=>?_) (fun hc5=>?_)
 ·skip
  refine wp_skip ?_
  refine k20 _ _ ?_
  refine wp_seq_k fun K22 k22=>?_
  refine wp_block ?_
  refine sS H fun K23 k23=>sr 1 rfl<|sE ?_;clear H a;intro a H
  refine k23 _ ?_;clear k23 K23
  refine wp_seq_k fun K24 k24=>?_
  refine sS H fun K25 k25=>sr 1 rfl<|sE ?_;clear H a;intro a H
  refine k25 _ ?_;clear k25 K25
  refine wp_block ?_
  refine loop_st (X:=Nat×Bool) (R0:=_) [0,1,6] H rfl (fun ⟨k,mb⟩=>[(7,.bool mb),(8,.int .i64 (k:Int))]) (fun ⟨k,mb⟩=>[]) (fun g ⟨k,mb⟩=>(k≤ca.length∧g+k=ca.length)∧mb=smN (fun k=>inB (ca.getD k Cr.zero) (pr.getD z Pr.zero)) k) (ca.length) (0,false) ?_ (S.sel [] G G) (H.keep [7,8,0,1,6] rfl) ?_
  · exact ⟨⟨by omega,by omega⟩,rfl⟩
  clear H S a
  intro g3 x3 a w3 hp S H K26 k26
  obtain ⟨k,mb⟩:=x3
  dsimp only at hp S H
  obtain ⟨⟨hkl,hgk⟩,hmb⟩:=hp
  refine wp_seq_k fun K27 k27=>?_
  refine sS H fun K28 k28=>sr 2 rfl<|sL eX rfl<|sr 1 rfl<|sE ?_;clear H a;intro a H
  refine k28 _ ?_;clear k28 K28
  refine condL H rfl (fun hc6=>?_) (fun hc6=>?_)
  ·skip
   refine wp_skip ?_
   refine k27 _ _ ?_
   refine wp_seq_k fun K29 k29=>?_
   refine wp_block ?_
   replace H:=H.keep [0,1,6,7,8] rfl
   replace S:=S.drew
   refine sP H <| sr 2 rfl <| sg 16 1 41 57 false G G (fun hg2=>by
       have hq2:=hg2;try simp only [o1,o2,o3,o4,o5,o6,o7,o8,o9,oa] at hq2
       exact sy hg2 <| sr 1 rfl <| sy hg2 <| sr 1 rfl<|sy hg2<|sK fun a H=>by
             refine dP H rfl (by first | (exact aZ dS dK G G (by first | (exact hca.adr (by omega); trace "ALT aQ 17.4.1 0") | (exact hpr.adr (by omega); trace "ALT aQ 17.4.1 1")) (by omega); trace "ALT aQ 17.4.3 0") | (exact bK dS dK G G (by first | (exact hca.adr (by omega); trace "ALT aQ 17.4.1 0") | (exact hpr.adr (by omega); trace "ALT aQ 17.4.1 1")) (by omega) (by omega); trace "ALT aQ 17.4.3 1")) ?_;clear H a;intro a H
             exact sF H <| sy hg2 <| sK fun a H=>by
                 refine dP H rfl ((by first | (exact bE jH rfl; trace "ALT aQ 17.5.1 0") | (exact aC jH rfl; trace "ALT aQ 17.5.1 1"))) ?_;clear H a;intro a H
                 exact sF H <| sy hg2 <| sK fun a H=>by
                     refine dP H rfl (aG aD rfl (by first | (exact hca.rd S (by omega) (by omega); trace "ALT aQ 17.6.1 0") | (exact hpr.rd S (by omega) (by omega); trace "ALT aQ 17.6.1 1"))) ?_;clear H a;intro a H
                     exact sF H <| sy hg2 <| sr 1 rfl<|sy hg2<|sr 1 rfl<|sy hg2<|sK fun a H=>by
                         refine dP H rfl (by first | (exact aZ eX eU G G (by first | (exact hca.adr (by omega); trace "ALT aQ 17.9.1 0") | (exact hpr.adr (by omega); trace "ALT aQ 17.9.1 1")) (by omega); trace "ALT aQ 17.9.3 0") | (exact bK eX eU G G (by first | (exact hca.adr (by omega); trace "ALT aQ 17.9.1 0") | (exact hpr.adr (by omega); trace "ALT aQ 17.9.1 1")) (by omega) (by omega); trace "ALT aQ 17.9.3 1")) ?_;clear H a;intro a H
                         exact sF H<|sy hg2<|sK fun a H=>by
                             refine dP H rfl ((by first | (exact bE jS rfl; trace "ALT aQ 17.10.1 0") | (exact aC jS rfl; trace "ALT aQ 17.10.1 1"))) ?_;clear H a;intro a H
                             exact sF H<|sy hg2<|sK fun a H=>by
                                 refine dP H rfl (aG aD rfl (by first | (exact hca.rd S (by omega) (by omega); trace "ALT aQ 17.11.1 0") | (exact hpr.rd S (by omega) (by omega); trace "ALT aQ 17.11.1 1"))) ?_;clear H a;intro a H
                                 exact sF H<|sy hg2<|sr 1 rfl<|sy hg2<|sr 1 rfl<|sy hg2<|sK fun a H=>by
                                     refine dP H rfl (by first | (exact aZ eX eU G G (by first | (exact hca.adr (by omega); trace "ALT aQ 17.14.1 0") | (exact hpr.adr (by omega); trace "ALT aQ 17.14.1 1")) (by omega); trace "ALT aQ 17.14.3 0") | (exact bK eX eU G G (by first | (exact hca.adr (by omega); trace "ALT aQ 17.14.1 0") | (exact hpr.adr (by omega); trace "ALT aQ 17.14.1 1")) (by omega) (by omega); trace "ALT aQ 17.14.3 1")) ?_;clear H a;intro a H
                                     exact sF H<|sy hg2<|sK fun a H=>by
                                         refine dP H rfl ((by first | (exact bE jT rfl; trace "ALT aQ 17.15.1 0") | (exact aC jT rfl; trace "ALT aQ 17.15.1 1"))) ?_;clear H a;intro a H
                                         exact sF H<|sy hg2<|sK fun a H=>by
                                             refine dP H rfl (aG aD rfl (by first | (exact hca.rd S (by omega) (by omega); trace "ALT aQ 17.16.1 0") | (exact hpr.rd S (by omega) (by omega); trace "ALT aQ 17.16.1 1"))) ?_;clear H a;intro a H
                                             exact sF H<|sy hg2<|sc rfl Tryz.func50 G G (mN _ _ _ _)<|sz 16 G G G)<|sK ?_;clear H a;intro a H
   refine dP H rfl ((by first | (exact aX G G G; trace "ALT aQ 17.18.1 0") | (exact aT G G G; trace "ALT aQ 17.18.1 1"))) ?_;clear H a;intro a H
   refine sF H<|sr 1 rfl<|sE ?_;clear H a;intro a H
   refine k29 _ _ ?_
   replace H:=H.keep [0,1,6,7,8] rfl
   refine sO H<|sr 1 rfl<|sd (aK G G (by unfold i64ok;omega))<|sr 1 rfl<|sE ?_;clear H a;intro a H
   exact k26 (g3-1) (k+1,_) a _ (by omega) (⟨⟨by omega,by omega⟩,by rw [smN,←hmb];rfl⟩) (S.sel [] G G) (H.keep [7,8,0,1,6] rfl)
  refine wp_exit ?_
  refine k24 _ _ ?_
  have hmb9:mb=smN (fun k=>inB (ca.getD k Cr.zero) (pr.getD z Pr.zero)) ca.length:=by rw [hmb,show k=ca.length by omega]
  refine sS H fun K32 k32=>sr 2 rfl<|sE ?_;clear H a;intro a H
  refine k32 _ ?_;clear k32 K32
  refine cond_ H rfl (fun hc7=>?_) (fun hc7=>?_)
  ·skip
   try simp only [o1,o2,o3,o4,o5,o6,o7,o8,o9,oa] at hc7
   refine sS H fun K33 k33=>sr 1 rfl<|sE ?_;clear H a;intro a H
   refine k33 _ ?_;clear k33 K33
   refine wp_ret ?_
   refine ret1 (fn:=Tryz.f17) rfl H rfl ?_
   rw [yS hl1 hc9 htm (mD.2 ⟨z,by omega,by show (!smN _ _)=true;rw [←hmb9];simpa using hc7⟩)];exact ⟨rfl,(S.sel [] G G)⟩
  try simp only [o1,o2,o3,o4,o5,o6,o7,o8,o9,oa] at hc7
  refine wp_skip ?_
  refine k22 _ _ ?_
  refine sO H<|sr 1 rfl<|sd (aK G G (by unfold i64ok;omega))<|sr 1 rfl<|sE ?_;clear H a;intro a H
  exact k19 (g2-1) (z+1) a _ (by omega) (⟨⟨by omega,by omega⟩,fun q hq=>by
    by_cases e:q=z
    · subst e;show (!smN _ _)=false;rw [←hmb9];simpa using hc7
    · exact hal q (by omega)⟩) (S.sel [] G G) (H.keep [6,0,1] rfl)
 refine wp_exit ?_
 refine k17 _ _ ?_
 replace H:=H.keep [] rfl
 refine sS H fun K35 k35=>sr 1 rfl<|sE ?_;clear H a;intro a H
 refine k35 _ ?_;clear k35 K35
 refine wp_ret ?_
 refine ret1 (fn:=Tryz.f17) rfl H rfl ?_
 rw [Jl hl1 hc9 htm (nA.2 fun q hq=>hal q (by omega))];exact ⟨rfl,(S.sel [] G G)⟩
end
section
open Go.ChangeMaps (setBlock)
def iv (n:Int):Value := .int .i64 n
theorem xJ {a b:Int} (h:iv a=iv b):a=b:=by unfold iv at h;injection h
theorem tT {P:Program} {kt:TypeId} (h:P.underlying kt=some (.int .i64)):KeyOk P kt iv:=hO h
theorem qD {α β:Type} {f:α→β}:∀ {l:List α},(l.map f).Nodup→∀ {a b},a ∈ l→b ∈ l→f a=f b→a=b
  | x::l,hn,a,b,ha,hb,e=>by
    rw [List.map_cons,List.nodup_cons] at hn
    rcases List.mem_cons.1 ha with h1|h1 <;> rcases List.mem_cons.1 hb with h2|h2
    · rw [h1,h2]
    · exact absurd (List.mem_map.2 ⟨b,h2,by rw [←e,h1]⟩) hn.1
    · exact absurd (List.mem_map.2 ⟨a,h1,by rw [e,h2]⟩) hn.1
    · exact qD hn.2 h1 h2 e
section
variable {l:List (Int×Value)} {k k':Int} {v v0:Value} {j:Nat}
theorem vJ (h:getL l k=some v):(k,v) ∈ l:=by
  unfold getL at h
  cases hf:findL k l 0 with
  | none=>rw [hf] at h;cases h
  | some q=>
    obtain ⟨j,u⟩:=q
    rw [hf] at h
    injection h with h
    subst h
    exact List.mem_of_getElem? (nZ hf)
theorem pB:∀ {l:List (Int×Value)},(l.map Prod.fst).Nodup→(k,v) ∈ l→getL l k=some v:=by
  intro l
  induction l with
  | nil=>intro _ h;cases h
  | cons p l ih=>
    intro hn h
    rw [fA]
    rw [List.map_cons,List.nodup_cons] at hn
    rcases List.mem_cons.1 h with e|h
    · subst e;rw [if_pos rfl]
    · rw [if_neg (fun e=>hn.1 (List.mem_map.2 ⟨(k,v),h,e⟩))];exact ih hn.2 h
theorem Ch:∀ {l:List (Int×Value)} {j:Nat},(l.map Prod.fst).Nodup→findL k l 0=some (j,v0)→∀ k',getL (l.eraseIdx j) k'=if k'=k then none else getL l k':=by
  intro l
  induction l with
  | nil=>intro j _ h;cases h
  | cons p l ih=>
    intro j hn h k'
    rw [List.map_cons,List.nodup_cons] at hn
    simp only [findL] at h
    by_cases hk:k=p.1
    · rw [if_pos hk] at h
      injection h with h
      injection h with h _
      subst h
      rw [List.eraseIdx_cons_zero,fA]
      by_cases e:k'=k
      · rw [if_pos e]
        cases hh:getL l k' with
        | none=>rfl
        | some v=>exact absurd (List.mem_map.2 ⟨(k',v),vJ hh,by rw [e];exact hk⟩) hn.1
      · rw [if_neg e,if_neg (fun h9=>e (h9.trans hk.symm))]
    · rw [if_neg hk,jP] at h
      cases hf:findL k l 0 with
      | none=>rw [hf] at h;cases h
      | some q=>
        obtain ⟨i,u⟩:=q
        rw [hf] at h
        injection h with h
        injection h with h h2
        simp only at h
        obtain rfl:j=i+1:=by omega
        have h3:u=v0:=h2
        subst h3
        rw [List.eraseIdx_cons_succ,fA,fA,ih hn.2 hf]
        by_cases e:k'=p.1
        · rw [if_pos e,if_pos e,if_neg (fun h9=>hk (by rw [←h9,e]))]
        · rw [if_neg e,if_neg e]
theorem Ci (f:Int×Value→Int×Value) (hf:∀ p,(f p).1=p.1):∀ (l:List (Int×Value)) (i:Nat),(l.modify i f).map Prod.fst=l.map Prod.fst:=by
  intro l
  induction l with
  | nil=>intro i;simp
  | cons e l ih=>
    intro i
    cases i with
    | zero=>simp [hf]
    | succ i=>simp [List.modify_succ_cons,ih]
theorem Ab (hn:(l.map Prod.fst).Nodup):((setL l k v).map Prod.fst).Nodup:=by
  cases hf:findL k l 0 with
  | none=>
    rw [tH hf,List.map_append,List.nodup_append]
    refine ⟨hn,by simp,fun p hp q hq e=>?_⟩
    obtain ⟨x,hx,rfl⟩:=List.mem_map.1 hp
    simp only [List.map_cons,List.map_nil,List.mem_singleton] at hq
    have h1:=pB (k:=x.1) (v:=x.2) hn hx
    rw [e,hq,vD hf] at h1
    cases h1
  | some q=>
    obtain ⟨j,u⟩:=q
    rw [tI hf,Ci (fun p=>(p.1,v)) (fun _=>rfl)]
    exact hn
theorem vK {α β:Type} (f:α→β):∀ (l:List α) (i:Nat),(l.eraseIdx i).map f=(l.map f).eraseIdx i:=by
  intro l
  induction l with
  | nil=>intro i;simp
  | cons e l ih=>
    intro i
    cases i with
    | zero=>simp
    | succ i=>simp [ih]
end
def mapU (b:Nat) (h:Int→Option Value):Mem where
  fp:=fun k=>k=b
  holds:=fun w=>∃ (es:Array MapEntry) (ck:Nat) (l:List (Int×Value)),w.heap[b]?=some (.map es ck)∧es.toList.map (fun e=>(e.key,e.val))=l.map (fun p=>(iv p.1,p.2))∧(∀ x ∈ es.toList,x.born<ck)∧(es.toList.map MapEntry.born).Nodup∧(l.map Prod.fst).Nodup∧∀ k,getL l k=h k
  stable:=fun _ _ h ⟨es,ck,l,h1,h2⟩=>⟨es,ck,l,(h b rfl).trans h1,h2⟩
def mapIt (b r:Nat) (cur:Option Int) (h:Int→Option Value) (s:Int→Prop):Mem where
  fp:=fun k=>k=b∨k=r
  holds:=fun w=>b≠r∧∃ (es:Array MapEntry) (ck:Nat) (l:List (Int×Value)) (since c0:Nat) (seen:Array Nat),w.heap[b]?=some (.map es ck)∧w.heap[r]?=some (.mapIter (some b) since seen c0)∧es.toList.map (fun e=>(e.key,e.val))=l.map (fun p=>(iv p.1,p.2))∧(∀ x ∈ es.toList,x.born<since)∧(since≤c0∧since≤ck)∧(es.toList.map MapEntry.born).Nodup∧(l.map Prod.fst).Nodup∧(∀ k,getL l k=h k)∧(∀ k,cur=some k→c0=ck∧∃ e ∈ es.toList,e.key=iv k∧∃ s0:Array Nat,seen=s0.push e.born)∧∀ e ∈ es.toList,∀ k,e.key=iv k→(seen.contains e.born=true↔s k)
  stable:=fun _ _ h ⟨h0,es,ck,l,si,c0,se,h1,h2,h3⟩=>⟨h0,es,ck,l,si,c0,se,(h b (.inl rfl)).trans h1,(h r (.inr rfl)).trans h2,h3⟩
section
variable {P:Program} {ops:Array Oper} {w w0:World} {F0:Nat→Prop} {R:List Mem} {Q:Exit→Act→World→Prop} {rest:List Oper} {N:FN} {L:List (Nat×Value)} {a:Act} {ty:TypeId} {pos:String} {af:Array Edge}
variable {h h':Int→Option Value} {s:Int→Prop} {b r i:Nat} {cur:Option Int}
theorem St.mapUK (S:St w0 F0 R w) (hi:R[i]?=some (mapU b h)):St w0 F0 (R.set i (mapK iv b (fun g=>∀ k,g k=h k))) w:=
  S.imp hi (fun ⟨es,ck,l,h1,h2,h3,h4,_,h6⟩=>⟨es,ck,l,h1,h2,h3,h4,h6⟩) (fun _ h=>h)
theorem St.mapUeq (S:St w0 F0 R w) (hi:R[i]?=some (mapU b h)) (hh:∀ k,h k=h' k):St w0 F0 (R.set i (mapU b h')) w:=
  S.imp hi (fun ⟨es,ck,l,h1,h2,h3,h4,h5,h6⟩=>⟨es,ck,l,h1,h2,h3,h4,h5,fun k=>(h6 k).trans (hh k)⟩) (fun _ h=>h)
theorem St.mapEnd (S:St w0 F0 R w) (hi:R[i]?=some (mapIt b r cur h s)):St w0 F0 (R.set i (mapU b h)) w:=
  S.imp hi (fun ⟨_,es,ck,l,si,c0,se,h1,_,h3,h4,h5,h6,h7,h8,_⟩=>⟨es,ck,l,h1,h3,fun x hx=>Nat.lt_of_lt_of_le (h4 x hx) h5.2,h6,h7,h8⟩) (fun _ h => .inl h)
theorem St.mapIteq {h':Int→Option Value} {s':Int→Prop} (S:St w0 F0 R w) (hi:R[i]?=some (mapIt b r cur h s)) (hh:∀ k,h k=h' k) (hs:∀ k,(h k).isSome=true→(s k↔s' k)):St w0 F0 (R.set i (mapIt b r none h' s')) w:=by
  refine S.imp hi ?_ (fun _ h=>h)
  rintro ⟨h0,es,ck,l,si,c0,se,h1,h2,h3,h4,h5,h6,h7,h8,h9,h10⟩
  refine ⟨h0,es,ck,l,si,c0,se,h1,h2,h3,h4,h5,h6,h7,fun k=>(h8 k).trans (hh k),(fun _ h=>by cases h),fun e he k hk=>(h10 e he k hk).trans (hs k ?_)⟩
  have hm:(e.key,e.val) ∈ l.map (fun p=>(iv p.1,p.2)):=h3 ▸ List.mem_map.2 ⟨e,he,rfl⟩
  obtain ⟨p,hp,hpe⟩:=List.mem_map.1 hm
  injection hpe with hp1 hp2
  have hpk:p.1=k:=xJ (hp1.trans hk)
  have:=pB (k:=p.1) (v:=p.2) h7 hp
  rw [hpk,h8 k] at this
  rw [this];rfl
theorem uO {d t:Nat} (H:Fr N L a) (hd:Nat.blt d N.n=true) (S:St w0 F0 R w)
    (k:∀ b w' a',w0.heap.size≤b→St w0 F0 (mapU b (fun _=>none)::R) w'→Fr N ((d,.map (some b))::L) a'→wpList P ops Q rest a' w') :
    wpList P ops Q (⟨some d,.makeMap t none,ty,pos,af,none⟩::rest) a w:=by
  refine wpList_plain rfl fun K hK=>?_
  unfold Oper.wp
  have e:(execOp a.eval ⟨some d,.makeMap t none,ty,pos,af,none⟩).run P w = .ok (.value (.map (some w.heap.size))) (w.alloc (.map #[] 0)):=by
    simp [execOp,Instr.makeMap,newObj,Sem.run]
  rw [e]
  refine hK _ _ (k w.heap.size _ _ S.size (S.new (Keeps.alloc w _ _) ⟨#[],0,[],heap_alloc_new w _,rfl,fun x hx=>by simp at hx,by simp,by simp,fun _=>rfl⟩ ?_) (H.put _ hd))
  intro q hq
  rw [show q=w.heap.size from hq]
  simp
theorem xK {x y:Operand} {t kt et:Nat} {d:Option Nat} {g:Option (Nat×Bool)} {z v:Value} {k:Int} (S:St w0 F0 R w) (hi:R[i]?=some (mapU b h)) (ht:MapT P t kt et) (hk:KeyOk P kt iv) (hz:ZeroV P et z) (hx:ev L x=some (.map (some b))) (hy:ev L y=some (iv k)) (hv:(h k).getD z=v) :
    Does P L ⟨d,.lookup t x y false,ty,pos,af,g⟩ w v:=by
  have hil:i<R.length:=(List.getElem?_eq_some_iff.1 hi).1
  exact oV (S.mapUK hi) (i:=i) (by rw [List.getElem?_set_self hil]) ht hk hz hx hy (fun g hg=>by rw [hg k];exact hv)
theorem qX {x y u:Operand} {t kt et:Nat} {k:Int} {v:Value} (H:Fr N L a) (S:St w0 F0 R w) (hi:R[i]?=some (mapU b h)) (ht:MapT P t kt et) (hk:KeyOk P kt iv) (hx:ev L x=some (.map (some b))) (hy:ev L y=some (iv k)) (hu:ev L u=some v)
    (kk:∀ w' a',St w0 F0 (R.set i (mapU b (fun k'=>if k'=k then some v else h k'))) w'→Fr N L a'→wpList P ops Q rest a' w') :
    wpList P ops Q (⟨none,.mapUpdate t x y u,ty,pos,af,none⟩::rest) a w:=by
  refine wpList_plain rfl fun K hK=>?_
  obtain ⟨es,ck,l,hb,he,hlt,hnd,hkn,hh⟩:=S.holds hi
  have hf:=hk.find l k es.toList w he
  have hg:(getObj b).run P w = .ok (.map es ck) w:=by simp [getObj,Sem.run,hb]
  have hs:∀ o,(setObj b o).run P w = .ok () (w.putObj b o):=fun o=>by simp [setObj,Sem.run,hb,World.putObj]
  have hkeeps:∀ o,Keeps w (w.putObj b o) (fun k=>k=b):=fun o=>⟨rfl,rfl,rfl,by simp [World.putObj],fun q _ hq=>World.putObj_heap_other (fun e=>hq e)⟩
  have hh2:∀ k',getL (setL l k v) k'=if k'=k then some v else h k':=fun k'=>by rw [vC];dsimp only;rw [hh k']
  unfold MapT at ht
  unfold Oper.wp
  cases hfl:findL k l 0 with
  | none=>
    rw [hfl] at hf
    have e1:(execOp a.eval ⟨none,.mapUpdate t x y u,ty,pos,af,none⟩).run P w = .ok .skip (w.putObj b (.map (es.push { key:=iv k,val:=v,born:=ck }) (ck+1))):=by
      simp [execOp,H.eval hx,H.eval hy,H.eval hu,Instr.mapUpdate,bT ht,hg,hk.check,hf,hs]
    rw [e1]
    have hb2:=zO (e:={ key:=iv k,val:=v,born:=ck }) rfl hlt hnd
    refine hK _ _ (kk _ _ (S.updSame hi (hkeeps _) ⟨_,_,setL l k v,World.putObj_heap_same (cA hb),?_,?_,?_,Ab hkn,hh2⟩ (fun _ h=>h)) (H.put_none _))
    · rw [tH hfl];simp [he]
    · rw [Array.toList_push];exact hb2.1
    · rw [Array.toList_push];exact hb2.2
  | some q=>
    obtain ⟨j,v0⟩:=q
    rw [hfl] at hf
    have hat:=nZ hfl
    obtain ⟨e0,h1,h2,h3⟩:=Lg he hat
    have hej:(es[j]?).map (·.key)=some (iv k):=by rw [←Array.getElem?_toList,h1,←h2];rfl
    have hst:(Instr.keyThatStays (iv k) (iv k)).run P w = .ok (iv k) w:=by simp [Instr.keyThatStays,hk.bits k]
    have e1:(execOp a.eval ⟨none,.mapUpdate t x y u,ty,pos,af,none⟩).run P w = .ok .skip (w.putObj b (.map (es.modify j fun e=>{ e with key:=iv k,val:=v }) ck)):=by
      simp [execOp,H.eval hx,H.eval hy,H.eval hu,Instr.mapUpdate,bT ht,hg,hk.check,hf,hs,hej,hst]
    rw [e1]
    have hbm:=qQ (fun e=>{ e with key:=iv k,val:=v }) (fun _=>rfl) es.toList j
    refine hK _ _ (kk _ _ (S.updSame hi (hkeeps _) ⟨_,_,setL l k v,World.putObj_heap_same (cA hb),?_,?_,?_,Ab hkn,hh2⟩ (fun _ h=>h)) (H.put_none _))
    · rw [tI hfl,Array.toList_modify]
      refine nB _ _ _ _ es.toList l j he fun e p g1 g2 g3=>?_
      rw [hat] at g3
      injection g3 with g3
      subst g3
      rfl
    · rw [Array.toList_modify];exact Eh hbm hlt
    · rw [Array.toList_modify,hbm];exact hnd
theorem Cj {d t kt et:Nat} {x:Operand} (H:Fr N L a) (hd:Nat.blt d N.n=true) (S:St w0 F0 R w) (hi:R[i]?=some (mapU b h)) (ht:MapT P t kt et) (hx:ev L x=some (.map (some b)))
    (k:∀ r w' a',w0.heap.size≤r→St w0 F0 (R.set i (mapIt b r none h (fun _=>False))) w'→Fr N ((d,.pointer (some ⟨r,0,none⟩))::L) a'→wpList P ops Q rest a' w') :
    wpList P ops Q (⟨some d,.range t x,ty,pos,af,none⟩::rest) a w:=by
  refine wpList_plain rfl fun K hK=>?_
  obtain ⟨es,ck,l,hb,he,hlt,hnd,hkn,hh⟩:=S.holds hi
  have e:=run_range_map (P:=P) w t kt et b es ck ht hb
  unfold Oper.wp
  have e1:(execOp a.eval ⟨some d,.range t x,ty,pos,af,none⟩).run P w = .ok (.value (.pointer (some ⟨w.heap.size,0,none⟩))) (w.alloc (.mapIter (some b) ck #[] ck)):=by
    simp [execOp,H.eval hx,e]
  rw [e1]
  have hbl:=cA hb
  refine hK _ _ (k w.heap.size _ _ S.size (S.upd hi (Keeps.alloc w _ _) ⟨by omega,es,ck,l,ck,ck,#[],?_,heap_alloc_new w _,he,hlt,⟨Nat.le_refl _,Nat.le_refl _⟩,hnd,hkn,hh,(fun _ h=>by cases h),(fun e _ k _=>by simp)⟩ ?_) (H.put _ hd))
  · rw [heap_alloc_old w _ hbl];exact hb
  · rintro q (rfl|rfl)
    · exact .inl rfl
    · exact .inr ⟨Nat.le_refl _,by simp⟩
theorem Ep {es:List MapEntry} {l:List (Int×Value)} (he:es.map (fun e=>(e.key,e.val))=l.map (fun p=>(iv p.1,p.2))) {e:MapEntry} (hm:e ∈ es):∃ k,e.key=iv k∧(k,e.val) ∈ l:=by
  have hm:(e.key,e.val) ∈ l.map (fun p=>(iv p.1,p.2)):=he ▸ List.mem_map.2 ⟨e,hm,rfl⟩
  obtain ⟨p,hp,hpe⟩:=List.mem_map.1 hm
  injection hpe with hp1 hp2
  refine ⟨p.1,hp1.symm,?_⟩
  rw [←hp2];exact hp
theorem Qp {es:List MapEntry} {l:List (Int×Value)} (he:es.map (fun e=>(e.key,e.val))=l.map (fun p=>(iv p.1,p.2))) (hn:(l.map Prod.fst).Nodup) {e e':MapEntry} (hm:e ∈ es) (hm':e' ∈ es) (hk:e.key=e'.key):e=e':=by
  have h1:(es.map MapEntry.key)=l.map (fun p=>iv p.1):=by
    have:=congrArg (List.map Prod.fst) he
    rw [List.map_map,List.map_map] at this
    exact this
  have h2:(es.map MapEntry.key).Nodup:=by
    rw [h1,show (fun p:Int×Value=>iv p.1)=iv ∘ Prod.fst from rfl,←List.map_map]
    rw [List.nodup_iff_pairwise_ne,List.pairwise_map]
    exact (List.nodup_iff_pairwise_ne.1 hn).imp (fun hab h=>hab (xJ h))
  exact qD h2 hm hm' hk
theorem vL {d:Nat} {x:Operand} (H:Fr N L a) (hd:Nat.blt d N.n=true) (S:St w0 F0 R w) (hi:R[i]?=some (mapIt b r cur h s)) (hx:ev L x=some (.pointer (some ⟨r,0,none⟩)))
    (k0:∀ w' a',(∀ k,(h k).isSome=true→s k)→St w0 F0 (R.set i (mapIt b r none h s)) w'→Fr N ((d,.tuple #[.bool false])::L) a'→wpList P ops Q rest a' w')
    (k1:∀ w' a' k v,h k=some v→¬ s k→St w0 F0 (R.set i (mapIt b r (some k) h (fun k'=>s k'∨k'=k))) w'→Fr N ((d,.tuple #[.bool true,iv k,v])::L) a'→wpList P ops Q rest a' w') :
    wpList P ops Q (⟨some d,.next x false,ty,pos,af,none⟩::rest) a w:=by
  refine wpList_plain rfl fun K hK=>?_
  obtain ⟨h0,es,ck,l,si,c0,se,hb,hr,he,hlt,hsc,hnd,hkn,hh,hcur,hsn⟩:=S.holds hi
  unfold Oper.wp
  rcases run_next_at (P:=P) w ty r b si c0 se es ck hr hb hlt hsc.1 with ⟨hz,e⟩|⟨en,hen,w1,hw1,e⟩
  · have e1:(execOp a.eval ⟨some d,.next x false,ty,pos,af,none⟩).run P w = .ok (.value (.tuple #[.bool false])) w:=by simp [execOp,H.eval hx,e]
    rw [e1]
    refine hK _ _ (k0 _ _ (fun k hk=>?_) (S.imp hi (fun _=>⟨h0,es,ck,l,si,c0,se,hb,hr,he,hlt,hsc,hnd,hkn,hh,(fun _ h=>by cases h),hsn⟩) (fun _ h=>h)) (H.put _ hd))
    obtain ⟨v,hv⟩:=Option.isSome_iff_exists.1 hk
    have hm:(k,v) ∈ l:=vJ (by rw [hh k];exact hv)
    have hm2:(iv k,v) ∈ es.toList.map (fun e=>(e.key,e.val)):=he ▸ List.mem_map.2 ⟨(k,v),hm,rfl⟩
    obtain ⟨en,hen,hee⟩:=List.mem_map.1 hm2
    injection hee with hk1 hk2
    refine (hsn en hen k hk1).1 ?_
    refine Classical.byContradiction fun hc=>?_
    have:en ∈ leftOf es se:=by
      unfold leftOf
      rw [Array.mem_filter]
      exact ⟨Array.mem_toList_iff.1 hen,by simpa using hc⟩
    rw [Array.eq_empty_of_size_eq_zero hz] at this
    simp at this
  · have e1:(execOp a.eval ⟨some d,.next x false,ty,pos,af,none⟩).run P w = .ok (.value (.tuple #[.bool true,en.key,en.val])) (setBlock w1 r (.mapIter (some b) si (se.push en.born) ck)):=by simp [execOp,H.eval hx,e]
    rw [e1]
    have hmem:en ∈ es.toList∧¬ se.contains en.born=true:=by
      unfold leftOf at hen
      rw [Array.mem_toList_iff,Array.mem_filter] at hen
      exact ⟨Array.mem_toList_iff.2 hen.1,by simpa using hen.2⟩
    obtain ⟨k,hkey,hkl⟩:=Ep he hmem.1
    rw [hkey]
    have hb1:w1.heap[b]?=some (.map es ck):=by rcases hw1 with rfl|rfl <;> exact hb
    have hr1:w1.heap[r]?=some (.mapIter (some b) si se c0):=by rcases hw1 with rfl|rfl <;> exact hr
    have hkeeps:∀ o,Keeps w (setBlock w1 r o) (fun k=>k=b∨k=r):=fun o=>by
      rcases hw1 with rfl|rfl <;> exact ⟨rfl,rfl,rfl,by simp [setBlock],fun q _ hq=>by simp only [setBlock];rw [Array.getElem?_setIfInBounds_ne (fun e=>hq (.inr e.symm))];try rfl⟩
    have hrl:=cA hr1
    refine hK _ _ (k1 _ _ k en.val (by rw [←hh k];exact pB hkn hkl) (fun hs=>hmem.2 ((hsn en hmem.1 k hkey).2 hs)) (S.updSame hi (hkeeps _) ⟨h0,es,ck,l,si,ck,se.push en.born,?_,?_,he,hlt,⟨hsc.2,hsc.2⟩,hnd,hkn,hh,?_,?_⟩ (fun _ h=>h)) (H.put _ hd))
    · simp only [setBlock];rw [Array.getElem?_setIfInBounds_ne (fun e=>h0 e.symm)];exact hb1
    · simp only [setBlock];rw [Array.getElem?_setIfInBounds_self_of_lt hrl]
    · intro k' hk'
      injection hk' with hk'
      subst hk'
      exact ⟨rfl,en,hmem.1,hkey,se,rfl⟩
    · intro e' he' k' hk'
      have hc:(se.push en.born).contains e'.born=true↔se.contains e'.born=true∨e'.born=en.born:=by
        simp only [Array.contains_iff_mem,Array.mem_push]
      rw [hc,hsn e' he' k' hk']
      constructor
      · rintro (h9|h9)
        · exact .inl h9
        · right
          have:e'=en:=qD hnd he' hmem.1 h9
          subst this
          exact xJ (hk'.symm.trans hkey)
      · rintro (h9|rfl)
        · exact .inl h9
        · right
          have:e'=en:=Qp he hkn he' hmem.1 (hk'.trans hkey.symm)
          rw [this]
theorem Ck {d:Nat} {x:Operand} (H:Fr N L a) (hd:Nat.blt d N.n=true) (S:St w0 F0 R w) (hi:R[i]?=some (mapIt b r cur h s)) (hx:ev L x=some (.pointer (some ⟨r,0,none⟩))) (hs:∀ k,(h k).isSome=true→s k)
    (k0:∀ w' a',St w0 F0 (R.set i (mapIt b r none h s)) w'→Fr N ((d,.tuple #[.bool false])::L) a'→wpList P ops Q rest a' w') :
    wpList P ops Q (⟨some d,.next x false,ty,pos,af,none⟩::rest) a w:=
  vL H hd S hi hx (fun w' a' _=>k0 w' a') (fun w' a' k v hv hn=>absurd (hs k (by rw [hv];rfl)) hn)
theorem Cl {d:Nat} {x:Operand} (H:Fr N L a) (hd:Nat.blt d N.n=true) (S:St w0 F0 R w) (hi:R[i]?=some (mapIt b r cur h s)) (hx:ev L x=some (.pointer (some ⟨r,0,none⟩))) (hs:¬ ∀ k,(h k).isSome=true→s k)
    (k1:∀ w' a' k v,h k=some v→¬ s k→St w0 F0 (R.set i (mapIt b r (some k) h (fun k'=>s k'∨k'=k))) w'→Fr N ((d,.tuple #[.bool true,iv k,v])::L) a'→wpList P ops Q rest a' w') :
    wpList P ops Q (⟨some d,.next x false,ty,pos,af,none⟩::rest) a w:=
  vL H hd S hi hx (fun w' a' h9=>absurd h9 hs) k1
theorem Cm {d:Option Nat} {g:Option (Nat×Bool)} {x:Operand} {k:Int} {v:Value} (S:St w0 F0 R w) (hi:R[i]?=some (mapIt b r (some k) h s)) (hx:ev L x=some (.pointer (some ⟨r,0,none⟩))) (hv:h k=some v) :
    Does P L ⟨d,.entry x,ty,pos,af,g⟩ w (.tuple #[iv k,v]):=fun ρ hρ=>by
  obtain ⟨h0,es,ck,l,si,c0,se,hb,hr,he,hlt,hsc,hnd,hkn,hh,hcur,hsn⟩:=S.holds hi
  obtain ⟨rfl,en,hen,hkey,s0,rfl⟩:=hcur k rfl
  have e:=run_entry_at (P:=P) w r b si s0 es c0 en hr hb hen hnd
  obtain ⟨k',hk',hkl⟩:=Ep he hen
  have:k'=k:=xJ (hk'.symm.trans hkey)
  subst this
  have h2:=pB hkn hkl
  rw [hh,hv] at h2
  injection h2 with h2
  simp [execOp,hρ _ _ hx,e,hkey,h2]
theorem Ac {x y:Operand} {t kt et:Nat} {d:Option Nat} {k:Int} {v:Value} (H:Fr N L a) (S:St w0 F0 R w) (hi:R[i]?=some (mapIt b r cur h s)) (ht:MapT P t kt et) (hk:KeyOk P kt iv) (hx:ev L x=some (.map (some b))) (hy:ev L y=some (iv k)) (hv:h k=some v)
    (kk:∀ w' a',St w0 F0 (R.set i (mapIt b r none (fun k'=>if k'=k then none else h k') s)) w'→Fr N (match d with|some d=>(d,.tuple #[])::L|none=>L) a'→wpList P ops Q rest a' w') (hd:∀ d',d=some d'→Nat.blt d' N.n=true) :
    wpList P ops Q (⟨d,.call ⟨.builtin .delete,#[x,y],#[t,kt]⟩,ty,pos,af,none⟩::rest) a w:=by
  refine wpList_plain rfl fun K hK=>?_
  obtain ⟨h0,es,ck,l,si,c0,se,hb,hr,he,hlt,hsc,hnd,hkn,hh,hcur,hsn⟩:=S.holds hi
  have hf:=hk.find l k es.toList w he
  have hg:(getObj b).run P w = .ok (.map es ck) w:=by simp [getObj,Sem.run,hb]
  have hs:∀ o,(setObj b o).run P w = .ok () (w.putObj b o):=fun o=>by simp [setObj,Sem.run,hb,World.putObj]
  have hkeeps:∀ o,Keeps w (w.putObj b o) (fun k=>k=b∨k=r):=fun o=>⟨rfl,rfl,rfl,by simp [World.putObj],fun q _ hq=>World.putObj_heap_other (fun e=>hq (.inl e))⟩
  unfold MapT at ht
  unfold Oper.wp
  have hl:getL l k=some v:=(hh k).trans hv
  cases hfl:findL k l 0 with
  | none=>rw [vD hfl] at hl;cases hl
  | some q=>
    obtain ⟨j,v0⟩:=q
    rw [hfl] at hf
    have e1:(execOp a.eval ⟨d,.call ⟨.builtin .delete,#[x,y],#[t,kt]⟩,ty,pos,af,none⟩).run P w = .ok (.value (.tuple #[])) (w.putObj b (.map (es.eraseIdxIfInBounds j) ck)):=by
      simp [execOp,resolve,invoke,builtin,Builtin.delete_,H.eval hx,H.eval hy,bT ht,hg,hk.check,hf,hs]
    rw [e1]
    have hel:(es.eraseIdxIfInBounds j).toList=es.toList.eraseIdx j:=by simp
    have hsub:(es.toList.eraseIdx j).Sublist es.toList:=List.eraseIdx_sublist ..
    refine hK _ _ (kk _ _ (S.updSame hi (hkeeps _) ⟨h0,_,ck,l.eraseIdx j,si,c0,se,World.putObj_heap_same (cA hb),?_,?_,?_,hsc,?_,?_,?_,(fun _ h=>by cases h),?_⟩ (fun _ h=>h)) ?_)
    · rw [World.putObj_heap_other (fun e=>h0 e.symm)];exact hr
    · rw [hel,vK,vK,he]
    · intro x hx;rw [hel] at hx;exact hlt x (hsub.subset hx)
    · rw [hel];exact (hsub.map _).nodup hnd
    · exact ((List.eraseIdx_sublist ..).map _).nodup hkn
    · intro k';rw [Ch hkn hfl];dsimp only;rw [hh k']
    · intro e' he' k' hk';rw [hel] at he';exact hsn e' (hsub.subset he') k' hk'
    · cases d with
      | none=>exact H.put_none _
      | some d'=>exact H.put _ (hd d' rfl)
theorem Hj {e sz:Nat} {D:Nat→Prop} {A:Nat→Option Addr} {n c:Nat→Nat} {cell:Nat→Nat→Nat→Value} (S:St w0 F0 R w) (hi:R[i]?=some (ragM e sz D A n c cell)) (B:Nat→Bool):St w0 F0 (R.set i (ragM e sz D (fun f=>if B f then none else A f) (fun f=>if B f then 0 else n f) (fun f=>if B f then 0 else c f) cell)) w:=by
  have hf:∀ q k,(ownM e sz (if B q then none else A q) (if B q then 0 else n q) (if B q then 0 else c q) (cell q)).fp k→B q=false∧(ownM e sz (A q) (n q) (c q) (cell q)).fp k:=fun q k hk=>by
    cases hb:B q with
    | false=>rw [hb] at hk;exact ⟨rfl,hk⟩
    | true=>
      rw [hb] at hk
      obtain ⟨_,h9,_⟩:=hk
      cases h9
  refine S.imp hi ?_ ?_
  · rintro ⟨h1,h2⟩
    refine ⟨fun q hq=>?_,fun q r hq hr hqr k hk hk'=>h2 q r hq hr hqr k (hf q k hk).2 (hf r k hk').2⟩
    show (ownM e sz (if B q then none else A q) (if B q then 0 else n q) (if B q then 0 else c q) (cell q)).holds w
    cases hb:B q with
    | false=>exact h1 q hq
    | true=>exact .inl ⟨rfl,rfl,rfl⟩
  · rintro k ⟨q,hq,hk⟩;exact ⟨q,hq,(hf q k hk).2⟩
end
end
section
structure WS where
  r:Rid
  op:Nat→Bool
  wt:Nat→Int
def flN (pr:List Pr) (q:Nat):Nat:=(pr.getD q Pr.zero).fl.toNat
def nwB (pr:List Pr) (P:Nat→Bool) (t q:Nat):Bool:=decide ((pr.getD q Pr.zero).at'=(t:Int))&&P q
def nowQ (pr:List Pr) (P:Nat→Bool) (t:Nat):Nat→List Nat
  | 0=>[]
  | q+1=>if nwB pr P t q=true then nowQ pr P t q++[flN pr q] else nowQ pr P t q
def opQ (pr:List Pr) (P:Nat→Bool) (t:Nat) (op:Nat→Bool) (q k:Nat):Bool:=op k||(decide (k<q)&&nwB pr P t k)
def stepW (c:Cr) (pr:List Pr) (P:Nat→Bool) (t:Nat) (s:WS):WS where
  r:=tickR c s.r (nowQ pr P t pr.length)
  op:=fun k=>opQ pr P t s.op pr.length k&&!bitB (tickS c s.r (nowQ pr P t pr.length)) (flN pr k)
  wt:=fun k=>if (opQ pr P t s.op pr.length k&&bitB (tickS c s.r (nowQ pr P t pr.length)) (flN pr k))=true then (t:Int)-(pr.getD k Pr.zero).at' else s.wt k
def wsN (c:Cr) (pr:List Pr) (P:Nat→Bool):Nat→WS
  | 0=>⟨xB c,fun _=>false,fun _=>0⟩
  | t+1=>stepW c pr P t (wsN c pr P t)
def waitV (c:Cr) (pr:List Pr) (P:Nat→Bool) (k:Nat):Int:=(wsN c pr P 1400).wt k
structure NxOk (pr:List Pr) (t nx:Nat):Prop where
  le:nx≤pr.length
  lo:∀ q,q<nx→(pr.getD q Pr.zero).at'<(t:Int)
  hi:∀ q,nx≤q→q<pr.length→(t:Int)≤(pr.getD q Pr.zero).at'
structure QOk (pr:List Pr) (t q:Nat):Prop where
  le:q≤pr.length
  lo:∀ k,k<q→(pr.getD k Pr.zero).at'≤(t:Int)
  hi:∀ k,q≤k→k<pr.length→(t:Int)≤(pr.getD k Pr.zero).at'
structure PrOk (pr:List Pr):Prop where
  srt:∀ j k,j≤k→k<pr.length→(pr.getD j Pr.zero).at'≤(pr.getD k Pr.zero).at'
  bd:∀ k,k<pr.length→0≤(pr.getD k Pr.zero).at'∧(pr.getD k Pr.zero).at'≤500
section
variable {c:Cr} {pr:List Pr} {P P':Nat→Bool} {t q k nx g:Nat} {op:Nat→Bool}
theorem Uf (h:∀ k,k<pr.length→prE pr k=true):PrOk pr:=by
  have h1:∀ n j,j+n<pr.length→(pr.getD j Pr.zero).at'≤(pr.getD (j+n) Pr.zero).at':=by
    intro n
    induction n with
    | zero=>intro j _;exact Int.le_refl _
    | succ n ih=>
      intro j hj
      have h2:=ih j (by omega)
      have h3:=kS.1 (h (j+n+1) (by omega))
      have h4:lastP pr (j+n+1)=(pr.getD (j+n) Pr.zero).at':=rfl
      rw [h4] at h3
      rw [←Nat.add_assoc]
      omega
  refine ⟨fun j k hjk hk=>?_,fun k hk=>?_⟩
  · have:=h1 (k-j) j (by omega)
    rw [show j+(k-j)=k by omega] at this
    exact this
  · have h2:=kS.1 (h k hk)
    have h3:=Dk (pr:=pr) (k:=k) (fun q hq=>h q (by omega))
    omega
theorem NxOk.toQ (h:NxOk pr t nx):QOk pr t nx:=⟨h.le,fun k hk=>by have:=h.lo k hk;omega,h.hi⟩
theorem QOk.next (h:QOk pr t q) (hq:q<pr.length) (he:(pr.getD q Pr.zero).at'=(t:Int)):QOk pr t (q+1):=⟨hq,fun k hk=>by
  by_cases e:k=q
  · subst e;omega
  · exact h.lo k (by omega),fun k hk=>h.hi k (by omega)⟩
theorem QOk.done (hs:PrOk pr) (h:QOk pr t q) (hq:¬ (q<pr.length∧(pr.getD q Pr.zero).at'=(t:Int))):NxOk pr (t+1) q:=⟨h.le,fun k hk=>by have:=h.lo k hk;omega,fun k hk hk2=>by
  have h1:=h.hi q (Nat.le_refl _) (by omega)
  have h2:=hs.srt q k hk hk2
  have h3:(pr.getD q Pr.zero).at'≠(t:Int):=fun h9=>hq ⟨by omega,h9⟩
  omega⟩
theorem qE (h:NxOk pr t nx):∀ q,q≤nx→nowQ pr P t q=[]:=by
  intro q
  induction q with
  | zero=>intro _;rfl
  | succ q ih=>
    intro hq
    have h1:=h.lo q (by omega)
    rw [nowQ,if_neg,ih (by omega)]
    unfold nwB
    rw [decide_eq_false (by omega)]
    simp
theorem Ma (h:NxOk pr (t+1) q):nowQ pr P t pr.length=nowQ pr P t q:=by
  have key:∀ n,q+n≤pr.length→nowQ pr P t (q+n)=nowQ pr P t q:=by
    intro n
    induction n with
    | zero=>intro _;rfl
    | succ n ih=>
      intro hn
      have h1:=h.hi (q+n) (by omega) (by omega)
      rw [←Nat.add_assoc,nowQ,if_neg,ih (by omega)]
      unfold nwB
      rw [decide_eq_false (by omega)]
      simp
  have:=key (pr.length-q) (by have:=h.le;omega)
  rw [show q+(pr.length-q)=pr.length by have:=h.le;omega] at this
  exact this
theorem Ad:∀ q,(nowQ pr P t q).length≤q:=by
  intro q
  induction q with
  | zero=>exact Nat.le_refl _
  | succ q ih=>
    rw [nowQ]
    split
    · rw [List.length_append];show _+1≤_;omega
    · omega
theorem Qq (hP:∀ q,q<pr.length→P q=true→flN pr q<6):∀ q,q≤pr.length→∀ x ∈ nowQ pr P t q,x<6:=by
  intro q
  induction q with
  | zero=>intro _ x hx;cases hx
  | succ q ih=>
    intro hq x hx
    rw [nowQ] at hx
    split at hx
    · rename_i hw
      rcases List.mem_append.1 hx with h|h
      · exact ih (by omega) x h
      · rw [List.mem_singleton] at h
        subst h
        unfold nwB at hw
        rw [Bool.and_eq_true] at hw
        exact hP q (by omega) hw.2
    · exact ih (by omega) x hx
theorem Ae (hP:∀ q,q<pr.length→P q=true→flN pr q<6):∀ k,k<(nowQ pr P t pr.length).length→(nowQ pr P t pr.length).getD k 0<6:=fun k hk=>by
  rw [List.getD_eq_getElem?_getD,List.getElem?_eq_getElem hk]
  exact Qq hP _ (Nat.le_refl _) _ (List.getElem_mem hk)
theorem Mb (h:NxOk pr t nx):opQ pr P t op nx k=op k:=by
  unfold opQ nwB
  by_cases hk:k<nx
  · have:=h.lo k hk
    rw [decide_eq_false (p:=(pr.getD k Pr.zero).at'=(t:Int)) (by omega)];simp
  · rw [decide_eq_false hk];simp
theorem Qr (h:NxOk pr (t+1) q):opQ pr P t op pr.length k=opQ pr P t op q k:=by
  unfold opQ nwB
  by_cases hk:k<q
  · have:=h.le
    rw [decide_eq_true hk,decide_eq_true (show k<pr.length by omega)]
  · rw [decide_eq_false hk]
    by_cases hk2:k<pr.length
    · have:=h.hi k (by omega) hk2
      rw [decide_eq_false (p:=(pr.getD k Pr.zero).at'=(t:Int)) (by omega)];simp
    · rw [decide_eq_false hk2]
theorem Za (h:nwB pr P t q=true):opQ pr P t op (q+1) k=(opQ pr P t op q k||decide (k=q)):=by
  unfold opQ
  by_cases e:k=q
  · subst e;rw [h,decide_eq_true (show k<k+1 by omega),decide_eq_true (p:=k=k) rfl];simp
  · rw [decide_eq_false e,show decide (k<q+1)=decide (k<q) by rw [decide_eq_decide];omega];simp
theorem Zb (h:nwB pr P t q=false):opQ pr P t op (q+1) k=opQ pr P t op q k:=by
  unfold opQ
  by_cases e:k=q
  · subst e;rw [h];simp
  · rw [show decide (k<q+1)=decide (k<q) by rw [decide_eq_decide];omega]
theorem Mc (h:∀ k,op k=true→k<pr.length) (hq:q≤pr.length) (hk:opQ pr P t op q k=true):k<pr.length:=by
  unfold opQ at hk
  rw [Bool.or_eq_true,Bool.and_eq_true,decide_eq_true_eq] at hk
  rcases hk with hk|hk
  · exact h k hk
  · omega
theorem xL (hc:crB c=true) (hP:∀ q,q<pr.length→P q=true→flN pr q<6):∀ t,ROk (wsN c pr P t).r:=by
  intro t
  induction t with
  | zero=>exact Kr hc
  | succ t ih=>exact yP hc ih (Ae hP)
theorem Vw:∀ t k,(wsN c pr P t).op k=true→k<pr.length:=by
  intro t
  induction t with
  | zero=>intro k h;cases h
  | succ t ih=>
    intro k h
    have h1:(opQ pr P t (wsN c pr P t).op pr.length k&&_)=true:=h
    rw [Bool.and_eq_true] at h1
    exact Mc ih (Nat.le_refl _) h1.1
theorem Md (f:Nat):bitB 0 f=false:=by unfold bitB;simp
theorem Hk {r:Rid} (h:r.wn=0):(tickR c r []).wn=0∧tickS c r []=0:=by
  have hw:(endR r).wn=0:=by rw [Dj];exact h
  have hb:begB (endR r)=false:=by unfold begB;rw [hw];simp
  constructor
  · show (begR c (endR r)).wn=0
    unfold begR
    rw [if_pos (.inr hw)]
    exact hw
  · unfold tickS
    rw [if_neg (by show ¬ begB (endR r)=true;rw [hb];simp)]
    rfl
theorem Me (h:∀ q,q<pr.length→(pr.getD q Pr.zero).at'<(t:Int)) (h0:(wsN c pr P t).r.wn=0):∀ n,(wsN c pr P (t+n)).r.wn=0∧(wsN c pr P (t+n)).wt=(wsN c pr P t).wt:=by
  intro n
  induction n with
  | zero=>exact ⟨h0,rfl⟩
  | succ n ih=>
    have hn:nowQ pr P (t+n) pr.length=[]:=qE (nx:=pr.length) ⟨Nat.le_refl _,fun q hq=>by have:=h q hq;omega,fun q h1 h2=>by omega⟩ _ (Nat.le_refl _)
    have ht:=Hk (c:=c) ih.1
    refine ⟨?_,?_⟩
    · show (tickR c (wsN c pr P (t+n)).r (nowQ pr P (t+n) pr.length)).wn=0
      rw [hn];exact ht.1
    · rw [←ih.2]
      funext k
      show (if (_&&bitB (tickS c (wsN c pr P (t+n)).r (nowQ pr P (t+n) pr.length)) (flN pr k))=true then _ else _)=_
      rw [hn,ht.2,Md,Bool.and_false]
      rfl
theorem Qt (h:NxOk pr t pr.length) (h0:(wsN c pr P t).r.wn=0) (ht:t≤1400):(wsN c pr P t).wt=waitV c pr P:=by
  have:=(Me (c:=c) (P:=P) h.lo h0 (1400-t)).2
  rw [show t+(1400-t)=1400 by omega] at this
  exact this.symm
theorem Mf (h:∀ q,q<pr.length→P q=false):∀ t,(∀ k,(wsN c pr P t).op k=false)∧∀ k,(wsN c pr P t).wt k=0:=by
  intro t
  induction t with
  | zero=>exact ⟨fun _=>rfl,fun _=>rfl⟩
  | succ t ih=>
    have ho:∀ k,opQ pr P t (wsN c pr P t).op pr.length k=false:=fun k=>by
      unfold opQ nwB
      rw [ih.1 k]
      by_cases hk:k<pr.length
      · rw [h k hk];simp
      · rw [decide_eq_false hk];simp
    refine ⟨fun k=>?_,fun k=>?_⟩
    · show (opQ pr P t (wsN c pr P t).op pr.length k&&_)=false
      rw [ho k];rfl
    · show (if (opQ pr P t (wsN c pr P t).op pr.length k&&_)=true then _ else _)=_
      rw [ho k]
      exact ih.2 k
theorem Qu (h:∀ q,q<pr.length→P q=P' q):∀ t,wsN c pr P t=wsN c pr P' t:=by
  have hw:∀ t q,q<pr.length→nwB pr P t q=nwB pr P' t q:=fun t q hq=>by unfold nwB;rw [h q hq]
  have hn:∀ t q,q≤pr.length→nowQ pr P t q=nowQ pr P' t q:=by
    intro t q
    induction q with
    | zero=>intro _;rfl
    | succ q ih=>intro hq;rw [nowQ,nowQ,hw t q (by omega),ih (by omega)]
  intro t
  induction t with
  | zero=>rfl
  | succ t ih=>
    have ho:∀ k,opQ pr P t (wsN c pr P' t).op pr.length k=opQ pr P' t (wsN c pr P' t).op pr.length k:=fun k=>by
      unfold opQ
      by_cases hk:k<pr.length
      · rw [hw t k hk]
      · rw [decide_eq_false hk];rfl
    show stepW c pr P t (wsN c pr P t)=stepW c pr P' t (wsN c pr P' t)
    rw [ih]
    unfold stepW
    rw [hn t _ (Nat.le_refl _)]
    simp only [ho]
theorem Mg (hc:crB c=true) (hs:PrOk pr) (hP:∀ q,q<pr.length→P q=true→flN pr q<6) (hn:NxOk pr t nx) (h1:g+t=1400) (h2:nx=pr.length→muR (wsN c pr P t).r≤g) (h3:nx<pr.length∨(wsN c pr P t).r.wn≠0):1≤g∧muR (wsN c pr P (t+1)).r≤g-1:=by
  by_cases h4:nx<pr.length
  · have h5:=hn.hi nx (Nat.le_refl _) h4
    have h6:=hs.bd nx h4
    have h7:=Jj (xL hc hP (t+1))
    omega
  · have e:nx=pr.length:=by have:=hn.le;omega
    subst e
    have h5:=Jk hc (xL hc hP t) (h3.resolve_left h4)
    have h6:nowQ pr P t pr.length=[]:=qE hn _ (Nat.le_refl _)
    have h7:=h2 rfl
    have h8:muR (wsN c pr P (t+1)).r=muR (tickR c (wsN c pr P t).r []):=by show muR (tickR c (wsN c pr P t).r (nowQ pr P t pr.length))=_;rw [h6]
    omega
end
def opH (OA:Nat→Option Addr) (oc:Nat→Nat) (OL:Nat→List Nat) (k:Int):Option Value:=if (0≤k∧k<6)∧OL k.toNat≠[] then some (.slice (OA k.toNat) (OL k.toNat).length (oc k.toNat)) else none
def RowOk (pr:List Pr) (op:Nat→Bool) (OL:Nat→List Nat):Prop:=∀ f,f<6→∀ k,k ∈ OL f↔(op k=true∧flN pr k=f)
def NilOk (OA:Nat→Option Addr) (oc:Nat→Nat) (OL:Nat→List Nat):Prop:=∀ f,f<6→OL f=[]→OA f=none∧oc f=0
def hV (OA:Nat→Option Addr) (oc:Nat→Nat) (OL:Nat→List Nat) (sv:Nat) (V:Nat→Bool) (k:Int):Option Value:=if V k.toNat=true∧bitB sv k.toNat=true then none else opH OA oc OL k
def sV (V:Nat→Bool) (k:Int):Prop:=V k.toNat=true
def wtV (pr:List Pr) (op:Nat→Bool) (sv:Nat) (V:Nat→Bool) (t:Nat) (wt:Nat→Int) (k:Nat):Int:=if (op k&&bitB sv (flN pr k)&&V (flN pr k))=true then (t:Int)-(pr.getD k Pr.zero).at' else wt k
def wtJ (pr:List Pr) (l:List Nat) (t:Nat) (wt:Nat→Int) (k:Nat):Int:=if k ∈ l then (t:Int)-(pr.getD k Pr.zero).at' else wt k
def icF (f:Nat→Int) (k _j:Nat):Value := .int .i64 (f k)
def nb (b:Bool):Nat:=if b then 0 else 1
def c6 (V:Nat→Bool):Nat:=nb (V 0)+nb (V 1)+nb (V 2)+nb (V 3)+nb (V 4)+nb (V 5)
section
variable {pr:List Pr} {OA:Nat→Option Addr} {oc:Nat→Nat} {OL:Nat→List Nat} {op:Nat→Bool} {P:Nat→Bool} {t q f sv:Nat} {V:Nat→Bool} {wt:Nat→Int} {A:Option Addr} {n:Nat}
theorem Vx (hf:f<6) (hV:V f=false):c6 (upd V f true)+1=c6 V:=by
  rcases (show f=0∨f=1∨f=2∨f=3∨f=4∨f=5 by omega) with rfl|rfl|rfl|rfl|rfl|rfl <;> simp [c6,upd,nb,hV] <;> omega
theorem Qv {k:Int} (hN:NilOk OA oc OL) (h0:0≤k) (h6:k<6):(opH OA oc OL k).getD (.slice none 0 0) = .slice (OA k.toNat) (OL k.toNat).length (oc k.toNat):=by
  unfold opH
  by_cases h:OL k.toNat=[]
  · rw [if_neg (fun h9=>h9.2 h),h,(hN _ (by omega) h).1,(hN _ (by omega) h).2];rfl
  · rw [if_pos ⟨⟨h0,h6⟩,h⟩];rfl
theorem Qw {k:Int} (h0:0≤k) (h6:k<6) (k':Int):(if k'=k then some (Value.slice A ((OL k.toNat).length+1) n) else opH OA oc OL k')=opH (upd OA k.toNat A) (upd oc k.toNat n) (upd OL k.toNat (OL k.toNat++[q])) k':=by
  unfold opH
  by_cases e:k'=k
  · subst e
    rw [if_pos rfl,bX,bX,bX,if_pos ⟨⟨h0,h6⟩,by simp⟩,List.length_append]
    rfl
  · rw [if_neg e]
    by_cases h1:0≤k'
    · have hne:k'.toNat≠k.toNat:=fun h9=>e (by omega)
      rw [cJ _ _ hne,cJ _ _ hne,cJ _ _ hne]
    · rw [if_neg (fun h9=>h1 h9.1.1),if_neg (fun h9=>h1 h9.1.1)]
theorem Qx (hN:NilOk OA oc OL):NilOk (upd OA f A) (upd oc f n) (upd OL f (OL f++[q])):=fun x hx h=>by
  by_cases e:x=f
  · subst e;rw [bX] at h;simp at h
  · rw [cJ _ _ e] at h;rw [cJ _ _ e,cJ _ _ e];exact hN x hx h
theorem Qy (hR:RowOk pr (opQ pr P t op q) OL) (hw:nwB pr P t q=true):RowOk pr (opQ pr P t op (q+1)) (upd OL (flN pr q) (OL (flN pr q)++[q])):=fun x hx k=>by
  rw [Za hw,Bool.or_eq_true,decide_eq_true_eq]
  by_cases e:x=flN pr q
  · subst e
    rw [bX,List.mem_append,List.mem_singleton,hR _ hx k]
    constructor
    · rintro (h|h)
      · exact ⟨.inl h.1,h.2⟩
      · subst h;exact ⟨.inr rfl,rfl⟩
    · rintro ⟨h|h,h2⟩
      · exact .inl ⟨h,h2⟩
      · exact .inr h
  · rw [cJ _ _ e,hR x hx k]
    constructor
    · rintro ⟨h,h2⟩;exact ⟨.inl h,h2⟩
    · rintro ⟨h|h,h2⟩
      · exact ⟨h,h2⟩
      · subst h;exact absurd h2.symm e
theorem Mh (hR:RowOk pr (opQ pr P t op q) OL) (hw:nwB pr P t q=false):RowOk pr (opQ pr P t op (q+1)) OL:=fun x hx k=>by rw [Zb hw];exact hR x hx k
theorem Qz (sv f:Nat):(sv:Int)/2^((f:Int)).toNat%2=0↔bitB sv f=false:=by
  unfold bitB
  rw [Int.toNat_natCast,decide_eq_false_iff_not]
  have e:(sv:Int)/2^f%2=((sv/2^f%2:Nat):Int):=by push_cast;rfl
  rw [e]
  omega
theorem Vy {k:Int} {v:Value} (h:hV OA oc OL sv V k=some v) (hs:¬ sV V k):∃ f:Nat,k=f∧f<6∧V f=false∧OL f≠[]∧v = .slice (OA f) (OL f).length (oc f):=by
  unfold hV opH at h
  split at h
  · cases h
  · split at h
    · rename_i h2
      injection h with h
      refine ⟨k.toNat,by omega,by omega,?_,h2.2,h.symm⟩
      unfold sV at hs
      simpa using hs
    · cases h
theorem Zc (hf:f<6) (hv:V f=false) (hL:OL f≠[]):hV OA oc OL sv V (f:Int)=some (.slice (OA f) (OL f).length (oc f)):=by
  unfold hV opH
  rw [Int.toNat_natCast,if_neg (by rw [hv];simp),if_pos ⟨⟨by omega,by omega⟩,hL⟩]
theorem Ra (hb:bitB sv f=false) (k:Int):hV OA oc OL sv V k=hV OA oc OL sv (upd V f true) k:=by
  unfold hV
  by_cases e:k.toNat=f
  · rw [e,hb];simp
  · rw [cJ _ _ e]
theorem Vz (hf:f<6) (hb:bitB sv f=true) (k:Int):(if k=(f:Int) then none else hV OA oc OL sv V k)=hV OA oc OL sv (upd V f true) k:=by
  unfold hV
  by_cases e:k=(f:Int)
  · subst e;rw [if_pos rfl,Int.toNat_natCast,bX,hb];simp
  · rw [if_neg e]
    by_cases h1:0≤k
    · rw [cJ _ _ (show k.toNat≠f by omega)]
    · have:opH OA oc OL k=none:=by unfold opH;rw [if_neg (fun h9=>h1 h9.1.1)]
      rw [this];simp
theorem Mi {h:Int→Option Value} (hh:∀ k,(h k).isSome=true→0≤k):∀ k,(h k).isSome=true→((sV V k∨k=(f:Int))↔sV (upd V f true) k):=fun k hk=>by
  have h0:=hh k hk
  unfold sV
  by_cases e:k.toNat=f
  · rw [e,bX];exact ⟨fun _=>rfl,fun _ => .inr (by omega)⟩
  · rw [cJ _ _ e];exact ⟨fun h=>h.resolve_right (fun h9=>e (by omega)),.inl⟩
theorem Ug {k:Int} (h:(hV OA oc OL sv V k).isSome=true):0≤k:=by
  unfold hV opH at h
  split at h
  · cases h
  · split at h
    · rename_i h2;exact h2.1.1
    · cases h
theorem Rb (k:Int):opH OA oc OL k=hV OA oc OL sv (fun _=>false) k:=by unfold hV;simp
theorem Mj (k:Nat):wtV pr op sv (fun _=>false) t wt k=wt k:=by unfold wtV;simp
theorem Mk (hb:bitB sv f=false):wtV pr op sv V t wt=wtV pr op sv (upd V f true) t wt:=by
  funext k
  unfold wtV
  by_cases e:flN pr k=f
  · rw [e,hb];simp
  · rw [cJ _ _ e]
theorem Rc (hf:f<6) (hb:bitB sv f=true) (hR:RowOk pr op OL):wtJ pr (OL f) t (wtV pr op sv V t wt)=wtV pr op sv (upd V f true) t wt:=by
  funext k
  unfold wtJ
  by_cases h:k ∈ OL f
  · rw [if_pos h]
    obtain ⟨h1,h2⟩:=(hR f hf k).1 h
    unfold wtV
    rw [h2,hb,h1,bX]
    exact (if_pos (by rfl)).symm
  · rw [if_neg h]
    unfold wtV
    by_cases e:flN pr k=f
    · have h1:op k=false:=by
        cases h2:op k with
        | false=>rfl
        | true=>exact absurd ((hR f hf k).2 ⟨h2,e⟩) h
      rw [h1];simp
    · rw [cJ _ _ e]
theorem Ml {l:List Nat} {j:Nat} (hj:j<l.length):∀ k j9,k<n→j9<1→cput (icF (wtJ pr (l.take j) t wt)) (l.getD j 0) 0 (.int .i64 ((t:Int)-(pr.getD (l.getD j 0) Pr.zero).at')) k j9=icF (wtJ pr (l.take (j+1)) t wt) k j9:=fun k j9 hk hj9=>by
  obtain rfl:j9=0:=by omega
  have hg:l.getD j 0=l[j]:=by rw [List.getD_eq_getElem?_getD,List.getElem?_eq_getElem hj];rfl
  unfold cput icF wtJ
  rw [List.take_succ_eq_append_getElem hj,←hg]
  by_cases e:k=l.getD j 0
  · subst e;rw [if_pos ⟨rfl,rfl⟩,if_pos (by simp)]
  · rw [if_neg (fun h9=>e h9.1)]
    have h1:k ∈ l.take j++[l.getD j 0]↔k ∈ l.take j:=by rw [List.mem_append,List.mem_singleton];exact ⟨fun h=>h.resolve_right e,.inl⟩
    simp only [h1]
theorem Mm {l:List Nat}:wtJ pr (l.take 0) t wt=wt:=by funext k;unfold wtJ;simp
theorem Re {l:List Nat}:wtJ pr (l.take l.length) t wt=wtJ pr l t wt:=by rw [List.take_length]
def opD (sv:Nat) (OL:Nat→List Nat) (f:Nat):List Nat:=if bitB sv f then [] else OL f
theorem Wa (hd:∀ k,(hV OA oc OL sv V k).isSome=true→sV V k) (k:Int):hV OA oc OL sv V k=opH (fun f=>if bitB sv f then none else OA f) (fun f=>if bitB sv f then 0 else oc f) (opD sv OL) k:=by
  have h9:=hd k
  cases hb:bitB sv k.toNat with
  | false=>
    unfold hV opH opD
    dsimp only
    simp only [hb]
    simp
  | true=>
    have hR:opH (fun f=>if bitB sv f then none else OA f) (fun f=>if bitB sv f then 0 else oc f) (opD sv OL) k=none:=by
      unfold opH opD
      rw [if_neg]
      rintro ⟨_,h⟩
      rw [hb] at h
      exact h rfl
    rw [hR]
    by_cases hv:V k.toNat=true
    · unfold hV;rw [if_pos ⟨hv,hb⟩]
    · unfold hV
      rw [if_neg (fun h=>hv h.1)]
      cases ho:opH OA oc OL k with
      | none=>rfl
      | some v=>exact absurd (h9 (by unfold hV;rw [if_neg (fun h=>hv h.1),ho];rfl)) hv
theorem Rf (hd:∀ k,(hV OA oc OL sv V k).isSome=true→sV V k) (hR:RowOk pr op OL) (hf:∀ k,op k=true→flN pr k<6) (k:Nat):wtV pr op sv V t wt k=if (op k&&bitB sv (flN pr k))=true then (t:Int)-(pr.getD k Pr.zero).at' else wt k:=by
  unfold wtV
  by_cases h:(op k&&bitB sv (flN pr k))=true
  · rw [if_pos h,h,Bool.true_and]
    rw [Bool.and_eq_true] at h
    have hm:=(hR _ (hf k h.1) k).2 ⟨h.1,rfl⟩
    have hv:V (flN pr k)=true:=by
      cases h2:V (flN pr k) with
      | true=>rfl
      | false=>
        have h3:=hd (flN pr k:Int) (by rw [Zc (hf k h.1) h2 (fun h9=>by rw [h9] at hm;cases hm)];rfl)
        unfold sV at h3
        rw [Int.toNat_natCast,h2] at h3
        cases h3
    rw [if_pos hv]
  · rw [if_neg h]
    have:(op k&&bitB sv (flN pr k))=false:=by simpa using h
    rw [this]
    rfl
theorem Rg (hR:RowOk pr op OL):RowOk pr (fun k=>op k&&!bitB sv (flN pr k)) (opD sv OL):=fun f hf k=>by
  unfold opD
  rw [Bool.and_eq_true,Bool.not_eq_true']
  by_cases hb:bitB sv f=true
  · rw [if_pos hb]
    constructor
    · intro h;cases h
    · rintro ⟨⟨_,h⟩,h2⟩;rw [h2,hb] at h;cases h
  · rw [if_neg hb,hR f hf k]
    exact ⟨fun h=>⟨⟨h.1,by rw [h.2];simpa using hb⟩,h.2⟩,fun h=>⟨h.1.1,h.2⟩⟩
theorem Rh (hN:NilOk OA oc OL):NilOk (fun f=>if bitB sv f then none else OA f) (fun f=>if bitB sv f then 0 else oc f) (opD sv OL):=fun f hf h=>by
  unfold opD at h
  dsimp only
  by_cases hb:bitB sv f=true
  · rw [if_pos hb,if_pos hb];exact ⟨rfl,rfl⟩
  · rw [if_neg hb] at h;rw [if_neg hb,if_neg hb];exact hN f hf h
end
end
section
def shP (sh:List Int) (i k:Nat):Bool:=decide (sh.getD k 0=(i:Int))
theorem Zk {pr:List Pr} {P:Nat→Bool} {t q:Nat} (h:(pr.getD q Pr.zero).at'=(t:Int)) (hp:P q=true):nwB pr P t q=true:=by unfold nwB;rw [hp,decide_eq_true h];rfl
theorem Zl {pr:List Pr} {P:Nat→Bool} {t q:Nat} (hp:P q=false):nwB pr P t q=false:=by unfold nwB;rw [hp,Bool.and_false]
theorem Zd {pr:List Pr} {P:Nat→Bool} {t q:Nat} (h:nwB pr P t q=true):nowQ pr P t (q+1)=nowQ pr P t q++[flN pr q]:=by rw [nowQ,if_pos h]
theorem Ze {pr:List Pr} {P:Nat→Bool} {t q:Nat} (h:nwB pr P t q=false):nowQ pr P t (q+1)=nowQ pr P t q:=by rw [nowQ,if_neg (by rw [h];simp)]
theorem Er {l:List Nat} {x:Nat} {v:Value} (h:v = .int .i64 (x:Int)):∀ k j,k<l.length+1→j<1→capp l.length (wcl l) (fun _ _=>v) k j=wcl (l++[x]) k j:=fun k j hk hj=>by
  unfold capp wcl
  by_cases e:k<l.length
  · rw [if_pos e,List.getD_eq_getElem?_getD,List.getD_eq_getElem?_getD,List.getElem?_append_left e]
  · rw [if_neg e]
    have:k=l.length:=by omega
    subst this
    rw [List.getD_eq_getElem?_getD (l:=l++[x]),List.getElem?_append_right (Nat.le_refl _),Nat.sub_self]
    exact h
theorem Mn {v:Value}:∀ k j,k<1→j<1→([[v]].getD k []).getD j undef=(fun _ _=>v) k j:=fun k j hk hj=>by
  obtain rfl:k=0:=by omega
  obtain rfl:j=0:=by omega
  rfl
theorem Ri {w w0:World} {F0:Nat→Prop} {R:List Mem} {e f i:Nat} {OA:Nat→Option Addr} {oc:Nat→Nat} {OL:Nat→List Nat} {A:Option Addr} {c q:Nat} (hf:f<6)
    (S:St w0 F0 (ownM e 1 A ((OL f).length+1) c (wcl (OL f++[q]))::R) w) (hi:R[i]?=some (ragM e 1 (fun x=>x<6∧x≠f) OA (fun x=>(OL x).length) oc (fun x=>wcl (OL x)))) :
    St w0 F0 (R.set i (ragM e 1 (fun x=>x<6) (upd OA f A) (fun x=>(upd OL f (OL f++[q]) x).length) (upd oc f c) (fun x=>wcl (upd OL f (OL f++[q]) x)))) w:=by
  have S2:=ragM.put (D:=fun x=>x<6) S hi hf
  have hil:i<R.length:=(List.getElem?_eq_some_iff.1 hi).1
  have S3:=ragM.congr S2 (i:=i) (by rw [List.getElem?_set_self hil]) (A':=upd OA f A) (n':=fun x=>(upd OL f (OL f++[q]) x).length) (c':=upd oc f c) (cell':=fun x=>wcl (upd OL f (OL f++[q]) x))
    (fun _ _=>rfl) (fun x _=>by
      by_cases e:x=f
      · subst e;rw [bX];simp only [bX,List.length_append];rfl
      · rw [cJ _ _ e];simp only [cJ _ _ e]) (fun _ _=>rfl) (fun x _ k j _ _=>by
      by_cases e:x=f
      · subst e;rw [bX];simp only [bX]
      · rw [cJ _ _ e];simp only [cJ _ _ e])
  rw [List.set_set] at S3
  exact S3
theorem Rj {w w0:World} {F0:Nat→Prop} {R:List Mem} {e i sv:Nat} {OA:Nat→Option Addr} {oc:Nat→Nat} {OL:Nat→List Nat} (S:St w0 F0 R w) (hi:R[i]?=some (ragM e 1 (fun x=>x<6) OA (fun x=>(OL x).length) oc (fun x=>wcl (OL x)))) :
    St w0 F0 (R.set i (ragM e 1 (fun x=>x<6) (fun f=>if bitB sv f then none else OA f) (fun x=>(opD sv OL x).length) (fun f=>if bitB sv f then 0 else oc f) (fun x=>wcl (opD sv OL x)))) w:=by
  have S2:=Hj S hi (bitB sv)
  have hil:i<R.length:=(List.getElem?_eq_some_iff.1 hi).1
  have S3:=ragM.congr S2 (i:=i) (by rw [List.getElem?_set_self hil]) (A':=fun f=>if bitB sv f then none else OA f) (n':=fun x=>(opD sv OL x).length) (c':=fun f=>if bitB sv f then 0 else oc f) (cell':=fun x=>wcl (opD sv OL x))
    (fun _ _=>rfl) (fun x _=>by unfold opD;cases bitB sv x <;> rfl) (fun _ _=>rfl) (fun x _ k j hk _=>by
      unfold opD
      cases h:bitB sv x with
      | false=>rfl
      | true=>simp [h] at hk)
  rw [List.set_set] at S3
  exact S3
def LenOk (OL:Nat→List Nat) (q:Nat):Prop:=∀ f,f<6→(OL f).length≤q
theorem Rk {OL:Nat→List Nat} {q f:Nat} (h:LenOk OL q):LenOk (upd OL f (OL f++[q])) (q+1):=fun x hx=>by
  have h1:=h x hx
  by_cases e:x=f
  · subst e;rw [bX,List.length_append];show _+1≤_;omega
  · rw [cJ _ _ e];omega
theorem Mo {OL:Nat→List Nat} {q:Nat} (h:LenOk OL q):LenOk OL (q+1):=fun x hx=>by have:=h x hx;omega
theorem Rl {OL:Nat→List Nat} {q sv:Nat} (h:LenOk OL q):LenOk (opD sv OL) q:=fun x hx=>by
  unfold opD
  split
  · exact Nat.zero_le _
  · exact h x hx
theorem Rm (sv f:Nat):decide ((sv:Int)/2^((f:Int)).toNat%2=0)=!bitB sv f:=by
  rw [Bool.eq_iff_iff,decide_eq_true_eq,Qz,Bool.not_eq_true']
theorem Wb {pr:List Pr} {op:Nat→Bool} {OL:Nat→List Nat} {f j:Nat} (hR:RowOk pr op OL) (hf:f<6) (hj:j<(OL f).length) (ho:∀ k,op k=true→k<pr.length):(OL f).getD j 0<pr.length:=by
  have hm:(OL f).getD j 0 ∈ OL f:=by rw [List.getD_eq_getElem?_getD,List.getElem?_eq_getElem hj];exact List.getElem_mem hj
  exact ho _ ((hR f hf _).1 hm).1
theorem Rn {pr:List Pr} (h:PrOk pr):NxOk pr 0 0:=⟨Nat.zero_le _,fun q hq=>absurd hq (Nat.not_lt_zero q),fun q _ hq=>(h.bd q hq).1⟩
theorem Wc {c:Cr} {pr:List Pr} {P:Nat→Bool} (hP:∀ q,q<pr.length→P q=true→flN pr q<6):∀ t k,(wsN c pr P t).op k=true→flN pr k<6:=by
  intro t
  induction t with
  | zero=>intro k h;cases h
  | succ t ih=>
    intro k h
    have h1:(opQ pr P t (wsN c pr P t).op pr.length k&&_)=true:=h
    rw [Bool.and_eq_true] at h1
    have h2:=h1.1
    unfold opQ nwB at h2
    rw [Bool.or_eq_true,Bool.and_eq_true,Bool.and_eq_true,decide_eq_true_eq,decide_eq_true_eq] at h2
    rcases h2 with h2|h2
    · exact ih k h2
    · exact hP k h2.1 h2.2.2
theorem Wd {pr:List Pr} {P:Nat→Bool} {op:Nat→Bool} {t k:Nat} (hP:∀ q,q<pr.length→P q=true→flN pr q<6) (ho:∀ k,op k=true→flN pr k<6) (h:opQ pr P t op pr.length k=true):flN pr k<6:=by
  unfold opQ nwB at h
  rw [Bool.or_eq_true,Bool.and_eq_true,Bool.and_eq_true,decide_eq_true_eq,decide_eq_true_eq] at h
  rcases h with h|h
  · exact ho k h
  · exact hP k h.1 h.2.2
theorem Af (sh:List Int) (SA:Option Addr) (sc ii k bS bI:Nat) (w:World) (hbS:BxIn w bS [.slice SA sh.length sc]) (hbI:BxIn w bI [.int .i64 (ii:Int)]) (hsh:InS w noF 1 SA sh.length (icl sh)) (hk:k<sh.length) :
    Calls Tryz.prog 96 [.int .i64 (k:Int),.pointer (some ⟨bS,0,none⟩),.pointer (some ⟨bI,0,none⟩)].toArray w (Ret (fun u w'=>u = .bool (shP sh ii k)∧St w noF [] w')):=by
 refine enter Tryz.func96 rfl Tryz.ntmps96 rfl (fun a H=>?_)
 have S:=St.start w
 refine sS H fun K1 k1=>sr 1 rfl<|sE ?_;clear H a;intro a H
 refine k1 _ ?_;clear k1 K1
 replace S:=S.drew
 refine sD H fun K2 k2=>slm bR rfl ((hbS.now S).2 0 _ rfl)<|sr 1 rfl<|si aW bC G G (hsh.adr (by omega)) (by omega)<|slm aD rfl (hsh.rd S (by omega) (by omega))<|slm aD rfl ((hbI.now S).2 0 _ rfl)<|sr 2 rfl<|sE ?_;clear H a;intro a H
 refine k2 _ ?_;clear k2 K2
 refine wp_ret ?_
 refine ret1 (fn:=Tryz.f96) rfl H rfl ?_
 exact ⟨rfl,(S.sel [] G G)⟩
theorem Mp (c:Cr) (pr:List Pr) (RA:Option Addr) (rc:Nat) (sh:List Int) (SA:Option Addr) (sc ii:Nat) (bS bI:Nat) (w:World) (hc:crB c=true) (hpr:InS w noF 2 RA pr.length (fF pr)) (hpl:pr.length≤200) (hso:PrOk pr) (hbS:BxIn w bS [.slice SA sh.length sc]) (hbI:BxIn w bI [.int .i64 (ii:Int)]) (hsh:InS w noF 1 SA sh.length (icl sh)) (hsl:sh.length=pr.length) (hP:∀ q,q<pr.length→shP sh ii q=true→0≤(pr.getD q Pr.zero).fl∧(pr.getD q Pr.zero).fl≤5) :
    Calls Tryz.prog 95 [.agg [.int .i64 c.lo,.int .i64 c.hi,.int .i64 c.st,.int .i64 c.mv,.int .i64 c.sp].toArray,.slice RA pr.length rc,.func (.func 96) [].toArray [.pointer (some ⟨bS,0,none⟩),.pointer (some ⟨bI,0,none⟩)].toArray].toArray w (Ret (fun u w'=>∃ A c9,u = .slice A pr.length c9∧St w noF [ownM 3 1 A pr.length c9 (icF (waitV c pr (shP sh ii)))] w')):=by
 have hP6:∀ q,q<pr.length→shP sh ii q=true→flN pr q<6:=fun q hq h=>by have:=hP q hq h;unfold flN;omega
 have hmx:maxLen=9223372036854775807:=rfl
 refine enter Tryz.func95 rfl Tryz.ntmps95 rfl (fun a H=>?_)
 have S:=St.start w
 refine seq_list fun K1 k1=>?_
 refine aO H rfl S G G ?_;clear H a S;intro b3 _ a hb3 hbw3 S H
 refine ls 1 H<|sr 1 rfl<|sE ?_;clear H a;intro a H
 refine k1 _ _ ?_;clear k1 K1
 refine seq_list fun K2 k2=>?_
 refine ls 2 H<|sr 1 rfl<|sL dS rfl<|sE ?_;clear H a;intro a H
 refine kB (n:=_) H rfl S aW bC fG nF rfl (by decide) G G (by omega) (by omega) ?_;clear H a S;intro A1 _ a hA1 S H
 obtain ⟨AW,rfl⟩:∃ y,y=A1:=⟨_,rfl⟩
 replace S:=S.recell (i:=0) rfl (cell':=icF (wsN c pr (shP sh ii) 0).wt) (fun k9 j9 hk9 hj9=>by obtain rfl:j9=0:=(by omega);rfl)
 refine ls 1 H<|sr 1 rfl<|sE ?_;clear H a;intro a H
 refine k2 _ _ ?_;clear k2 K2
 refine seq_list fun K3 k3=>?_
 refine uO H rfl S ?_;clear H a S;intro mb _ a hmb S H
 refine ls 1 H<|sr 1 rfl<|sE ?_;clear H a;intro a H
 refine k3 _ _ ?_;clear k3 K3
 replace H:=H.keep [1,2,3,7,8] rfl
 refine seq_list fun K4 k4=>?_
 refine ls 1 H<|sd ((aE kT eU rfl S (i:=2) G G))<|sE ?_;clear H a;intro a H
 refine aA H G G Tryz.func129 G G (Kw c _ hc) ?_;clear H a
 rintro _ _ a ⟨bb,rfl,S2⟩ H
 replace S:=S.call S2;clear S2
 refine ls 1 H<|sr 1 rfl<|sE ?_;clear H a;intro a H
 refine k4 _ _ ?_;clear k4 K4
 refine sS H fun K5 k5=>sr 1 rfl<|sE ?_;clear H a;intro a H
 refine k5 _ ?_;clear k5 K5
 refine wp_seq_k fun K6 k6=>?_
 refine sS H fun K7 k7=>sr 1 rfl<|sE ?_;clear H a;intro a H
 refine k7 _ ?_;clear k7 K7
 refine wp_block ?_
 replace S:=ragM.zero S 3 1 (fun x=>x<6) (fun _=>wcl [])
 replace S:=S.mapUeq (i:=1+1) rfl (h':=opH (fun _=>none) (fun _=>0) (fun _=>[])) (fun k=>by unfold opH;simp)
 refine loop_st (X:=Nat×Nat×(Nat→Option Addr)×(Nat→Nat)×(Nat→List Nat)) (R0:=_) [1,2,7,8,9] H rfl (fun ⟨t,nx,OA,oc,OL⟩=>[(10,.int .i64 (nx:Int)),(11,.int .i64 (t:Int))]) (fun ⟨t,nx,OA,oc,OL⟩=>[boxM bb 255 (cgL c (wsN c pr (shP sh ii) t).r),ownM 3 1 AW pr.length pr.length (icF (wsN c pr (shP sh ii) t).wt),mapU mb (opH OA oc OL),ragM 3 1 (fun x=>x<6) OA (fun x=>(OL x).length) oc (fun x=>wcl (OL x))]) (fun g ⟨t,nx,OA,oc,OL⟩=>((g+t=1400∧NxOk pr t nx)∧(nx=pr.length→muR (wsN c pr (shP sh ii) t).r≤g))∧RowOk pr (wsN c pr (shP sh ii) t).op OL∧NilOk OA oc OL∧LenOk OL nx) (1400) (0,0,fun _=>none,fun _=>0,fun _=>[]) ?_ (S.sel [1,3,2,0,4] G G) (H.keep [10,11,1,2,7,8,9] rfl) ?_
 · exact ⟨⟨⟨rfl,Rn hso⟩,fun _=>Nat.le_trans (Jj (xL hc hP6 0)) (by decide)⟩,fun f _ k=>⟨(fun h=>by cases h),(fun h=>by cases h.1)⟩,fun f _ _=>⟨rfl,rfl⟩,fun f _=>Nat.le_refl 0⟩
 clear H S a
 intro g1 x1 a w1 hp S H K8 k8
 obtain ⟨t,nx,OA,oc,OL⟩:=x1
 dsimp only at hp S H
 obtain ⟨⟨⟨hgt,hnx0⟩,hmu⟩,hRow0,hNil0,hLen0⟩:=hp
 refine wp_seq_k fun K9 k9=>?_
 replace H:=H.keep [1,2,7,8,9,10,11] rfl
 refine sS H fun K10 k10=>sr 2 rfl<|sL dS rfl<|sr 2 rfl<|sg 6 4 28 34 false G G (fun hg5=>by
     have hq5:=hg5;try simp only [o1,o2,o3,o4,o5,o6,o7,o8,o9,oa] at hq5
     exact sy hg5<|sr 1 rfl<|sy hg5<|sr 1 rfl<|sy hg5<|sf bA rfl<|sy hg5<|sf gP rfl<|sy hg5<|sl S 0 aD G G G<|sy hg5<|sr 1 rfl<|sz 6 G G G)<|so G G G<|sE ?_;clear H a;intro a H
 refine k10 _ ?_;clear k10 K10
 refine cond_ H rfl (fun hc1=>?_) (fun hc1=>?_)
 ·skip
  try simp only [o1,o2,o3,o4,o5,o6,o7,o8,o9,oa] at hc1
  refine wp_skip ?_
  refine k9 _ _ ?_
  refine wp_seq_k fun K11 k11=>?_
  refine wp_block ?_
  have hw3:=hc1
  replace H:=H.keep [1,2,7,8,9,10,11] rfl
  refine sS H fun K12 k12=>sr 1 rfl<|sE ?_;clear H a;intro a H
  refine k12 _ ?_;clear k12 K12
  refine wp_seq_k fun K13 k13=>?_
  refine wp_block ?_
  have hz9:nowQ pr (shP sh ii) t nx=[]:=qE hnx0 nx (Nat.le_refl _)
  replace S:=S.newNil 3 1 (wcl [])
  refine loop_st (X:=Nat×List Nat×Option Addr×Nat×(Nat→Option Addr)×(Nat→Nat)×(Nat→List Nat)) (R0:=_) [1,2,7,8,9,11] H rfl (fun ⟨q,NL,A3,c3,OA,oc,OL⟩=>[(10,.int .i64 (q:Int)),(12,.slice A3 NL.length c3)]) (fun ⟨q,NL,A3,c3,OA,oc,OL⟩=>[ownM 3 1 A3 NL.length c3 (wcl NL),mapU mb (opH OA oc OL),ragM 3 1 (fun x=>x<6) OA (fun x=>(OL x).length) oc (fun x=>wcl (OL x))]) (fun g ⟨q,NL,A3,c3,OA,oc,OL⟩=>((q≤pr.length∧g+q=pr.length)∧NL=nowQ pr (shP sh ii) t q)∧QOk pr t q∧RowOk pr (opQ pr (shP sh ii) t (wsN c pr (shP sh ii) t).op q) OL∧NilOk OA oc OL∧LenOk OL q) (pr.length-nx) (nx,[],none,0,OA,oc,OL) ?_ (S.sel [0,3,4,1,2,5] G G) (H.keep [10,12,1,2,7,8,9,11] rfl) ?_
  · exact ⟨⟨⟨hnx0.le,by have:=hnx0.le;omega⟩,hz9.symm⟩,hnx0.toQ,fun x hx k=>by rw [Mb hnx0];exact hRow0 x hx k,hNil0,hLen0⟩
  clear H S a
  intro g2 x2 a w2 hp S H K14 k14
  obtain ⟨q,NL,A3,c3,OA,oc,OL⟩:=x2
  dsimp only at hp S H
  obtain ⟨⟨⟨hql,hgq⟩,hNL⟩,hqo,hRow,hNil,hLen⟩:=hp
  refine wp_seq_k fun K15 k15=>?_
  replace H:=H.keep [1,2,7,8,9,10,11,12] rfl
  refine sS H fun K16 k16=>sr 2 rfl<|sL dS rfl<|sr 2 rfl<|sg 7 4 42 49 true G G (fun hg5=>by
      have hq5:=hg5;try simp only [o1,o2,o3,o4,o5,o6,o7,o8,o9,oa] at hq5
      exact sy hg5<|sr 1 rfl<|sy hg5<|sr 1 rfl<|sy hg5<|si dS dK G G (hpr.adr (by omega)) (by omega)<|sy hg5<|sp jG rfl<|sy hg5<|slm aD rfl (hpr.rd S (by omega) (by omega))<|sy hg5<|sr 1 rfl<|sy hg5<|sr 1 rfl<|sz 7 G G G)<|sa G G G<|sE ?_;clear H a;intro a H
  refine k16 _ ?_;clear k16 K16
  refine cond_ H rfl (fun hc2=>?_) (fun hc2=>?_)
  ·skip
   try simp only [o1,o2,o3,o4,o5,o6,o7,o8,o9,oa] at hc2
   refine wp_skip ?_
   refine k15 _ _ ?_
   refine wp_seq_k fun K17 k17=>?_
   refine wp_block ?_
   replace H:=H.keep [1,2,7,8,9,10,11,12] rfl
   refine seq_list fun K18 k18=>?_
   refine ls 2 H<|sr 2 rfl<|sE ?_;clear H a;intro a H
   refine fS (fs:=[]) (cs:=[.pointer (some ⟨bS,0,none⟩),.pointer (some ⟨bI,0,none⟩)]) (vs:=[.int .i64 (q:Int)]) H G G G Tryz.func96 G G (Af sh SA sc ii q bS bI _ (hbS.now S) (hbI.now S) (hsh.now S) (by omega)) ?_;clear H a
   rintro _ _ a ⟨rfl,S2⟩ H
   replace S:=S.call S2;clear S2
   refine k18 _ _ ?_;clear k18 K18
   refine cond_ H rfl (fun hc3=>?_) (fun hc3=>?_)
   ·skip
    try simp only [o1,o2,o3,o4,o5,o6,o7,o8,o9,oa] at hc3
    have hwq:nwB pr (shP sh ii) t q=true:=Zk hc2.2 hc3
    have hq6:0≤(pr.getD q Pr.zero).fl∧(pr.getD q Pr.zero).fl<6:=by have:=hP q (by omega) hc3;omega
    replace H:=H.keep [1,2,7,8,9,10,11,12] rfl
    replace S:=S.drew
    refine seq_wt 16 (.q 0 (.q 1 (.q 2 (.q 3 (.q 4 (.q 5 (.q 6 (.q 7 (.q 8 (.q 9 (.q 10 (.q 11 (.q 12 (.q 13 (.e 14 (.e 15 (.e 16 .nil))))))))))))))))) (by kernel_rfl) (by kernel_rfl) (S.sel [0,1,3,4,5] G G) fun K19 k19=>?_
    refine aH H G G (fun _ S=>aL rfl) ?_;clear H a;intro a H
    refine aH H G G (fun _ S=>aL rfl) ?_;clear H a;intro a H
    refine aH H G G (fun _ S=>aL rfl) ?_;clear H a;intro a H
    refine aH H G G (fun _ S=>aZ dS dK G G (hpr.adr (by omega)) (by omega)) ?_;clear H a;intro a H
    refine aH H G G (fun _ S=>(bE jH rfl)) ?_;clear H a;intro a H
    refine aH H G G (fun _ S=>aG aD rfl (hpr.rd S (by omega) (by omega))) ?_;clear H a;intro a H
    refine aH H G G (fun _ S=>aL rfl) ?_;clear H a;intro a H
    refine aH H G G (fun _ S=>aL rfl) ?_;clear H a;intro a H
    refine aH H G G (fun _ S=>aL rfl) ?_;clear H a;intro a H
    refine aH H G G (fun _ S=>aZ dS dK G G (hpr.adr (by omega)) (by omega)) ?_;clear H a;intro a H
    refine aH H G G (fun _ S=>(bE jH rfl)) ?_;clear H a;intro a H
    refine aH H G G (fun _ S=>aG aD rfl (hpr.rd S (by omega) (by omega))) ?_;clear H a;intro a H
    refine aH H G G (fun _ S=>(xK S (i:=1) rfl wX (tT Tryz.underlying3) Yu rfl (k:=(pr.getD q Pr.zero).fl) rfl (Qv hNil hq6.1 hq6.2):Does _ _ _ _ (.slice (OA (pr.getD q Pr.zero).fl.toNat) (OL (pr.getD q Pr.zero).fl.toNat).length (oc (pr.getD q Pr.zero).fl.toNat)))) ?_;clear H a;intro a H
    refine aH H G G (fun _ S=>aL rfl) ?_;clear H a;intro a H
    refine aM rfl ?_
    refine bB H rfl S aW bC fG G G G G G G G G G ?_;clear H a S;intro A2 _ a hA2 S H
    replace S:=S.recell (i:=0) rfl (cell':=fun _ _=>Value.int .i64 (q:Int)) Mn
    refine wpList_nil (And.intro (Or.inr (S.sel [1,2,4,5,6] G G)) ?_)
    refine aM rfl ?_
    have hLl:=hLen (pr.getD q Pr.zero).fl.toNat (by omega)
    replace S:=ragM.pull S (i:=3) (p:=(pr.getD q Pr.zero).fl.toNat) rfl (by show _<6;omega)
    refine cB H rfl S aW bC fG nF G G (i:=0) G G G (ownM.inS S (i:=0+1) rfl) (fun _ _ _ _=>rfl) (by omega) (by omega) ?_;clear H a S;intro A9 c9 _ a S H
    replace S:=S.recell (i:=0) rfl (cell':=wcl (OL (pr.getD q Pr.zero).fl.toNat++[q])) (Er rfl)
    refine wpList_nil (And.intro (Or.inr (S.sel [2,3,5,6,7] G G)) ?_)
    refine aM rfl ?_
    refine qX (k:=(pr.getD q Pr.zero).fl) H S (i:=3) rfl wX (tT Tryz.underlying3) G G G ?_;clear H a S;intro _ a S H
    replace S:=S.mapUeq (i:=3) rfl (Qw (q:=q) hq6.1 hq6.2)
    replace S:=Ri (f:=(pr.getD q Pr.zero).fl.toNat) (by omega) (S.sel [0,1,2,3,4,5,6,7] G G) (i:=3) rfl
    refine wpList_nil (And.intro (Or.inl rfl) ?_)
    refine bH ?_
    refine k19 _ _ ?_
    clear k19 K19
    have hNLl:NL.length≤q:=by rw [hNL];exact Ad q
    replace H:=H.keep [1,2,7,8,9,10,11,12] rfl
    refine one_list ?_
    refine ls 6 H<|sr 3 rfl<|si dS dK G G (hpr.adr (by omega)) (by omega)<|sp jH rfl<|slm aD rfl (hpr.rd S (by omega) (by omega))<|sE ?_;clear H a;intro a H
    refine bB H rfl S aW bC fG G G G G G G G G G ?_;clear H a S;intro A3 _ a hA3 S H
    replace S:=S.recell (i:=0) rfl (cell':=fun _ _=>Value.int .i64 (pr.getD q Pr.zero).fl) Mn
    refine cB H rfl S aW bC fG nF G G (i:=2) G G G (ownM.inS S (i:=0) rfl) (fun _ _ _ _=>rfl) (by omega) (by omega) ?_;clear H a S;intro A4 c4 _ a S H
    replace S:=S.recell (i:=2) rfl (cell':=wcl (NL++[flN pr q])) (Er (congrArg (Value.int .i64) (by unfold flN;omega)))
    refine ls 1 H<|sr 1 rfl<|sE ?_;clear H a;intro a H
    refine k17 _ _ ?_
    replace H:=H.keep [1,2,7,8,9,10,11,12] rfl
    refine sO H<|sr 1 rfl<|sd (aK G G (by unfold i64ok;omega))<|sr 1 rfl<|sE ?_;clear H a;intro a H
    rw [show NL.length+1=(NL++[flN pr q]).length by simp] at S H
    exact k14 (g2-1) (q+1,_,_,_,_,_,upd OL (flN pr q) (OL (flN pr q)++[q])) a _ (by omega) (⟨⟨⟨by omega,by omega⟩,by rw [hNL,Zd hwq]⟩,hqo.next (by omega) hc2.2,Qy hRow hwq,Qx hNil,Rk hLen⟩) (S.sel [2,3,4,5,6,7] G G) (H.keep [10,12,1,2,7,8,9,11] rfl)
   try simp only [o1,o2,o3,o4,o5,o6,o7,o8,o9,oa] at hc3
   refine wp_skip ?_
   refine k17 _ _ ?_
   refine sO H<|sr 1 rfl<|sd (aK G G (by unfold i64ok;omega))<|sr 1 rfl<|sE ?_;clear H a;intro a H
   have hwq:=Zl (pr:=pr) (t:=t) (P:=(shP sh ii)) (q:=q) (by simpa using hc3)
   exact k14 (g2-1) (q+1,_,_,_,_,_,_) a _ (by omega) (⟨⟨⟨by omega,by omega⟩,by rw [hNL,Ze hwq]⟩,hqo.next (by omega) hc2.2,Mh hRow hwq,hNil,Mo hLen⟩) (S.sel [0,1,2,3,4,5] G G) (H.keep [10,12,1,2,7,8,9,11] rfl)
  try simp only [o1,o2,o3,o4,o5,o6,o7,o8,o9,oa] at hc2
  refine wp_exit ?_
  refine k13 _ _ ?_
  have hnx:=hqo.done hso (by omega)
  obtain rfl:NL=nowQ pr (shP sh ii) t pr.length:=hNL.trans (Ma hnx).symm
  replace H:=H.keep [1,2,7,8,9,10,11,12] rfl
  refine seq_list fun K23 k23=>?_
  refine ls 2 H<|sr 2 rfl<|sE ?_;clear H a;intro a H
  have S1:=(S.sel [3] G G)
  have hcl9:=Pu c (wsN c pr (shP sh ii) t).r bb (nowQ pr (shP sh ii) t pr.length) A3 c3 _ _ S1.startR (xL hc hP6 t) hc (ownM.inF S (i:=0) rfl [3] G G) (by have:=Ad (pr:=pr) (P:=(shP sh ii)) (t:=t) pr.length;omega) (Ae hP6)
  refine aA H G G Tryz.func130 G G hcl9 ?_;clear H a hcl9
  rintro _ _ a ⟨rfl,S2⟩ H
  replace S:=(S.sel [3,0,1,2,4,5] G G).callR (M:=[_]) S2;clear S1 S2
  refine ls 1 H<|sr 1 rfl<|sE ?_;clear H a;intro a H
  refine k23 _ _ ?_;clear k23 K23
  have hRl:RowOk pr (opQ pr (shP sh ii) t (wsN c pr (shP sh ii) t).op pr.length) OL:=fun x hx k=>by rw [hRow x hx k,Qr hnx]
  refine seq_list fun K24 k24=>?_
  refine ls 1 H<|sr 1 rfl<|sE ?_;clear H a;intro a H
  refine Cj H rfl S (i:=2) rfl wX rfl ?_;clear H a S;intro rb _ a hrb S H
  refine k24 _ _ ?_;clear k24 K24
  refine wp_block ?_
  replace S:=S.mapIteq (i:=2) rfl (h':=hV OA oc OL (tickS c (wsN c pr (shP sh ii) t).r (nowQ pr (shP sh ii) t pr.length)) (fun _=>false)) (s':=sV (fun _=>false)) (Rb (sv:=(tickS c (wsN c pr (shP sh ii) t).r (nowQ pr (shP sh ii) t pr.length)))) (fun k _=>⟨fun h=>h.elim,fun h=>by cases h⟩)
  replace S:=S.recell (i:=4) rfl (cell':=icF (wtV pr (opQ pr (shP sh ii) t (wsN c pr (shP sh ii) t).op pr.length) (tickS c (wsN c pr (shP sh ii) t).r (nowQ pr (shP sh ii) t pr.length)) (fun _=>false) t (wsN c pr (shP sh ii) t).wt)) (fun k9 j9 _ _=>congrArg (Value.int .i64) (Mj k9).symm)
  refine loop_st (X:=Nat→Bool) (R0:=_) [1,2,7,8,9,10,11,13,84] H rfl (fun V=>[]) (fun V=>[mapIt mb rb none (hV OA oc OL (tickS c (wsN c pr (shP sh ii) t).r (nowQ pr (shP sh ii) t pr.length)) V) (sV V),ownM 3 1 AW pr.length pr.length (icF (wtV pr (opQ pr (shP sh ii) t (wsN c pr (shP sh ii) t).op pr.length) (tickS c (wsN c pr (shP sh ii) t).r (nowQ pr (shP sh ii) t pr.length)) V t (wsN c pr (shP sh ii) t).wt))]) (fun g V=>c6 V≤g) (6) (fun _=>false) ?_ (S.sel [2,4,0,1,3,5] G G) (H.keep [1,2,7,8,9,10,11,13,84] rfl) ?_
  · exact Nat.le_refl _
  clear H S a
  intro g3 x3 a w3 hp S H K25 k25
  obtain ⟨V,rfl⟩:∃ y,y=x3:=⟨_,rfl⟩
  have hp3:=hp
  by_cases hd:∀ k,(hV OA oc OL (tickS c (wsN c pr (shP sh ii) t).r (nowQ pr (shP sh ii) t pr.length)) V k).isSome=true→sV V k
  ·skip
   skip
   refine seq_list fun K26 k26=>?_
   refine Ck H rfl S (i:=0) G G hd ?_;clear H a S;intro _ a S H
   refine ls 1 H<|sr 1 rfl<|sE ?_;clear H a;intro a H
   refine k26 _ _ ?_;clear k26 K26
   refine wp_seq_k fun K27 k27=>?_
   refine cond_ H rfl (fun hc4=>?_) (fun hc4=>?_)
   ·skip
    skip
    cases hc4
   skip
   refine wp_exit ?_
   refine k11 _ _ ?_
   refine sO H<|sr 1 rfl<|sd (aK G G (by unfold i64ok;omega))<|sr 1 rfl<|sE ?_;clear H a;intro a H
   replace S:=S.mapEnd (i:=0) rfl
   replace S:=S.mapUeq (i:=0) rfl (Wa hd)
   replace S:=Rj (sv:=(tickS c (wsN c pr (shP sh ii) t).r (nowQ pr (shP sh ii) t pr.length))) S (i:=4) rfl
   replace S:=S.recell (i:=1) rfl (cell':=icF (wsN c pr (shP sh ii) (t+1)).wt) (fun k9 j9 _ _=>congrArg (Value.int .i64) (Rf hd hRl (fun k hk=>Wd hP6 (Wc hP6 t) hk) k9))
   have hfu:=Mg hc hso hP6 hnx0 hgt hmu (by rcases hw3 with h9|h9;exact .inl (by omega);exact .inr (by omega))
   exact k8 (g1-1) (t+1,q,_,_,opD (tickS c (wsN c pr (shP sh ii) t).r (nowQ pr (shP sh ii) t pr.length)) OL) a _ (by omega) (⟨⟨⟨by omega,hnx⟩,fun _=>hfu.2⟩,Rg hRl,Rh hNil,Rl hLen⟩) (S.sel [2,1,0,4,5] G G) (H.keep [10,11,1,2,7,8,9] rfl)
  skip
  refine seq_list fun K29 k29=>?_
  refine Cl H rfl S (i:=0) G G hd ?_;clear H a S;intro _ a kk vv hkv hks S H
  obtain ⟨f,rfl,hf,hVf,hLf,rfl⟩:=Vy hkv hks
  have hc6u:=Vx hf hVf
  have hLf9:=hLen f hf
  refine ls 1 H<|sr 1 rfl<|sE ?_;clear H a;intro a H
  refine k29 _ _ ?_;clear k29 K29
  refine wp_seq_k fun K30 k30=>?_
  refine cond_ H rfl (fun hc5=>?_) (fun hc5=>?_)
  ·skip
   skip
   refine wp_skip ?_
   refine k30 _ _ ?_
   refine wp_block ?_
   replace H:=H.keep [1,2,7,8,9,10,11,13,84] rfl
   refine seq_list fun K31 k31=>?_
   refine ls 5 H<|sd (Cm S (i:=0) G G hkv)<|sd ((aN G G:Does _ _ _ _ (.int .i64 (f:Int))))<|sr 3 rfl<|sE ?_;clear H a;intro a H
   refine k31 _ _ ?_;clear k31 K31
   refine wp_seq_k fun K32 k32=>?_
   skip
   replace H:=H.keep [1,2,7,8,9,10,11,13,14,15,84] rfl
   refine sS H fun K33 k33=>sr 2 rfl<|sd (gD G G (by omega) (by omega))<|sd (eZ G G)<|sd ((iJ G G).to (v' := .bool (!bitB (tickS c (wsN c pr (shP sh ii) t).r (nowQ pr (shP sh ii) t pr.length)) f)) (congrArg Value.bool (Rm _ f)))<|sE ?_;clear H a;intro a H
   refine k33 _ ?_;clear k33 K33
   refine cond_ H rfl (fun hc6=>?_) (fun hc6=>?_)
   ·skip
    try simp only [o1,o2,o3,o4,o5,o6,o7,o8,o9,oa] at hc6
    refine wp_exit ?_
    have hbf:bitB (tickS c (wsN c pr (shP sh ii) t).r (nowQ pr (shP sh ii) t pr.length)) f=false:=by simpa using hc6
    replace S:=S.mapIteq (i:=0) rfl (Ra hbf) (Mi (fun k hk=>Ug hk))
    replace S:=S.recell (i:=1) rfl (cell':=icF (wtV pr (opQ pr (shP sh ii) t (wsN c pr (shP sh ii) t).op pr.length) (tickS c (wsN c pr (shP sh ii) t).r (nowQ pr (shP sh ii) t pr.length)) (upd V f true) t (wsN c pr (shP sh ii) t).wt)) (fun k9 j9 _ _=>by rw [Mk hbf])
    exact k25 (g3-1) (upd V f true) a _ (by omega) (by omega) (S.sel [0,1,2,3,4,5] G G) (H.keep [1,2,7,8,9,10,11,13,84] rfl)
   try simp only [o1,o2,o3,o4,o5,o6,o7,o8,o9,oa] at hc6
   refine wp_skip ?_
   refine k32 _ _ ?_
   refine wp_seq_k fun K34 k34=>?_
   refine sS H fun K35 k35=>sr 1 rfl<|sL aW rfl<|sr 1 rfl<|sE ?_;clear H a;intro a H
   refine k35 _ ?_;clear k35 K35
   refine wp_block ?_
   have hbf:bitB (tickS c (wsN c pr (shP sh ii) t).r (nowQ pr (shP sh ii) t pr.length)) f=true:=by simpa using hc6
   replace S:=S.recell (i:=1) rfl (cell':=icF (wtJ pr ((OL f).take 0) t (wtV pr (opQ pr (shP sh ii) t (wsN c pr (shP sh ii) t).op pr.length) (tickS c (wsN c pr (shP sh ii) t).r (nowQ pr (shP sh ii) t pr.length)) V t (wsN c pr (shP sh ii) t).wt))) (fun k9 j9 _ _=>by rw [Mm])
   refine loop_st (X:=Nat) (R0:=_) [1,2,7,8,9,10,11,13,14,84,95,96] H rfl (fun j=>[(97,.int .i64 (j:Int))]) (fun j=>[ownM 3 1 AW pr.length pr.length (icF (wtJ pr ((OL f).take j) t (wtV pr (opQ pr (shP sh ii) t (wsN c pr (shP sh ii) t).op pr.length) (tickS c (wsN c pr (shP sh ii) t).r (nowQ pr (shP sh ii) t pr.length)) V t (wsN c pr (shP sh ii) t).wt)))]) (fun g j=>j≤(OL f).length∧g+j=(OL f).length) ((OL f).length) 0 ?_ (S.sel [1,0,2,3,4,5] G G) (H.keep [97,1,2,7,8,9,10,11,13,14,84,95,96] rfl) ?_
   · exact ⟨by omega,by omega⟩
   clear H S a
   intro g4 x4 a w4 hp S H K36 k36
   obtain ⟨j,rfl⟩:∃ y,y=x4:=⟨_,rfl⟩
   refine sS H fun K37 k37=>sr 1 rfl<|sE ?_;clear H a;intro a H
   refine k37 _ ?_;clear k37 K37
   refine wp_seq_k fun K38 k38=>?_
   refine condL H rfl (fun hc7=>?_) (fun hc7=>?_)
   ·skip
    refine wp_skip ?_
    refine k38 _ _ ?_
    refine wp_seq_k fun K39 k39=>?_
    refine wp_block ?_
    have hjl:j<(OL f).length:=by omega
    refine sS H fun K40 k40=>si aW bC G G (ragM.adr S (i:=4) (p:=f) rfl hf (by omega)) (by omega)<|sd ((aG aD rfl (ragM.rd S (i:=4) (p:=f) (k:=j) (j:=0) rfl hf hjl (by decide))).to (v' := .int .i64 (((OL f).getD j 0:Nat):Int)) rfl)<|sr 1 rfl<|sE ?_;clear H a;intro a H
    refine k40 _ ?_;clear k40 K40
    have hil9:(OL f).getD j 0<pr.length:=Wb hRl hf hjl (fun k hk=>Mc (Vw t) (Nat.le_refl _) hk)
    have hib9:=hso.bd _ hil9
    replace H:=H.keep [1,2,7,8,9,10,11,13,14,17,84,95,96,97] rfl
    refine one_list ?_
    refine ls 10 H<|sr 5 rfl<|si dS dK G G (hpr.adr (by omega)) (by omega)<|sp jG rfl<|slm aD rfl (hpr.rd S (by omega) (by omega))<|sd (aS G G (by unfold i64ok;omega))<|si aW bC G G (ownM.adr S (i:=0) rfl (by omega)) (by omega)<|sE ?_;clear H a;intro a H
    refine cQ H S (i:=0) (kk:=(OL f).getD j 0) (j:=0) G G G hil9 (by omega) bC rfl ?_
    clear H a S;intro _ a S H
    replace S:=S.recell (i:=0) rfl (cell':=icF (wtJ pr ((OL f).take (j+1)) t (wtV pr (opQ pr (shP sh ii) t (wsN c pr (shP sh ii) t).op pr.length) (tickS c (wsN c pr (shP sh ii) t).r (nowQ pr (shP sh ii) t pr.length)) V t (wsN c pr (shP sh ii) t).wt))) (Ml hjl)
    refine k39 _ _ ?_
    replace H:=H.keep [1,2,7,8,9,10,11,13,14,84,95,96,97] rfl
    refine sO H<|sd (aK G G (by unfold i64ok;omega))<|sr 1 rfl<|sE ?_;clear H a;intro a H
    exact k36 (g4-1) (j+1) a _ (by omega) (⟨by omega,by omega⟩) (S.sel [0,1,2,3,4,5] G G) (H.keep [97,1,2,7,8,9,10,11,13,14,84,95,96] rfl)
   refine wp_exit ?_
   refine k34 _ _ ?_
   refine one_list ?_
   refine ls 2 H<|sr 2 rfl<|sE ?_;clear H a;intro a H
   refine Ac (d:=none) H S (i:=1) rfl wX (tT Tryz.underlying3) G G hkv ?_ (fun _ h=>by cases h);clear H a S;intro _ a S H
   replace S:=S.mapIteq (i:=1) rfl (Vz hf hbf) (Mi (fun k hk=>Ug (k:=k) (sv:=(tickS c (wsN c pr (shP sh ii) t).r (nowQ pr (shP sh ii) t pr.length))) (V:=V) (by by_cases e:k=(f:Int);rw [if_pos e] at hk;cases hk;rw [if_neg e] at hk;exact hk)))
   replace S:=S.recell (i:=0) rfl (cell':=icF (wtV pr (opQ pr (shP sh ii) t (wsN c pr (shP sh ii) t).op pr.length) (tickS c (wsN c pr (shP sh ii) t).r (nowQ pr (shP sh ii) t pr.length)) (upd V f true) t (wsN c pr (shP sh ii) t).wt)) (fun k9 j9 _ _=>by rw [←Rc hf hbf hRl,show j=(OL f).length by omega,Re])
   exact k25 (g3-1) (upd V f true) a _ (by omega) (by omega) (S.sel [1,0,2,3,4,5] G G) (H.keep [1,2,7,8,9,10,11,13,84] rfl)
  skip
  cases hc5
 try simp only [o1,o2,o3,o4,o5,o6,o7,o8,o9,oa] at hc1
 refine wp_exit ?_
 refine k6 _ _ ?_
 refine sS H fun K44 k44=>sr 2 rfl<|sE ?_;clear H a;intro a H
 refine k44 _ ?_;clear k44 K44
 refine wp_ret ?_
 refine ret1 (fn:=Tryz.f95) rfl H rfl ?_
 obtain rfl:nx=pr.length:=by have:=hnx0.le;omega
 rw [Qt hnx0 (by omega) (by omega)] at S
 exact ⟨_,_,rfl,(S.sel [1] G G)⟩
end
section
section
variable {P:Program} {L:List (Nat×Value)} {w:World} {d:Option Nat} {ty:TypeId} {pos:String} {af:Array Edge} {g:Option (Nat×Bool)}
theorem Mq {x:Operand} {t e n c:Nat} {yt:TypeId} {A:Option Addr} (hu:SlT P t e) (hx:ev L x=some (.slice A n c)):Does P L ⟨d,.binOp .eql t x (.const (.slice none 0 0)) yt,ty,pos,af,g⟩ w (.bool A.isNone):=fun ρ hρ=>by
  have h2:=hρ (.const (.slice none 0 0)) _ rfl
  have e2:∀ D:Nat,(Op.equalIn (D+1) t (.slice A n c) (.slice none 0 0)).run P w = .ok A.isNone w:=fun D=>by
    cases A <;> simp [Op.equalIn,bT hu]
  have e3:(binOp .eql t (.slice A n c) (.slice none 0 0)).run P w = .ok (.bool A.isNone) w:=by
    simp only [binOp,Op.equal,Sem.run_bind]
    rw [show Op.maxDepth=9999+1 from rfl,e2]
    rfl
  simp only [execOp,hρ _ _ hx,h2]
  simp [eqGuard,Op.eqGuardIn,e3]
end
def mx0 (f:Nat→Int):Nat→Int
  | 0=>0
  | n+1=>max (mx0 f n) (f n)
section
variable {f:Nat→Int} {n k:Nat} {m:Int}
theorem xM:∀ n,0≤mx0 f n:=by
  intro n
  induction n with
  | zero=>exact Int.le_refl 0
  | succ n ih=>rw [mx0];omega
theorem Mr:∀ n k,k<n→f k≤mx0 f n:=by
  intro n
  induction n with
  | zero=>intro k hk;omega
  | succ n ih=>
    intro k hk
    rw [mx0]
    by_cases e:k=n
    · subst e;omega
    · have:=ih k (by omega);omega
theorem Cn (h0:0≤m):∀ n,(∀ k,k<n→f k≤m)→mx0 f n≤m:=by
  intro n
  induction n with
  | zero=>intro _;exact h0
  | succ n ih=>
    intro h
    have h1:=ih fun k hk=>h k (by omega)
    have h2:=h n (by omega)
    rw [mx0];omega
def ext0 (f:Nat→Int) (n k:Nat):Int:=if k<n then f k else 0
theorem We (h1:∀ k,k<n+1→ext0 f n k≤m) (h2:∃ k,k<n+1∧ext0 f n k=m):m=mx0 f n:=by
  have h3:∀ k,k<n→f k≤m:=fun k hk=>by
    have:=h1 k (by omega)
    unfold ext0 at this
    rw [if_pos hk] at this
    exact this
  have h0:0≤m:=by
    have:=h1 n (by omega)
    unfold ext0 at this
    rw [if_neg (Nat.lt_irrefl n)] at this
    exact this
  have h4:=Cn h0 n h3
  obtain ⟨k,hk,e⟩:=h2
  unfold ext0 at e
  split at e
  · rename_i hkn
    have:=Mr (f:=f) n k hkn
    omega
  · have:=xM (f:=f) n
    omega
theorem Ro (h1:∀ q,q<k→f q≤m) (h2:∃ q,q<k∧f q=m):(∀ q,q<k+1→f q≤max m (f k))∧∃ q,q<k+1∧f q=max m (f k):=by
  refine ⟨fun q hq=>?_,?_⟩
  · by_cases e:q=k
    · subst e;omega
    · have:=h1 q (by omega);omega
  · by_cases h:m≤f k
    · exact ⟨k,by omega,by omega⟩
    · obtain ⟨q,hq,e⟩:=h2
      exact ⟨q,by omega,by omega⟩
theorem Rp {v:Value} (hv:v = .int .i64 0):∀ k j,k<n+1→j<1→capp n (icF f) (fun _ _=>v) k j=icF (ext0 f n) k j:=fun k j hk hj=>by
  unfold capp icF ext0
  by_cases e:k<n
  · rw [if_pos e,if_pos e]
  · rw [if_neg e,if_neg e,hv]
end
def lngV (ca:List Cr) (pr:List Pr) (sh:List Int):Int:=mx0 (fun i=>mx0 (waitV (ca.getD i Cr.zero) pr (shP sh i)) pr.length) ca.length
def gvB (ca:List Cr) (p:Pr) (k:Int):Bool:=decide (0≤k∧k<ca.length)&&inB (ca.getD k.toNat Cr.zero) p
structure ShOk (ca:List Cr) (pr:List Pr) (sh:List Int):Prop where
  len:sh.length=pr.length
  all:∀ k,k<pr.length→gvB ca (pr.getD k Pr.zero) (sh.getD k 0)=true
section
variable {ca:List Cr} {pr:List Pr} {sh:List Int} {i q:Nat}
theorem lW {p:Pr} {k:Int}:gvB ca p k=true↔(0≤k∧k<ca.length)∧(ca.getD k.toNat Cr.zero).lo≤p.fl∧p.fl≤(ca.getD k.toNat Cr.zero).hi:=by
  unfold gvB inB
  rw [Bool.and_eq_true,Bool.and_eq_true,decide_eq_true_eq,decide_eq_true_eq,decide_eq_true_eq]
theorem Zf (hG:GOk ca pr) (hS:ShOk ca pr sh) (hi:i<ca.length) (hq:q<pr.length) (h:shP sh i q=true):0≤(pr.getD q Pr.zero).fl∧(pr.getD q Pr.zero).fl≤5:=by
  have h1:=of_decide_eq_true h
  have h2:=lW.1 (hS.all q hq)
  rw [h1,Int.toNat_natCast] at h2
  have h3:=iV.1 (hG.car i hi)
  omega
end
theorem Wg (f:Nat→Int) (n:Nat) (A:Option Addr) (cp:Nat) (w:World) (hl:InS w noF 1 A (n+1) (icF f)) (hn:n≤1000) :
    Calls Tryz.prog 94 [.slice A (n+1) cp].toArray w (Ret (fun u w'=>∃ m:Int,u = .int .i64 m∧(∀ k,k<n+1→f k≤m)∧(∃ k,k<n+1∧f k=m)∧St w noF [] w')):=by
 refine enter Tryz.func94 rfl Tryz.ntmps94 rfl (fun a H=>?_)
 have S:=St.start w
 refine sS H fun K1 k1=>sr 1 rfl<|sE ?_;clear H a;intro a H
 refine k1 _ ?_;clear k1 K1
 refine wp_seq_k fun K2 k2=>?_
 refine sS H fun K3 k3=>sr 1 rfl<|sL aW rfl<|sr 1 rfl<|sE ?_;clear H a;intro a H
 refine k3 _ ?_;clear k3 K3
 refine condL H rfl (fun hc1=>?_) (fun hc1=>?_)
 ·skip
  exfalso;omega
 refine wp_skip ?_
 refine k2 _ _ ?_
 refine sS H fun K4 k4=>sr 1 rfl<|sI aW bC G G (hl.adr (by omega)) (by omega) (by omega)<|slm aD rfl (hl.rd S (k:=0) (j:=0) (by omega) (by decide))<|sr 1 rfl<|sE ?_;clear H a;intro a H
 refine k4 _ ?_;clear k4 K4
 refine wp_seq_k fun K5 k5=>?_
 refine sS H fun K6 k6=>sr 1 rfl<|sE ?_;clear H a;intro a H
 refine k6 _ ?_;clear k6 K6
 refine wp_block ?_
 refine loop_st (X:=Nat×Int) (R0:=_) [0] H rfl (fun ⟨k,m⟩=>[(3,.int .i64 m),(4,.int .i64 (k:Int))]) (fun ⟨k,m⟩=>[]) (fun g ⟨k,m⟩=>((1≤k∧k≤n+1)∧g+k=n+1)∧(∀ q,q<k→f q≤m)∧∃ q,q<k∧f q=m) (n) (1,f 0) ?_ (S.sel [] G G) (H.keep [3,4,0] rfl) ?_
 · exact ⟨⟨⟨by omega,by omega⟩,by omega⟩,fun q hq=>by obtain rfl:q=0:=(by omega);exact Int.le_refl _,0,by omega,rfl⟩
 clear H S a
 intro g1 x1 a w1 hp S H K7 k7
 obtain ⟨k,m⟩:=x1
 dsimp only at hp S H
 obtain ⟨⟨hk1,hgk⟩,hm1,hm2⟩:=hp
 refine wp_seq_k fun K8 k8=>?_
 refine sS H fun K9 k9=>sr 2 rfl<|sL aW rfl<|sr 1 rfl<|sE ?_;clear H a;intro a H
 refine k9 _ ?_;clear k9 K9
 refine condL H rfl (fun hc2=>?_) (fun hc2=>?_)
 ·skip
  refine wp_skip ?_
  refine k8 _ _ ?_
  refine wp_seq_k fun K10 k10=>?_
  refine wp_block ?_
  replace H:=H.keep [0,3,4] rfl
  refine sO H<|sr 3 rfl<|si aW bC G G (hl.adr (by omega)) (by omega)<|slm aD rfl (hl.rd S (by omega) (by omega))<|sd (iY G G)<|sr 1 rfl<|sE ?_;clear H a;intro a H
  refine k10 _ _ ?_
  replace H:=H.keep [0,3,4] rfl
  refine sO H<|sr 1 rfl<|sd (aK G G (by unfold i64ok;omega))<|sr 1 rfl<|sE ?_;clear H a;intro a H
  exact k7 (g1-1) (k+1,max m (f k)) a _ (by omega) (⟨⟨⟨by omega,by omega⟩,by omega⟩,Ro hm1 hm2⟩) (S.sel [] G G) (H.keep [3,4,0] rfl)
 refine wp_exit ?_
 refine k5 _ _ ?_
 refine sS H fun K13 k13=>sr 2 rfl<|sE ?_;clear H a;intro a H
 refine k13 _ ?_;clear k13 K13
 refine wp_ret ?_
 refine ret1 (fn:=Tryz.f94) rfl H rfl ?_
 obtain rfl:k=n+1:=by omega
 exact ⟨_,rfl,hm1,hm2,(S.sel [] G G)⟩
theorem Mt (pe:List Int) (BA:Option Addr) (bc:Nat) (w:World) (hpe:InS w noF 1 BA pe.length (icl pe)) (hpl8:pe.length≤1000) :
    Calls Tryz.prog 56 [.slice BA pe.length bc].toArray w (Ret (fun u w'=>∃ A c,u = .slice A pe.length c∧St w noF [ownM 3 1 A pe.length c (icl pe)] w')):=by
 refine enter Tryz.func56 rfl Tryz.ntmps56 rfl (fun a H=>?_)
 have S:=St.start w
 refine sS H fun K1 k1=>sr 1 rfl<|sE ?_;clear H a;intro a H
 refine k1 _ ?_;clear k1 K1
 refine wp_seq_k fun K2 k2=>?_
 refine sS H fun K3 k3=>sr 1 rfl<|sd (Mq aW rfl)<|sE ?_;clear H a;intro a H
 refine k3 _ ?_;clear k3 K3
 refine cond_ H rfl (fun hc1=>?_) (fun hc1=>?_)
 ·skip
  try simp only [o1,o2,o3,o4,o5,o6,o7,o8,o9,oa] at hc1
  refine sS H fun K4 k4=>sr 1 rfl<|sE ?_;clear H a;intro a H
  refine k4 _ ?_;clear k4 K4
  refine wp_ret ?_
  refine ret1 (fn:=Tryz.f56) rfl H rfl ?_
  have h0:pe.length=0:=by
    rcases Nat.eq_zero_or_pos pe.length with h|h
    · exact h
    · exfalso
      obtain ⟨b,o,rfl,_⟩:=hpe h
      cases hc1
  have h9:pe=[]:=List.eq_nil_of_length_eq_zero h0
  subst h9
  exact ⟨none,0,rfl,(S.sel [] G G).newNil _ _ _⟩
 try simp only [o1,o2,o3,o4,o5,o6,o7,o8,o9,oa] at hc1
 refine wp_skip ?_
 refine k2 _ _ ?_
 refine seq_list fun K5 k5=>?_
 refine yN H rfl S aW bC (icl pe) ?_;clear H a S;intro A1 _ a S H
 refine ls 1 H<|sr 1 rfl<|sE ?_;clear H a;intro a H
 refine cB H rfl S aW bC fG nF G G (i:=0) G G G ((hpe.now S)) (fun _ _ _ _=>rfl) (by omega) (by omega) ?_;clear H a S;intro A2 c2 _ a S H
 rw [Nat.zero_add] at H
 replace S:=S.recell (i:=0) (n:=pe.length) (cell':=icl pe) (by simp only [Nat.zero_add];rfl) (fun k j hk hj=>by unfold capp;rw [if_neg (by omega)];rfl)
 obtain ⟨pA,rfl⟩:∃ y,y=A2:=⟨_,rfl⟩
 obtain ⟨pC,rfl⟩:∃ y,y=c2:=⟨_,rfl⟩
 refine ls 1 H<|sr 1 rfl<|sE ?_;clear H a;intro a H
 refine k5 _ _ ?_;clear k5 K5
 refine wp_ret ?_
 refine ret1 (fn:=Tryz.f56) rfl H rfl ?_
 exact ⟨_,_,rfl,(S.sel [0] G G)⟩
theorem tU (ca:List Cr) (CA:Option Addr) (cc:Nat) (pr:List Pr) (RA:Option Addr) (rc:Nat) (sh:List Int) (SA:Option Addr) (sc:Nat) (w:World) (hca:InS w noF 5 CA ca.length (cU ca)) (hcn:ca.length≤9223372036854775807) (hpr:InS w noF 2 RA pr.length (fF pr)) (hpn:pr.length≤9223372036854775807) (hsh:InS w noF 1 SA sh.length (icl sh)) (hG:GOk ca pr) (hS:ShOk ca pr sh) :
    Calls Tryz.prog 55 [.slice CA ca.length cc,.slice RA pr.length rc,.slice SA sh.length sc].toArray w (Ret (fun u w'=>u = .int .i64 (lngV ca pr sh)∧St w noF [] w')):=by
 have hpl:=hG.prl
 have hso:=Uf hG.time
 have hsl:=hS.len
 refine enter Tryz.func55 rfl Tryz.ntmps55 rfl (fun a H=>?_)
 have S:=St.start w
 refine seq_list fun K1 k1=>?_
 refine aO H rfl S G G ?_;clear H a S;intro b5 _ a hb5 hbw5 S H
 refine ls 1 H<|sr 1 rfl<|sE ?_;clear H a;intro a H
 refine k1 _ _ ?_;clear k1 K1
 refine sS H fun K2 k2=>sr 1 rfl<|sE ?_;clear H a;intro a H
 refine k2 _ ?_;clear k2 K2
 refine wp_seq_k fun K3 k3=>?_
 refine sS H fun K4 k4=>sr 1 rfl<|sL eX rfl<|sr 1 rfl<|sE ?_;clear H a;intro a H
 refine k4 _ ?_;clear k4 K4
 refine wp_block ?_
 refine loop_st (X:=Nat) (R0:=_) [1,5,10,11] H rfl (fun i=>[(7,.int .i64 (mx0 (fun i=>mx0 (waitV (ca.getD i Cr.zero) pr (shP sh i)) pr.length) i)),(12,.int .i64 (i:Int))]) (fun i=>[]) (fun g i=>i≤ca.length∧g+i=ca.length) (ca.length) 0 ?_ (S.sel [0] G G) (H.keep [7,12,1,5,10,11] rfl) ?_
 · exact ⟨by omega,by omega⟩
 clear H S a
 intro g1 x1 a w1 hp S H K5 k5
 obtain ⟨i,rfl⟩:∃ y,y=x1:=⟨_,rfl⟩
 refine sS H fun K6 k6=>sr 1 rfl<|sE ?_;clear H a;intro a H
 refine k6 _ ?_;clear k6 K6
 refine wp_seq_k fun K7 k7=>?_
 refine condL H rfl (fun hc1=>?_) (fun hc1=>?_)
 ·skip
  refine wp_skip ?_
  refine k7 _ _ ?_
  refine wp_seq_k fun K8 k8=>?_
  refine wp_block ?_
  have hi:i<ca.length:=by omega
  refine seq_list fun K9 k9=>?_
  refine ls 3 H<|sr 1 rfl<|si eX eU G G (hca.adr (by omega)) (by omega)<|sd ((aU kT eU rfl S hca (by omega) (by omega)))<|sE ?_;clear H a;intro a H
  refine aI H rfl S fG ?_;clear H a S;intro b8 _ a hb8 hbw8 S H
  refine aI H rfl S Jx ?_;clear H a S;intro b9 _ a hb9 hbw9 S H
  refine aB H S (i:=1) G G G G bC G G ?_
  clear H a S;intro _ a S H
  refine aB H S (i:=0) G G G G eU G G ?_
  clear H a S;intro _ a S H
  refine k9 _ _ ?_;clear k9 K9
  replace H:=H.keep [1,5,7,8,9,10,11,12] rfl
  refine one_list ?_
  refine ls 4 H<|sr 1 rfl<|sd ((aE kT eU rfl S (i:=0) G G))<|sr 2 rfl<|sE ?_;clear H a;intro a H
  have hcl9:=Mp (ca.getD i Cr.zero) pr RA rc sh SA sc i _ _ _ (hG.car i hi) (hpr.now S) hpl hso (BxIn.of S (i:=2) rfl (Nat.succ_pos _)) (BxIn.of S (i:=1) rfl (Nat.succ_pos _)) (hsh.now S) hsl (fun q hq h=>Zf hG hS hi hq h)
  refine aA H G G Tryz.func95 G G hcl9 ?_;clear H a hcl9
  rintro _ _ a ⟨A9,c9,rfl,S2⟩ H
  replace S:=S.call S2;clear S2
  refine bB H rfl S aW bC fG G G G G G G G G G ?_;clear H a S;intro A1 _ a hA1 S H
  replace S:=S.recell (i:=0) rfl (cell':=fun _ _=>Value.int .i64 0) Mn
  refine cB H rfl S aW bC fG nF G G (i:=1) G G G (ownM.inS S (i:=0) rfl) (fun _ _ _ _=>rfl) (by omega) (by omega) ?_;clear H a S;intro A2 c2 _ a S H
  obtain ⟨A8,rfl⟩:∃ y,y=A2:=⟨_,rfl⟩
  obtain ⟨c8,rfl⟩:∃ y,y=c2:=⟨_,rfl⟩
  replace S:=S.recell (i:=1) rfl (cell':=icF (ext0 (waitV (ca.getD i Cr.zero) pr (shP sh i)) pr.length)) (Rp rfl)
  have hcl9:=Wg (ext0 (waitV (ca.getD i Cr.zero) pr (shP sh i)) pr.length) pr.length A8 c8 _ (ownM.inS S (i:=1) rfl) (by omega)
  refine aA H G G Tryz.func94 G G hcl9 ?_;clear H a hcl9
  rintro _ _ a ⟨m9,rfl,hm1,hm2,S2⟩ H
  replace S:=S.call S2;clear S2
  obtain rfl:=We hm1 hm2
  refine ls 2 H<|sd (iY G G)<|sr 1 rfl<|sE ?_;clear H a;intro a H
  refine k8 _ _ ?_
  replace H:=H.keep [1,5,7,10,11,12] rfl
  refine sO H<|sd (aK G G (by unfold i64ok;omega))<|sr 1 rfl<|sE ?_;clear H a;intro a H
  exact k5 (g1-1) (i+1) a _ (by omega) (⟨by omega,by omega⟩) (S.sel [4] G G) (H.keep [7,12,1,5,10,11] rfl)
 refine wp_exit ?_
 refine k3 _ _ ?_
 refine sS H fun K12 k12=>sr 2 rfl<|sE ?_;clear H a;intro a H
 refine k12 _ ?_;clear k12 K12
 refine wp_ret ?_
 refine ret1 (fn:=Tryz.f55) rfl H rfl ?_
 obtain rfl:i=ca.length:=by omega
 exact ⟨rfl,(S.sel [] G G)⟩
theorem Ag (ca:List Cr) (CA:Option Addr) (cc:Nat) (p:Pr) (k:Int) (w:World) (hca:InS w noF 5 CA ca.length (cU ca)) (hcn:ca.length≤9223372036854775807) :
    Calls Tryz.prog 57 [.slice CA ca.length cc,.agg [.int .i64 p.at',.int .i64 p.fl].toArray,.int .i64 k].toArray w (Ret (fun u w'=>u = .bool (gvB ca p k)∧St w noF [] w')):=by
 refine enter Tryz.func57 rfl Tryz.ntmps57 rfl (fun a H=>?_)
 have S:=St.start w
 refine seq_list fun K1 k1=>?_
 refine aO H rfl S G G ?_;clear H a S;intro b4 _ a hb4 hbw4 S H
 refine ls 1 H<|sr 1 rfl<|sE ?_;clear H a;intro a H
 refine k1 _ _ ?_;clear k1 K1
 replace H:=H.keep [0,2,4] rfl
 replace S:=S.drew
 refine sD H fun K2 k2=>sr 2 rfl<|sL eX rfl<|sd (aS G G (by unfold i64ok;omega))<|sc rfl Tryz.func88 G G (gA _ _ _ _)<|sr 1 rfl<|sg 13 5 12 25 true G G (fun hg6=>by
     have hq6:=hg6;try simp only [o1,o2,o3,o4,o5,o6,o7,o8,o9,oa] at hq6
     exact sy hg6<|sf jH rfl<|sy hg6<|sl S 0 aD G G G<|sy hg6<|sr 1 rfl<|sy hg6<|sr 1 rfl<|sy hg6<|sI eX eU G G (hca.adr (by omega)) (by omega) (by omega)<|sy hg6<|sp jS rfl<|sy hg6<|slm aD rfl (hca.rd S (by omega) (by omega))<|sy hg6<|sr 1 rfl<|sy hg6<|sr 1 rfl<|sy hg6<|sI eX eU G G (hca.adr (by omega)) (by omega) (by omega)<|sy hg6<|sp jT rfl<|sy hg6<|slm aD rfl (hca.rd S (by omega) (by omega))<|sy hg6<|sc rfl Tryz.func88 G G (gA _ _ _ _)<|sz 13 G G G)<|sa G G G<|sr 1 rfl<|sE ?_;clear H a;intro a H
 refine k2 _ ?_;clear k2 K2
 refine wp_ret ?_
 refine ret1 (fn:=Tryz.f57) rfl H rfl ?_
 refine ⟨congrArg Value.bool ?_,(S.sel [] G G)⟩
 rw [Bool.eq_iff_iff,lW]
 simp only [Bool.and_eq_true,decide_eq_true_eq]
 omega
theorem tV (ca:List Cr) (CA:Option Addr) (cc:Nat) (pr:List Pr) (RA:Option Addr) (rc:Nat) (sh:List Int) (SA:Option Addr) (sc:Nat) (w:World) (hca:InS w noF 5 CA ca.length (cU ca)) (hcn:ca.length≤9223372036854775807) (hpr:InS w noF 2 RA pr.length (fF pr)) (hpn:pr.length≤9223372036854775807) (hsh:InS w noF 1 SA sh.length (icl sh)) (hz:grpE ca pr=0) (hS:ShOk ca pr sh) :
    Calls Tryz.prog 19 [.slice CA ca.length cc,.slice RA pr.length rc,.slice SA sh.length sc].toArray w (Ret (fun u w'=>u = .tuple #[.int .i64 (lngV ca pr sh),.int .i64 0]∧St w noF [] w')):=by
 have hG:=Bn hz
 have hpl:=hG.prl
 have hsl:=hS.len
 refine enter Tryz.func19 rfl Tryz.ntmps19 rfl (fun a H=>?_)
 have S:=St.start w
 refine sS H fun K1 k1=>sr 2 rfl<|sE ?_;clear H a;intro a H
 refine k1 _ ?_;clear k1 K1
 refine wp_seq_k fun K2 k2=>?_
 refine seq_list fun K3 k3=>?_
 refine ls 2 H<|sr 2 rfl<|sE ?_;clear H a;intro a H
 refine aA H G G Tryz.func53 G G (eO ca CA cc pr RA rc _ (hca.now S) hcn (hpr.now S) hpn) ?_;clear H a
 rintro _ _ a ⟨rfl,S2⟩ H
 replace S:=S.call S2;clear S2
 rw [hz] at H
 refine ls 1 H<|sr 1 rfl<|sE ?_;clear H a;intro a H
 refine k3 _ _ ?_;clear k3 K3
 refine sS H fun K4 k4=>sr 2 rfl<|sE ?_;clear H a;intro a H
 refine k4 _ ?_;clear k4 K4
 refine cond_ H rfl (fun hc1=>?_) (fun hc1=>?_)
 ·skip
  skip
  simp at hc1
 skip
 refine wp_skip ?_
 refine k2 _ _ ?_
 refine wp_seq_k fun K5 k5=>?_
 replace H:=H.keep [0,1,2] rfl
 refine sS H fun K6 k6=>sr 1 rfl<|sL aW rfl<|sr 1 rfl<|sL dS rfl<|sr 1 rfl<|sE ?_;clear H a;intro a H
 refine k6 _ ?_;clear k6 K6
 refine condN H rfl (fun hc2=>?_) (fun hc2=>?_)
 ·skip
  exfalso;omega
 refine wp_skip ?_
 refine k5 _ _ ?_
 refine wp_seq_k fun K7 k7=>?_
 refine sS H fun K8 k8=>sr 1 rfl<|sL dS rfl<|sr 1 rfl<|sE ?_;clear H a;intro a H
 refine k8 _ ?_;clear k8 K8
 refine wp_block ?_
 refine loop_st (X:=Nat) (R0:=_) [0,1,2,22,23] H rfl (fun k=>[(24,.int .i64 (k:Int))]) (fun k=>[]) (fun g k=>k≤pr.length∧g+k=pr.length) (pr.length) 0 ?_ (S.sel [] G G) (H.keep [24,0,1,2,22,23] rfl) ?_
 · exact ⟨by omega,by omega⟩
 clear H S a
 intro g1 x1 a w1 hp S H K9 k9
 obtain ⟨k,rfl⟩:∃ y,y=x1:=⟨_,rfl⟩
 refine sS H fun K10 k10=>sr 1 rfl<|sE ?_;clear H a;intro a H
 refine k10 _ ?_;clear k10 K10
 refine wp_seq_k fun K11 k11=>?_
 refine condL H rfl (fun hc3=>?_) (fun hc3=>?_)
 ·skip
  refine wp_skip ?_
  refine k11 _ _ ?_
  refine wp_seq_k fun K12 k12=>?_
  refine wp_block ?_
  refine seq_list fun K13 k13=>?_
  refine ls 3 H<|sr 1 rfl<|si dS dK G G (hpr.adr (by omega)) (by omega)<|sd ((aU mG dK rfl S hpr (by omega) (by omega)))<|sE ?_;clear H a;intro a H
  refine aI H rfl S Bt ?_;clear H a S;intro b10 _ a hb10 hbw10 S H
  refine ls 1 H<|sr 1 rfl<|sE ?_;clear H a;intro a H
  refine aB H S (i:=0) G G G G dK G G ?_
  clear H a S;intro _ a S H
  refine k13 _ _ ?_;clear k13 K13
  replace H:=H.keep [0,1,2,9,10,22,23,24] rfl
  replace S:=S.drew
  refine seq_wq [(0,true),(1,true),(2,true),(3,true),(4,true),(5,true),(6,false),(7,true)] (by kernel_rfl) (by kernel_rfl) (S.sel [0] G G) fun K14 k14=>?_
  refine qF H<|qr 1 rfl<|qd rfl (fun _ S=>(aE mG dK rfl S (i:=0) G G))<|qr 2 rfl<|qd rfl (fun _ S=>aZ aW bC G G (hsh.adr (by omega)) (by omega))<|qd rfl (fun _ S=>aG aD rfl (hsh.rd S (by omega) (by omega)))<|qK ?_;clear H a;intro a H
  refine aV rfl ?_
  refine aA H G G Tryz.func57 G G (Ag ca CA cc (pr.getD k Pr.zero) (sh.getD k 0) _ (hca.now S) hcn) ?_;clear H a
  rintro _ _ a ⟨rfl,S2⟩ H
  replace S:=S.call S2;clear S2
  refine wpList_nil (And.intro (S.sel [0] G G) ?_)
  refine qF H<|qr 1 rfl<|qK ?_;clear H a;intro a H
  refine bO ?_
  refine k14 _ _ ?_
  clear k14 K14
  refine cond_ H rfl (fun hc4=>?_) (fun hc4=>?_)
  ·skip
   try simp only [o1,o2,o3,o4,o5,o6,o7,o8,o9,oa] at hc4
   exfalso;rw [hS.all k (by omega)] at hc4;simp at hc4
  try simp only [o1,o2,o3,o4,o5,o6,o7,o8,o9,oa] at hc4
  refine wp_skip ?_
  refine k12 _ _ ?_
  replace H:=H.keep [0,1,2,22,23,24] rfl
  refine sO H<|sd (aK G G (by unfold i64ok;omega))<|sr 1 rfl<|sE ?_;clear H a;intro a H
  exact k9 (g1-1) (k+1) a _ (by omega) (⟨by omega,by omega⟩) (S.sel [] G G) (H.keep [24,0,1,2,22,23] rfl)
 refine wp_exit ?_
 refine k7 _ _ ?_
 refine seq_list fun K16 k16=>?_
 refine ls 3 H<|sr 3 rfl<|sE ?_;clear H a;intro a H
 refine aA H G G Tryz.func55 G G (tU ca CA cc pr RA rc sh SA sc _ (hca.now S) hcn (hpr.now S) hpn (hsh.now S) hG hS) ?_;clear H a
 rintro _ _ a ⟨rfl,S2⟩ H
 replace S:=S.call S2;clear S2
 refine ls 2 H<|sr 2 rfl<|sE ?_;clear H a;intro a H
 refine k16 _ _ ?_;clear k16 K16
 refine wp_ret ?_
 refine ret2 (fn:=Tryz.f19) rfl H G G ?_
 exact ⟨rfl,(S.sel [] G G)⟩
end
end Go.Proofs.YtinghmelkmblmaaGreat
