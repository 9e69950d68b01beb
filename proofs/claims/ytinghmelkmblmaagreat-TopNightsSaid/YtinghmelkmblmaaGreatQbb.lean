/- Part 2 of the proof. -/
import Derived.Test.YtinghmelkmblmaaGreatQba
namespace Go.Proofs.YtinghmelkmblmaaGreat
open Go.RowKit
set_option linter.unusedVariables false
set_option linter.unusedSimpArgs false
set_option maxRecDepth 100000
set_option maxHeartbeats 4000000
section
structure Psg where
  a:Int
  b:Int
  kind:Int
  ticks:Int
  wide:Int
  mach:Int
  still:Int
def Psg.zero:Psg:=⟨0,0,0,0,0,0,0⟩
def Psg.cell (p:Psg):Nat→Value
  | 0 => .int .i64 p.a
  | 1 => .int .i64 p.b
  | 2 => .int .i64 p.kind
  | 3 => .int .i64 p.ticks
  | 4 => .int .i64 p.wide
  | 5 => .int .i64 p.mach
  | _ => .int .i64 p.still
def pcell (l:List Psg) (k j:Nat):Value:=(l.getD k Psg.zero).cell j
structure Mv where
  pas:Int
  fr:Int
  at_:Int
  many:Int
def Mv.zero:Mv:=⟨0,0,0,0⟩
def Mv.none:Mv:=⟨-1,0,0,0⟩
def Mv.cells (m:Mv):List Value:=[.int .i64 m.pas,.int .i64 m.fr,.int .i64 m.at_,.int .i64 m.many]
def Mv.cell (m:Mv):Nat→Value
  | 0 => .int .i64 m.pas
  | 1 => .int .i64 m.fr
  | 2 => .int .i64 m.at_
  | _ => .int .i64 m.many
structure Ent where
  to:Nat
  room:Int
  back:Nat
  mv:Mv
def Ent.zero:Ent:=⟨0,0,0,Mv.zero⟩
def Ent.cell (x:Ent):Nat→Value
  | 0 => .int .i64 (x.to:Int)
  | 1 => .int .i64 x.room
  | 2 => .int .i64 (x.back:Int)
  | 3 => .int .i64 x.mv.pas
  | 4 => .int .i64 x.mv.fr
  | 5 => .int .i64 x.mv.at_
  | _ => .int .i64 x.mv.many
abbrev Tab:=Nat→List Ent
def tlen (T:Tab) (i:Nat):Nat:=(T i).length
def joinT (T:Tab) (f t:Nat) (room:Int) (mv:Mv):Tab:=
  upd (upd T f (T f++[⟨t,room,(T t).length,mv⟩])) t (T t++[⟨f,0,(T f).length,Mv.none⟩])
def Tab.net (T:Tab) (k:Nat):Net:=⟨k,tlen T,fun i j=>((T i).getD j Ent.zero).to,fun i j=>((T i).getD j Ent.zero).back⟩
def Tab.room (T:Tab):RM:=fun i j=>((T i).getD j Ent.zero).room
def Tab.mv (T:Tab):Nat→Nat→Mv:=fun i j=>((T i).getD j Ent.zero).mv
def lcl (L:Nat→Int) (i _j:Nat):Value := .int .i64 (L i)
def hasI (l:List Int) (x:Int):Bool:=l.any fun y=>decide (x=y)
structure Hd where
  pas:Int
  fr:Int
  to:Int
  ticks:Int
  wide:Int
def Hd.zero:Hd:=⟨0,0,0,0,0⟩
def Hd.cells (h:Hd):List Value:=[.int .i64 h.pas,.int .i64 h.fr,.int .i64 h.to,.int .i64 h.ticks,.int .i64 h.wide]
def bitI (out m:Int):Int:=out/2^m.toNat%2
def Br (out:Int) (p:Psg):Int:=if p.kind=3∧¬ bitI out p.mach=0 then p.still else p.ticks
def Qz (out:Int) (p:Psg):Bool:=!(decide (p.kind=3)&&decide (bitI out p.mach=0))
def hdsA (out:Int) (xs:List Int) (k:Nat) (p:Psg):List Hd:=if hasI xs p.a=true then [] else [⟨k,p.a,p.b,Br out p,p.wide⟩]
def hdsB (out:Int) (xs:List Int) (k:Nat) (p:Psg):List Hd:=if (Qz out p&&!hasI xs p.b)=true then [⟨k,p.b,p.a,Br out p,p.wide⟩] else []
def hdsOf (out:Int) (xs:List Int) (k:Nat) (p:Psg):List Hd:=if p.kind=4 then [] else hdsA out xs k p++hdsB out xs k p
def hdsTo (out:Int) (xs:List Int) (ps:List Psg):Nat→List Hd
  | 0=>[]
  | k+1=>hdsTo out xs ps k++hdsOf out xs k (ps.getD k Psg.zero)
def hds (out:Int) (xs:List Int) (ps:List Psg):List Hd:=hdsTo out xs ps ps.length
section
variable {out:Int} {xs:List Int} {ps:List Psg} {k:Nat}
end
structure Jn where
  f:Nat
  t:Nat
  room:Int
  mv:Mv
def joins (J:List Jn):Tab:=J.foldl (fun T j=>joinT T j.f j.t j.room j.mv) (fun _=>[])
theorem Ah (J:List Jn) (j:Jn):joins (J++[j])=joinT (joins J) j.f j.t j.room j.mv:=by unfold joins;rw [List.foldl_append];rfl
theorem Dw (J:List Jn) (hne:∀ j ∈ J,j.f≠j.t) (i:Nat):(joins J i).length≤J.length:=by
  have key:∀ (n:Nat) (J:List Jn),J.length=n→(∀ j ∈ J,j.f≠j.t)→(joins J i).length≤n:=by
    intro n
    induction n with
    | zero => intro J h _;have:J=[]:=List.eq_nil_of_length_eq_zero h
              subst this;exact Nat.le_refl 0
    | succ n ih=>
      intro J h hn
      obtain ⟨J',j,rfl⟩:∃ J' j,J=J'++[j]:=⟨J.dropLast,J.getLast (by intro e;subst e;simp at h),(List.dropLast_concat_getLast _).symm⟩
      have h1:=ih J' (by simpa using h) (fun x hx=>hn x (List.mem_append_left _ hx))
      have h2:=hn j (List.mem_append_right _ (by simp))
      rw [Ah]
      unfold joinT upd
      split
      · rename_i e
        subst e
        simp;omega
      · split
        · rename_i e;subst e;simp;omega
        · omega
  exact key _ J rfl hne
def nd (P t p:Nat):Nat:=P*t+p
def Ib:Int:=1099511627776
def jBeg (P T:Nat) (pe:List Int) (p:Nat):Jn:=⟨P*(T+1),nd P 0 p,pe.getD p 0,Mv.none⟩
def jWait (P p t:Nat):Jn:=⟨nd P t p,nd P (t+1) p,Ib,Mv.none⟩
def jExit (P T p t:Nat):Jn:=⟨nd P t p,P*(T+1)+1,Ib,Mv.none⟩
def Ra (P p n:Nat):List Jn:=(List.range n).map (jWait P p)
def Rb (P T p n:Nat):List Jn:=(List.range n).map (jExit P T p)
def Rc (P T:Nat) (pe xs:List Int) (p:Nat):List Jn:=jBeg P T pe p::(Ra P p T++(if hasI xs p=true then Rb P T p (T+1) else []))
def Bs (P T:Nat) (pe xs:List Int):Nat→List Jn
  | 0=>[]
  | p+1=>Bs P T pe xs p++Rc P T pe xs p
def jHead (P:Nat) (h:Hd) (t:Nat):Jn:=⟨nd P t h.fr.toNat,nd P (t+h.ticks.toNat) h.to.toNat,h.wide,⟨h.pas,h.fr,t,0⟩⟩
def Re (P:Nat) (h:Hd) (n:Nat):List Jn:=(List.range n).map (jHead P h)
def Ic (P T:Nat) (hs:List Hd):Nat→List Jn
  | 0=>[]
  | i+1=>Ic P T hs i++Re P (hs.getD i Hd.zero) (T+1-(hs.getD i Hd.zero).ticks.toNat)
def jAll (P T:Nat) (pe xs:List Int) (hs:List Hd):List Jn:=Bs P T pe xs P++Ic P T hs hs.length
section
variable {P T:Nat} {pe xs:List Int} {hs:List Hd}
def JOk (P T:Nat) (j:Jn):Prop:=j.f≠j.t∧j.f<P*(T+1)+2∧j.t<P*(T+1)+2
end
def allN (p:Nat→Bool):Nat→Bool
  | 0=>true
  | n+1=>allN p n&&p n
theorem bI {p:Nat→Bool}:∀ {n:Nat},allN p n=true↔∀ k,k<n→p k=true:=by
  intro n
  induction n with
  | zero=>exact ⟨fun _ k hk=>absurd hk (Nat.not_lt_zero k),fun _=>rfl⟩
  | succ n ih=>
    simp only [allN,Bool.and_eq_true,ih]
    constructor
    · rintro ⟨h1,h2⟩ k hk
      by_cases e:k=n
      · subst e;exact h2
      · exact h1 k (by omega)
    · intro h
      exact ⟨fun k hk=>h k (by omega),h n (by omega)⟩
theorem cC {p:Nat→Bool} {n:Nat} (h:allN p n=true) (hp:p n=true):allN p (n+1)=true:=by simp only [allN,h,hp];rfl
theorem fP {p:Nat→Bool} {n k:Nat} (hk:k<n) (h:p k=false):allN p n=false:=by
  cases ha:allN p n with
  | false=>rfl
  | true=>rw [bI.1 ha k hk] at h;cases h
def psgOk (P:Int) (p:Psg):Bool:=decide (0≤p.a∧p.a<P∧0≤p.b∧p.b<P∧p.a≠p.b∧1≤p.ticks∧p.ticks≤20∧1≤p.wide∧p.wide≤50 ∧
  ((p.kind=1∨p.kind=2∨p.kind=5)∧p.mach = -1∧p.still=0∨p.kind=3∧(0≤p.mach∧p.mach≤11)∧(1≤p.still∧p.still≤20)∨p.kind=4∧(0≤p.mach∧p.mach≤11)∧p.still=0))
def bW (ps:List Psg) (k:Nat):Int:=(ps.getD k Psg.zero).mach
def cntM (ps:List Psg) (m:Int) (k:Nat):Int:=sm (fun j=>if bW ps j=m then 1 else 0) k
theorem Bt {ps:List Psg} {m:Int} {k:Nat}:0≤cntM ps m k:=gT fun i _=>by split <;> omega
theorem Mh {ps:List Psg} {m:Int}:∀ k,cntM ps m k≤k:=by
  intro k
  induction k with
  | zero=>exact Int.le_refl 0
  | succ k ih=>unfold cntM at ih ⊢;rw [sm];split <;> omega
theorem Dx {ps:List Psg} {m:Int} {k:Nat}:cntM ps m k=0↔∀ j,j<k→bW ps j≠m:=by
  constructor
  · intro h j hj e
    have:=mQ (f:=fun j=>if bW ps j=m then 1 else 0) (fun i _=>by split <;> omega) h j hj
    simp [e] at this
  · intro h
    exact uV fun i hi=>if_neg (h i hi)
def pasOk (P:Int) (ps:List Psg) (k:Nat):Bool:=psgOk P (ps.getD k Psg.zero)&&decide (bW ps k<0∨cntM ps (bW ps k) k=0)
def exOk (P:Int) (xs:List Int) (k:Nat):Bool:=decide (0≤xs.getD k 0∧xs.getD k 0<P∧(k=0∨xs.getD (k-1) 0<xs.getD k 0))
def stOk (P:Int) (ps:List Psg) (xs:List Int):Bool:=(decide (1≤P∧P≤10∧ps.length≤24)&&allN (pasOk P ps) ps.length)&&allN (exOk P xs) xs.length
def stE (P:Int) (ps:List Psg) (xs:List Int):Int:=if stOk P ps xs=true then 0 else 80
theorem Bu {P:Int} {ps:List Psg} {xs:List Int} (h:¬ (1≤P∧P≤10∧ps.length≤24)):stE P ps xs=80:=by
  unfold stE stOk;rw [decide_eq_false h];rfl
theorem kQ {P:Int} {ps:List Psg} {xs:List Int} {k:Nat} (hk:k<ps.length) (h:pasOk P ps k=false):stE P ps xs=80:=by
  unfold stE stOk;rw [fP hk h,Bool.and_false];rfl
theorem Ps {P:Int} {ps:List Psg} {xs:List Int} {k:Nat} (hk:k<xs.length) (h:exOk P xs k=false):stE P ps xs=80:=by
  unfold stE stOk;rw [fP hk h,Bool.and_false];rfl
theorem Pt {P:Int} {ps:List Psg} {xs:List Int} (h1:1≤P∧P≤10∧ps.length≤24) (h2:allN (pasOk P ps) ps.length=true) (h3:allN (exOk P xs) xs.length=true):stE P ps xs=0:=by
  unfold stE stOk;rw [decide_eq_true h1,h2,h3];rfl
theorem Mi {P:Int} {ps:List Psg} {xs:List Int}:stE P ps xs=0↔stOk P ps xs=true:=by
  unfold stE;split <;> simp [*]
def CntMap (ps:List Psg) (k:Nat) (l:List (Int×Value)):Prop:=∀ m:Int,(getL l m).getD (.int .i64 0) = .int .i64 (cntM ps m k)
theorem CntMap.nil (ps:List Psg):CntMap ps 0 []:=fun m=>rfl
theorem CntMap.step {ps:List Psg} {k:Nat} {l:List (Int×Value)} (h:CntMap ps k l):CntMap ps (k+1) (setL l (bW ps k) (.int .i64 (cntM ps (bW ps k) k+1))):=by
  intro m
  rw [xF]
  unfold cntM
  rw [sm]
  by_cases e:m=bW ps k
  · subst e;rw [if_pos rfl,if_pos rfl];rfl
  · rw [if_neg e,if_neg (fun h=>e h.symm),Int.add_zero];exact h m
structure StV (P:Int) (ps:List Psg) (xs:List Int):Prop where
  size:1≤P∧P≤10∧ps.length≤24
  pas:∀ k,k<ps.length→psgOk P (ps.getD k Psg.zero)=true
  mach:∀ k,k<ps.length→0≤bW ps k→∀ j,j<k→bW ps j≠bW ps k
  ex:∀ k,k<xs.length→0≤xs.getD k 0∧xs.getD k 0<P∧(k=0∨xs.getD (k-1) 0<xs.getD k 0)
theorem nT {P:Int} {ps:List Psg} {xs:List Int} (h:stE P ps xs=0):StV P ps xs:=by
  have h1:=Mi.1 h
  unfold stOk at h1
  simp only [Bool.and_eq_true,decide_eq_true_eq] at h1
  obtain ⟨⟨h1,h2⟩,h3⟩:=h1
  refine ⟨h1,fun k hk=>?_,fun k hk h0=>?_,fun k hk=>?_⟩
  · have:=bI.1 h2 k hk
    unfold pasOk at this
    rw [Bool.and_eq_true] at this
    exact this.1
  · have:=bI.1 h2 k hk
    unfold pasOk at this
    simp only [Bool.and_eq_true,decide_eq_true_eq] at this
    exact Dx.1 (by omega)
  · have:=bI.1 h3 k hk
    unfold exOk at this
    simpa using this
theorem eE {P:Int} {p:Psg}:psgOk P p=true↔(0≤p.a∧p.a<P∧0≤p.b∧p.b<P∧p.a≠p.b∧1≤p.ticks∧p.ticks≤20∧1≤p.wide∧p.wide≤50 ∧
  ((p.kind=1∨p.kind=2∨p.kind=5)∧p.mach = -1∧p.still=0∨p.kind=3∧(0≤p.mach∧p.mach≤11)∧(1≤p.still∧p.still≤20)∨p.kind=4∧(0≤p.mach∧p.mach≤11)∧p.still=0)):=by
  unfold psgOk;rw [decide_eq_true_eq]
theorem eY {P:Int} {p:Psg} (h:¬ (0≤p.a∧p.a<P∧0≤p.b∧p.b<P∧p.a≠p.b∧1≤p.ticks∧p.ticks≤20∧1≤p.wide∧p.wide≤50 ∧
  ((p.kind=1∨p.kind=2∨p.kind=5)∧p.mach = -1∧p.still=0∨p.kind=3∧(0≤p.mach∧p.mach≤11)∧(1≤p.still∧p.still≤20)∨p.kind=4∧(0≤p.mach∧p.mach≤11)∧p.still=0))):psgOk P p=false:=by
  unfold psgOk;exact decide_eq_false h
def eO (P:Int) (pe:List Int):Bool:=allN (fun k=>decide (0≤pe.getD k 0∧pe.getD k 0≤1000)) pe.length&&decide ((pe.length:Int)=P)
def lJ (P:Int) (ps:List Psg) (xs:List Int) (out:Int) (pe:List Int) (T:Int):Int:=
  if stE P ps xs≠0 then stE P ps xs else if (decide (0≤out∧out≤4095)&&eO P pe&&decide (0≤T∧T≤60))=true then 0 else 1
theorem Dy {P:Int} {ps:List Psg} {xs:List Int} {out:Int} {pe:List Int} {T:Int} (h:lJ P ps xs out pe T=0):stE P ps xs=0∧(0≤out∧out≤4095)∧eO P pe=true∧(0≤T∧T≤60):=by
  unfold lJ at h
  split at h
  · omega
  · rename_i h1
    split at h
    · rename_i h2
      simp only [Bool.and_eq_true,decide_eq_true_eq] at h2
      exact ⟨by omega,h2.1.1,h2.1.2,h2.2⟩
    · cases h
theorem Id {P:Int} {pe:List Int} (h:eO P pe=true):(∀ k,k<pe.length→0≤pe.getD k 0∧pe.getD k 0≤1000)∧(pe.length:Int)=P:=by
  unfold eO at h
  simp only [Bool.and_eq_true,decide_eq_true_eq] at h
  exact ⟨fun k hk=>by simpa using bI.1 h.1 k hk,h.2⟩
section
variable {T:Tab} {f t k:Nat} {room:Int} {mv:Mv}
end
def capJ (S:Nat→Bool):List Jn→Int
  | []=>0
  | j::J=>(if S j.f=true∧S j.t=false then j.room else 0)+capJ S J
section
variable {P T:Nat} {pe xs:List Int} {hs:List Hd}
end
def layT (P T:Nat) (pe xs:List Int) (hs:List Hd):Tab:=joins (jAll P T pe xs hs)
def layN (P T:Nat) (pe xs:List Int) (hs:List Hd):Net:=(layT P T pe xs hs).net (P*(T+1)+2)
structure LayOk (P T:Nat) (pe xs:List Int) (hs:List Hd):Prop where
  wf:(layN P T pe xs hs).Wf
  ok:Ok (layN P T pe xs hs) (layT P T pe xs hs).room 2199023255552
  cap:∀ S,resid (layN P T pe xs hs) (layT P T pe xs hs).room S=capJ S (jAll P T pe xs hs)
  beg:resid (layN P T pe xs hs) (layT P T pe xs hs).room (fun v=>decide (v=P*(T+1)))≤1000*P
structure EndP (P T:Nat) (pe xs:List Int) (hs:List Hd) (v:Int) (r:RM) (L:Nat→Int):Prop where
  fl:Fl (layN P T pe xs hs) (layT P T pe xs hs).room r (P*(T+1)) (P*(T+1)+1) v
  nn:0≤v
  lev:LevOk (layN P T pe xs hs) r (P*(T+1)) L
  full:L (P*(T+1)+1)<0
def fstB (f:Nat→Bool):Nat→Nat
  | 0=>0
  | n+1=>if fstB f n<n then fstB f n else if f n=true then n else n+1
theorem Ie {f:Nat→Bool}:∀ n,fstB f n≤n:=by
  intro n
  induction n with
  | zero=>exact Nat.le_refl _
  | succ n ih=>rw [fstB];split;omega;split <;> omega
theorem jZ {f:Nat→Bool}:∀ {n},(∀ q,q<n→f q=false)→fstB f n=n:=by
  intro n
  induction n with
  | zero=>intro _;rfl
  | succ n ih=>intro h;rw [fstB,ih (fun q hq=>h q (by omega)),if_neg (by omega),if_neg (by rw [h n (by omega)];simp)]
theorem vN {f:Nat→Bool} {t:Nat} (h1:∀ q,q<t→f q=false) (h2:f t=true):∀ {n},t<n→fstB f n=t:=by
  intro n
  induction n with
  | zero=>intro h;omega
  | succ n ih=>
    intro h
    by_cases e:t=n
    · subst e;rw [fstB,jZ h1,if_neg (by omega),if_pos h2]
    · rw [fstB,ih (by omega),if_pos (by omega)]
def sumI (l:List Int):Nat→Int:=sm (fun k=>l.getD k 0)
theorem rL {N:Net} {r:RM} {S:Nat→Bool} (hn:∀ i,i<N.k→∀ j,j<N.n i→0≤r i j) (h:resid N r S=0):∀ u,u<N.k→S u=true→∀ j,j<N.n u→0<r u j→S (N.to u j)=true:=by
  intro u hu hS j hj hr
  have h1:=mQ (f:=fun i=>sm (fun j=>if S i=true∧S (N.to i j)=false then r i j else 0) (N.n i)) (fun i hi=>gT fun j hj=>by split;exact hn i hi j hj;exact Int.le_refl _) h u hu
  have h2:=mQ (f:=fun j=>if S u=true∧S (N.to u j)=false then r u j else 0) (fun j hj=>by split;exact hn u hu j hj;exact Int.le_refl _) h1 j hj
  cases hs:S (N.to u j) with
  | true=>rfl
  | false=>
    skip
    rw [if_pos ⟨hS,hs⟩] at h2
    omega
def fH (L:Nat→Int) (v:Nat):Bool:=decide (0≤L v)
section
variable {P T:Nat} {pe xs:List Int} {hs:List Hd} {v v':Int} {r r':RM} {L L':Nat→Int}
theorem vO {S:Nat→Bool} (hb:S (P*(T+1))=true) (hx:S (P*(T+1)+1)=false):ind S (P*(T+1))-ind S (P*(T+1)+1)=1:=by
  unfold ind;rw [hb,hx];rfl
theorem EndP.bound (O:LayOk P T pe xs hs) (h:EndP P T pe xs hs v r L) {S:Nat→Bool} (hb:S (P*(T+1))=true) (hx:S (P*(T+1)+1)=false):v≤capJ S (jAll P T pe xs hs):=by
  have h1:=qW (S:=S) (h.fl.ok O.ok)
  rw [h.fl.cut,O.cap,vO hb hx] at h1
  omega
theorem EndP.at_reach (O:LayOk P T pe xs hs) (h:EndP P T pe xs hs v r L):fH L (P*(T+1))=true∧fH L (P*(T+1)+1)=false∧capJ (fH L) (jAll P T pe xs hs)=v:=by
  have hb:fH L (P*(T+1))=true:=by unfold fH;rw [h.lev.b0];rfl
  have hx:fH L (P*(T+1)+1)=false:=by unfold fH;rw [decide_eq_false_iff_not];have:=h.full;omega
  refine ⟨hb,hx,?_⟩
  have h0:resid (layN P T pe xs hs) r (fH L)=0:=uV fun i hi=>uV fun j hj=>by
    split
    · rename_i hc
      obtain ⟨h1,h2⟩:=hc
      unfold fH at h1 h2
      simp only [decide_eq_true_eq,decide_eq_false_iff_not] at h1 h2
      have h3:=h.fl.nn i hi j hj
      by_cases h4:0<r i j
      · exact absurd (h.lev.cl i hi h1 j hj h4) h2
      · omega
    · rfl
  rw [h.fl.cut,O.cap,vO hb hx] at h0
  omega
theorem EndP.unique (O:LayOk P T pe xs hs) (h:EndP P T pe xs hs v r L) (h':EndP P T pe xs hs v' r' L'):v=v':=by
  obtain ⟨a1,a2,a3⟩:=h.at_reach O
  obtain ⟨b1,b2,b3⟩:=h'.at_reach O
  have h1:=h.bound O b1 b2
  have h2:=h'.bound O a1 a2
  omega
theorem EndP.inside (O:LayOk P T pe xs hs) (h:EndP P T pe xs hs v r L) {S:Nat→Bool} (hb:S (P*(T+1))=true) (hx:S (P*(T+1)+1)=false) (hc:capJ S (jAll P T pe xs hs)=v):∀ u,u<P*(T+1)+2→0≤L u→S u=true:=by
  have h0:resid (layN P T pe xs hs) r S=0:=by rw [h.fl.cut,O.cap,vO hb hx];omega
  exact h.lev.least hb (rL h.fl.nn h0)
theorem EndP.same (O:LayOk P T pe xs hs) (h:EndP P T pe xs hs v r L) (h':EndP P T pe xs hs v' r' L'):∀ u,u<P*(T+1)+2→fH L u=fH L' u:=by
  have e:=h.unique O h'
  obtain ⟨a1,a2,a3⟩:=h.at_reach O
  obtain ⟨b1,b2,b3⟩:=h'.at_reach O
  intro u hu
  have h1:=h.inside O b1 b2 (by omega) u hu
  have h2:=h'.inside O a1 a2 (by omega) u hu
  unfold fH at h1 h2 ⊢
  exact decide_eq_decide.2 ⟨fun h=>of_decide_eq_true (h1 h),fun h=>of_decide_eq_true (h2 h)⟩
end
open Classical in
noncomputable def mfv (P T:Nat) (pe xs:List Int) (hs:List Hd):Int:=if h:∃ v,∃ r L,EndP P T pe xs hs v r L then Classical.choose h else 0
section
variable {P T:Nat} {pe xs:List Int} {hs:List Hd} {v:Int} {r:RM} {L:Nat→Int}
end
def opn (out:Int) (help:Bool) (p:Psg):Bool:=(decide (p.kind=1)||(decide (p.kind=4)&&decide (bitI out p.mach=0)))||(decide (p.kind=5)&&help)
theorem Ig {out:Int} {help:Bool} {p:Psg} (h:(p.kind=1∨p.kind=4∧out/2^p.mach.toNat%2=0)∨p.kind=5∧help=true):opn out help p=true:=by
  unfold opn bitI
  simp only [Bool.or_eq_true,Bool.and_eq_true,decide_eq_true_eq]
  exact h
theorem Uc {out:Int} {help:Bool} {p:Psg} (h:(¬p.kind=1∧(¬p.kind=4∨¬out/2^p.mach.toNat%2=0))∧(¬p.kind=5∨help=false)):opn out help p=false:=by
  unfold opn bitI
  simp only [Bool.or_eq_false_iff,Bool.and_eq_false_iff,decide_eq_false_iff_not]
  exact h
def othr (p:Psg) (a:Int):Int:=if p.a=a then p.b else if p.b=a then p.a else -1
def oth (out:Int) (help:Bool) (p:Psg) (a:Int):Int:=if opn out help p=false then -1 else othr p a
inductive Wk (ps:List Psg) (out:Int) (help:Bool):Nat→Nat→Nat→List Nat→Prop
  | nil (a:Nat):Wk ps out help a a 0 []
  | cons {a b c n k:Nat} {l:List Nat} (hk:k<ps.length) (ho:oth out help (ps.getD k Psg.zero) a=(b:Int)) (h:Wk ps out help b c n l):Wk ps out help a c ((ps.getD k Psg.zero).ticks.toNat+n) (k::l)
def PsV (P:Nat) (ps:List Psg):Prop:=∀ k,k<ps.length→(0≤(ps.getD k Psg.zero).a∧(ps.getD k Psg.zero).a<P)∧(0≤(ps.getD k Psg.zero).b∧(ps.getD k Psg.zero).b<P)∧1≤(ps.getD k Psg.zero).ticks∧(ps.getD k Psg.zero).ticks≤20
theorem StV.psv {P:Nat} {ps:List Psg} {xs:List Int} (h:StV P ps xs):PsV P ps:=fun k hk=>by
  have:=eE.1 (h.pas k hk)
  omega
theorem rM {P:Nat} {ps:List Psg} (V:PsV P ps) {out:Int} {help:Bool} {k:Nat} (hk:k<ps.length) {a:Int} (h:0≤oth out help (ps.getD k Psg.zero) a):opn out help (ps.getD k Psg.zero)=true∧oth out help (ps.getD k Psg.zero) a<P∧((ps.getD k Psg.zero).a=a∧oth out help (ps.getD k Psg.zero) a=(ps.getD k Psg.zero).b∨(ps.getD k Psg.zero).b=a∧oth out help (ps.getD k Psg.zero) a=(ps.getD k Psg.zero).a):=by
  have:=V k hk
  unfold oth othr at h ⊢
  split at h
  · omega
  · rename_i h1
    refine ⟨by simpa using h1,?_⟩
    rw [if_neg h1]
    split at h
    · rename_i h2;rw [if_pos h2];exact ⟨by omega,.inl ⟨h2,rfl⟩⟩
    · rename_i h2
      rw [if_neg h2]
      split at h
      · rename_i h3;rw [if_pos h3];exact ⟨by omega,.inr ⟨h3,rfl⟩⟩
      · omega
def FixAt (ps:List Psg) (out:Int) (help:Bool) (tk:Nat→Int) (i k:Nat):Prop:=∀ b:Nat,oth out help (ps.getD k Psg.zero) i=(b:Int)→0≤tk b→0≤tk i∧tk i≤tk b+(ps.getD k Psg.zero).ticks
def potF (P:Nat) (tk:Nat→Int):Int:=sm (fun i=>if tk i<0 then 1000 else tk i) P
def cntF (P:Nat) (tk:Nat→Int):Int:=sm (fun i=>if tk i<0 then 0 else 1) P
structure FarI (P:Nat) (ps:List Psg) (out:Int) (help:Bool) (to:Nat) (tk:Nat→Int):Prop where
  to0:tk to=0
  low:∀ i,-1≤tk i
  walk:∀ i,i<P→0≤tk i→∃ l,Wk ps out help i to (tk i).toNat l
  bd:∀ i,i<P→tk i≤20*(cntF P tk-1)
theorem Mj {P:Nat} {tk:Nat→Int}:cntF P tk≤P:=by
  unfold cntF
  induction P with
  | zero=>exact Int.le_refl 0
  | succ n ih=>rw [sm];split <;> omega
theorem Bv {P:Nat} {tk:Nat→Int}:0≤potF P tk:=gT fun i _=>by split <;> omega
def tk0 (to:Nat) (i:Nat):Int:=if i=to then 0 else -1
section
variable {P:Nat} {ps:List Psg} {out:Int} {help:Bool} {to:Nat} {tk:Nat→Int}
theorem FarI.init (hto:to<P):FarI P ps out help to (tk0 to):=by
  have h1:tk0 to to=0:=by unfold tk0;rw [if_pos rfl]
  have hc:1≤cntF P (tk0 to):=by
    have:=Qc (f:=fun i=>if tk0 to i<0 then 0 else 1) (fun i _=>by split <;> omega) hto
    rw [h1] at this
    exact this
  refine ⟨h1,fun i=>?_,fun i _ h0=>?_,fun i _=>?_⟩
  · unfold tk0;split <;> omega
  · unfold tk0 at h0 ⊢
    split at h0
    · rename_i e;subst e;rw [if_pos rfl];exact ⟨_,Wk.nil _⟩
    · omega
  · unfold tk0 at hc ⊢;split <;> omega
theorem FarI.small (I:FarI P ps out help to tk) (hP:P≤10) {i:Nat} (hi:i<P):tk i≤180:=by
  have:=I.bd i hi
  have:=Mj (P:=P) (tk:=tk)
  omega
theorem FarI.relax (I:FarI P ps out help to tk) (V:PsV P ps) {i b k:Nat} (hi:i<P) (hb:b<P) (hk:k<ps.length) (ho:oth out help (ps.getD k Psg.zero) i=(b:Int)) (h0:0≤tk b) (hl:tk i<0∨tk b+(ps.getD k Psg.zero).ticks<tk i) :
    FarI P ps out help to (upd tk i (tk b+(ps.getD k Psg.zero).ticks))∧potF P (upd tk i (tk b+(ps.getD k Psg.zero).ticks))+1≤potF P tk∨900<tk b+(ps.getD k Psg.zero).ticks:=by
  by_cases hbig:900<tk b+(ps.getD k Psg.zero).ticks
  · exact .inr hbig
  refine .inl ?_
  have ht:1≤(ps.getD k Psg.zero).ticks∧(ps.getD k Psg.zero).ticks≤20:=(V k hk).2.2
  have hti:i≠to:=fun e=>by subst e;have:=I.to0;omega
  have hbi:b≠i:=fun e=>by subst e;omega
  have hc:cntF P (upd tk i (tk b+(ps.getD k Psg.zero).ticks))=cntF P tk+(if tk i<0 then 1 else 0):=by
    unfold cntF
    rw [qV (f:=fun i=>if tk i<0 then 0 else 1) hi (fun j _ hj=>by rw [eA _ _ hj]),cV,if_neg (by omega)]
    split <;> omega
  refine ⟨⟨by rw [eA _ _ (fun e=>hti e.symm)];exact I.to0,fun j=>?_,fun j hj h=>?_,fun j hj=>?_⟩,?_⟩
  · by_cases e:j=i
    · subst e;rw [cV];omega
    · rw [eA _ _ e];exact I.low j
  · by_cases e:j=i
    · subst e
      rw [cV]
      obtain ⟨l,hw⟩:=I.walk b hb h0
      have:=Wk.cons hk ho hw
      rw [show (tk b+(ps.getD k Psg.zero).ticks).toNat=(ps.getD k Psg.zero).ticks.toNat+(tk b).toNat by omega]
      exact ⟨_,this⟩
    · rw [eA _ _ e] at h ⊢;exact I.walk j hj h
  · rw [hc]
    have hbb:=I.bd b hb
    by_cases e:j=i
    · subst e
      rw [cV]
      have:=I.bd j hj
      split <;> omega
    · rw [eA _ _ e];have:=I.bd j hj;split <;> omega
  · unfold potF
    rw [qV (f:=fun i=>if tk i<0 then 1000 else tk i) hi (fun j _ hj=>by rw [eA _ _ hj]),cV,if_neg (by omega)]
    split <;> omega
theorem FarI.step (I:FarI P ps out help to tk) (V:PsV P ps) (hP:P≤10) {i b k:Nat} (hi:i<P) (hb:b<P) (hk:k<ps.length) (ho:oth out help (ps.getD k Psg.zero) i=(b:Int)) (h0:0≤tk b) (hl:tk i<0∨tk b+(ps.getD k Psg.zero).ticks<tk i) :
    FarI P ps out help to (upd tk i (tk b+(ps.getD k Psg.zero).ticks))∧potF P (upd tk i (tk b+(ps.getD k Psg.zero).ticks))+1≤potF P tk:=by
  rcases I.relax V hi hb hk ho h0 hl with h|h
  · exact h
  · exfalso
    have:=I.small hP hb
    have:(ps.getD k Psg.zero).ticks≤20:=(V k hk).2.2.2
    omega
end
theorem rN {ps:List Psg} {out:Int} {help:Bool} {tk:Nat→Int} {i k:Nat} (h:oth out help (ps.getD k Psg.zero) i<0∨tk (oth out help (ps.getD k Psg.zero) i).toNat<0∨(0≤tk i∧tk i≤tk (oth out help (ps.getD k Psg.zero) i).toNat+(ps.getD k Psg.zero).ticks)):FixAt ps out help tk i k:=fun b hb h0=>by
  rw [hb,Int.toNat_natCast] at h
  omega
def b2i (b:Bool):Int:=if b=true then 1 else 0
theorem vP {P:Nat} {ps:List Psg} {out:Int} {help:Bool} {tk:Nat→Int} {m:Bool} {f k:Nat} (h:m=false→(∀ i,i<f→∀ k,k<ps.length→FixAt ps out help tk i k)∧∀ q,q<k→FixAt ps out help tk f q) (hk:FixAt ps out help tk f k) :
    m=false→(∀ i,i<f→∀ k,k<ps.length→FixAt ps out help tk i k)∧∀ q,q<k+1→FixAt ps out help tk f q:=fun e=>⟨(h e).1,fun q hq=>by
  by_cases e2:q=k
  · subst e2;exact hk
  · exact (h e).2 q (by omega)⟩
theorem Rf {P:Nat} {ps:List Psg} {out:Int} {help:Bool} {tk:Nat→Int} {m:Bool} {f k:Nat} (hk:ps.length≤k) (h:m=false→(∀ i,i<f→∀ k,k<ps.length→FixAt ps out help tk i k)∧∀ q,q<k→FixAt ps out help tk f q) :
    m=false→∀ i,i<f+1→∀ k,k<ps.length→FixAt ps out help tk i k:=fun e i hi q hq=>by
  by_cases e2:i=f
  · subst e2;exact (h e).2 q (by omega)
  · exact (h e).1 i (by omega) q hq
theorem FarI.up {P:Nat} {ps:List Psg} {out:Int} {help:Bool} {to:Nat} {tk:Nat→Int} (I:FarI P ps out help to tk) (V:PsV P ps) (hP:P≤10) {i k:Nat} {X:Int} {m:Bool} {Q:Prop} (hi:i<P) (hk:k<ps.length) (ho:0≤oth out help (ps.getD k Psg.zero) i) (hb:oth out help (ps.getD k Psg.zero) i<P) (h0:0≤tk (oth out help (ps.getD k Psg.zero) i).toNat)
    (hl:tk i<0∨tk (oth out help (ps.getD k Psg.zero) i).toNat+(ps.getD k Psg.zero).ticks<tk i) (hp:potF P tk+b2i m≤X) :
    FarI P ps out help to (upd tk i (tk (oth out help (ps.getD k Psg.zero) i).toNat+(ps.getD k Psg.zero).ticks))∧potF P (upd tk i (tk (oth out help (ps.getD k Psg.zero) i).toNat+(ps.getD k Psg.zero).ticks))+b2i true≤X∧(true=false→Q):=by
  have h:=I.step V hP hi (b:=(oth out help (ps.getD k Psg.zero) i).toNat) (by omega) hk (by omega) h0 hl
  have h8:b2i true=1:=rfl
  have h9:0≤b2i m:=by unfold b2i;split <;> omega
  exact ⟨h.1,by omega,fun e=>by cases e⟩
structure FarOk (P:Nat) (ps:List Psg) (out:Int) (help:Bool) (to:Nat) (tk:Nat→Int):Prop where
  to0:tk to=0
  low:∀ i,-1≤tk i
  walk:∀ i,i<P→0≤tk i→∃ l,Wk ps out help i to (tk i).toNat l
  fix:∀ i,i<P→∀ k,k<ps.length→FixAt ps out help tk i k
  sml:∀ i,i<P→tk i≤200
section
variable {P:Nat} {ps:List Psg} {out:Int} {help:Bool} {to:Nat} {tk tk':Nat→Int}
theorem FarI.done (I:FarI P ps out help to tk) (hP:P≤10) (h:∀ i,i<P→∀ k,k<ps.length→FixAt ps out help tk i k):FarOk P ps out help to tk:=
  ⟨I.to0,I.low,I.walk,h,fun i hi=>by have:=I.small hP hi;omega⟩
theorem FarOk.least (h:FarOk P ps out help to tk) (V:PsV P ps) {a c n:Nat} {l:List Nat} (W:Wk ps out help a c n l):a<P→c=to→0≤tk a∧tk a≤n:=by
  induction W with
  | nil a=>intro _ e;subst e;rw [h.to0];exact ⟨Int.le_refl 0,Int.le_refl 0⟩
  | @cons a b c n k l hk ho _ ih=>
    intro ha e
    have hb:=(rM V hk (a:=(a:Int)) (by rw [ho];omega)).2.1
    rw [ho] at hb
    have h1:=ih (by omega) e
    have h2:=h.fix a ha k hk b ho h1.1
    have:=(V k hk).2.2
    omega
theorem FarOk.unique (h:FarOk P ps out help to tk) (h':FarOk P ps out help to tk') (V:PsV P ps) {i:Nat} (hi:i<P):tk i=tk' i:=by
  have key:∀ {t t':Nat→Int},FarOk P ps out help to t→FarOk P ps out help to t'→0≤t i→0≤t' i∧t' i≤t i:=fun {t t'} H H' h0=>by
    obtain ⟨l,W⟩:=H.walk i hi h0
    have:=H'.least V W hi rfl
    omega
  have l1:=h.low i
  have l2:=h'.low i
  by_cases h0:0≤tk i
  · have h1:=key h h' h0
    have h2:=key h' h h1.1
    omega
  · by_cases h1:0≤tk' i
    · have:=key h' h h1;omega
    · omega
end
open Classical in
noncomputable def dst (P:Nat) (ps:List Psg) (out:Int) (help:Bool) (to:Nat) (i:Nat):Int:=if h:∃ tk,FarOk P ps out help to tk then (if i<P then Classical.choose h i else -1) else 0
section
variable {P:Nat} {ps:List Psg} {out:Int} {help:Bool} {to:Nat} {tk:Nat→Int}
theorem mS (V:PsV P ps) (h:FarOk P ps out help to tk) {i:Nat} (hi:i<P):dst P ps out help to i=tk i:=by
  have he:∃ tk,FarOk P ps out help to tk:=⟨tk,h⟩
  unfold dst
  rw [dif_pos he,if_pos hi]
  exact (Classical.choose_spec he).unique h V hi
theorem Rg (V:PsV P ps) (hto:to<P) (h:FarOk P ps out help to tk):FarOk P ps out help to (dst P ps out help to):=by
  have he:∃ tk,FarOk P ps out help to tk:=⟨tk,h⟩
  have hd:∀ i,¬ i<P→dst P ps out help to i = -1:=fun i hi=>by unfold dst;rw [dif_pos he,if_neg hi]
  refine ⟨(mS V h hto).trans h.to0,fun i=>?_,fun i hi=>?_,fun i hi k hk b hb h0=>?_,fun i hi=>?_⟩
  · by_cases hi:i<P
    · rw [mS V h hi];exact h.low i
    · rw [hd i hi];omega
  · rw [mS V h hi];exact h.walk i hi
  · have hb2:=(rM V hk (a:=(i:Int)) (by rw [hb];omega)).2.1
    rw [hb] at hb2
    rw [mS V h (i:=b) (by omega)] at h0 ⊢
    rw [mS V h hi]
    exact h.fix i hi k hk b hb h0
  · rw [mS V h hi];exact h.sml i hi
end
def stepB (ps:List Psg) (out:Int) (help:Bool) (d:Nat→Int) (at_ k:Nat):Bool:=
  decide (0≤oth out help (ps.getD k Psg.zero) at_)&&(decide (0≤d (oth out help (ps.getD k Psg.zero) at_).toNat)&&decide (d (oth out help (ps.getD k Psg.zero) at_).toNat+(ps.getD k Psg.zero).ticks=d at_))
def stepK (ps:List Psg) (out:Int) (help:Bool) (d:Nat→Int) (at_:Nat):Nat:=fstB (stepB ps out help d at_) ps.length
def wayG (ps:List Psg) (out:Int) (help:Bool) (d:Nat→Int) (to:Nat):Nat→Nat→List Nat
  | 0,_=>[]
  | g+1,a=>if a=to then [] else stepK ps out help d a::wayG ps out help d to g (oth out help (ps.getD (stepK ps out help d a) Psg.zero) a).toNat
section
variable {P:Nat} {ps:List Psg} {out:Int} {help:Bool} {to:Nat} {d:Nat→Int}
theorem Bw {g:Nat}:wayG ps out help d to g to=[]:=by
  cases g with
  | zero=>rfl
  | succ g=>unfold wayG;rw [if_pos rfl]
theorem Bx (V:PsV P ps) {a k:Nat} (hk:k<ps.length) (h:stepB ps out help d a k=true):∃ b:Nat,oth out help (ps.getD k Psg.zero) a=(b:Int)∧b<P∧0≤d b∧d b+(ps.getD k Psg.zero).ticks=d a∧1≤(ps.getD k Psg.zero).ticks:=by
  unfold stepB at h
  simp only [Bool.and_eq_true,decide_eq_true_eq] at h
  have h1:=rM V hk h.1
  have hV:=(V k hk).2.2
  exact ⟨(oth out help (ps.getD k Psg.zero) a).toNat,by omega,by omega,h.2.1,h.2.2,hV.1⟩
theorem FarOk.step_ex (h:FarOk P ps out help to d) (V:PsV P ps) {a:Nat} (ha:a<P) (h0:0≤d a) (hne:a≠to):∃ k,k<ps.length∧stepB ps out help d a k=true:=by
  obtain ⟨l,W⟩:=h.walk a ha h0
  generalize hn:(d a).toNat=n at W
  cases W with
  | nil=>exact absurd rfl hne
  | @cons _ b _ n2 k l2 hk ho W2=>
    have hb:=(rM V hk (a:=(a:Int)) (by rw [ho];omega)).2.1
    rw [ho] at hb
    have h1:=h.least V W2 (by omega) rfl
    have h2:=h.fix a ha k hk b ho h1.1
    have:=(V k hk).2.2
    refine ⟨k,hk,?_⟩
    unfold stepB
    simp only [Bool.and_eq_true,decide_eq_true_eq]
    rw [ho,Int.toNat_natCast]
    omega
theorem FarOk.stp (h:FarOk P ps out help to d) (V:PsV P ps) {a:Nat} (ha:a<P) (h0:0≤d a) (hne:a≠to):stepK ps out help d a<ps.length∧stepB ps out help d a (stepK ps out help d a)=true∧∀ q,q<stepK ps out help d a→stepB ps out help d a q=false:=by
  obtain ⟨k,hk,hs⟩:=h.step_ex V ha h0 hne
  have key:∀ n,(∃ k,k<n∧stepB ps out help d a k=true)→fstB (stepB ps out help d a) n<n∧stepB ps out help d a (fstB (stepB ps out help d a) n)=true∧∀ q,q<fstB (stepB ps out help d a) n→stepB ps out help d a q=false:=by
    intro n
    induction n with
    | zero=>rintro ⟨k,hk,_⟩;omega
    | succ n ih=>
      rintro ⟨k,hk,hs⟩
      by_cases he:∃ k,k<n∧stepB ps out help d a k=true
      · obtain ⟨h1,h2,h3⟩:=ih he
        rw [fstB,if_pos h1]
        exact ⟨by omega,h2,h3⟩
      · have hno:∀ q,q<n→stepB ps out help d a q=false:=fun q hq=>by
          cases hb:stepB ps out help d a q with
          | false=>rfl
          | true=>exact absurd ⟨q,hq,hb⟩ he
        have hkn:k=n:=by
          by_cases e:k<n
          · exact absurd ⟨k,e,hs⟩ he
          · omega
        subst hkn
        rw [fstB,jZ hno,if_neg (by omega),if_pos hs]
        exact ⟨by omega,hs,hno⟩
  exact key _ ⟨k,hk,hs⟩
theorem Dz {a k g:Nat} (hne:a≠to) (h:stepK ps out help d a=k):wayG ps out help d to (g+1) a=k::wayG ps out help d to g (oth out help (ps.getD k Psg.zero) a).toNat:=by
  rw [wayG,if_neg hne,h]
theorem FarOk.way (h:FarOk P ps out help to d) (V:PsV P ps):∀ (g a:Nat),a<P→0≤d a→d a≤g→Wk ps out help a to (d a).toNat (wayG ps out help d to g a):=by
  intro g
  induction g with
  | zero=>
    intro a ha h0 hg
    by_cases e:a=to
    · subst e;rw [Bw,h.to0];exact Wk.nil _
    · obtain ⟨h1,h2,h3⟩:=h.stp V ha h0 e
      obtain ⟨b,hb,hbP,hb0,hbd,hbt⟩:=Bx V h1 h2
      omega
  | succ g ih=>
    intro a ha h0 hg
    by_cases e:a=to
    · subst e;rw [Bw,h.to0];exact Wk.nil _
    · obtain ⟨h1,h2,h3⟩:=h.stp V ha h0 e
      obtain ⟨b,hb,hbP,hb0,hbd,hbt⟩:=Bx V h1 h2
      rw [Dz e rfl,hb,Int.toNat_natCast]
      have:=Wk.cons h1 hb (ih b hbP hb0 (by omega))
      rw [show (d a).toNat=(ps.getD (stepK ps out help d a) Psg.zero).ticks.toNat+(d b).toNat by omega]
      exact this
end
def plOk (P:Int) (l:List Int):Bool:=allN (fun k=>decide (0≤l.getD k 0∧l.getD k 0≤P-1)) l.length
theorem Ai {P:Int} {l:List Int} {k:Nat} (hk:k<l.length) (h:¬ (0≤l.getD k 0∧l.getD k 0≤P-1)):plOk P l=false:=fP hk (decide_eq_false h)
def wcl (l:List Nat) (k _j:Nat):Value := .int .i64 ((l.getD k 0:Nat):Int)
theorem Ih {l:List Nat} {x:Nat} {v:Value} (hv:v = .int .i64 (x:Int)):∀ k j,k<l.length+1→j<1→capp l.length (wcl l) (fun k' j=>([[v]].getD k' []).getD j undef) k j=wcl (l++[x]) k j:=by
  intro k j hk hj
  have:j=0:=by omega
  subst this
  subst hv
  unfold capp wcl
  by_cases h:k<l.length
  · rw [if_pos h,List.getD_eq_getElem?_getD,List.getD_eq_getElem?_getD,List.getElem?_append_left h]
  · have e:k=l.length:=by omega
    subst e
    rw [if_neg h,Nat.sub_self,List.getD_eq_getElem?_getD,List.getElem?_append_right (Nat.le_refl _),Nat.sub_self]
    rfl
theorem Ea {x y:Int}:∀ k j,k<2→j<1→([[Value.int .i64 x],[Value.int .i64 y]].getD k []).getD j undef=icl [x,y] k j:=by
  intro k j hk hj
  have:j=0:=by omega
  subst this
  match k,hk with
  | 0,_=>rfl
  | 1,_=>rfl
section
variable {ps:List Psg} {out:Int} {help:Bool} {d:Nat→Int} {p:Nat} {k:Nat}
theorem Bz {q:Psg} {a:Int} (h:opn out help q=true):oth out help q a=othr q a:=by unfold oth;rw [if_neg (by rw [h];simp)]
theorem Ii {q:Psg} {a:Int} (h:opn out help q=false):oth out help q a = -1:=by unfold oth;rw [if_pos h]
end
section
variable {ps:List Psg} {out kind:Int}
end
theorem Wk.mono' {ps:List Psg} {out out':Int} {help help':Bool} {a c n:Nat} {l:List Nat} (W:Wk ps out help a c n l):(∀ k,k ∈ l→k<ps.length→opn out help (ps.getD k Psg.zero)=true→opn out' help' (ps.getD k Psg.zero)=true)→Wk ps out' help' a c n l:=by
  induction W with
  | nil a=>exact fun _ => .nil a
  | @cons a b c n k l hk ho _ ih=>
    intro h
    have ho1:opn out help (ps.getD k Psg.zero)=true:=by
      cases hb:opn out help (ps.getD k Psg.zero) with
      | true=>rfl
      | false=>rw [Ii hb] at ho;omega
    refine .cons hk ?_ (ih fun q hq=>h q (List.mem_cons_of_mem _ hq))
    rw [Bz (h k (List.mem_cons_self ..) hk ho1),←Bz ho1]
    exact ho
theorem Wk.mono {ps:List Psg} {out out':Int} {help help':Bool} (h:∀ k,k<ps.length→opn out help (ps.getD k Psg.zero)=true→opn out' help' (ps.getD k Psg.zero)=true) {a c n:Nat} {l:List Nat} (W:Wk ps out help a c n l):Wk ps out' help' a c n l:=W.mono' fun k _=>h k
end
section
structure Jq where
  mach:Int
  nights:Int
  after:List Int
def Jq.zero:Jq:=⟨0,0,[]⟩
def gF (js:List Jq) (AA:Nat→Option Addr) (ac:Nat→Nat) (k:Nat):Nat→Value
  | 0 => .int .i64 (js.getD k Jq.zero).mach
  | 1 => .int .i64 (js.getD k Jq.zero).nights
  | _ => .slice (AA k) (js.getD k Jq.zero).after.length (ac k)
structure Jb where
  mach:Int
  nights:Int
  after:List Int
  A:Option Addr
  c:Nat
def Jb.zero:Jb:=⟨0,0,[],none,0⟩
def Jb.cell (h:Jb):Nat→Value
  | 0 => .int .i64 h.mach
  | 1 => .int .i64 h.nights
  | _ => .slice h.A h.after.length h.c
def mT (l:List Jb) (k j:Nat):Value:=(l.getD k Jb.zero).cell j
def Jb.q (h:Jb):Jq:=⟨h.mach,h.nights,h.after⟩
theorem Rh (l:List Jb) (k:Nat):(l.map Jb.q).getD k Jq.zero=(l.getD k Jb.zero).q:=by
  rw [List.getD_eq_getElem?_getD,List.getD_eq_getElem?_getD,List.getElem?_map]
  cases l[k]? <;> rfl
theorem Eb (l:List Jb):mT l=gF (l.map Jb.q) (fun k=>(l.getD k Jb.zero).A) (fun k=>(l.getD k Jb.zero).c):=by
  funext k j
  unfold mT Jb.cell gF
  rw [Rh]
  match j with
  | 0=>rfl
  | 1=>rfl
  | _+2=>rfl
def afP (l:List Int) (i:Nat) (q:Nat):Bool:=decide (lowA l 0 q≤l.getD q 0∧l.getD q 0≤(i:Int)-1)
def jobOk (mm:Int) (js:List Jq) (i:Nat):Bool:=decide ((0≤(js.getD i Jq.zero).mach∧(js.getD i Jq.zero).mach≤mm-1)∧(1≤(js.getD i Jq.zero).nights∧(js.getD i Jq.zero).nights≤24))&&allN (afP (js.getD i Jq.zero).after i) (js.getD i Jq.zero).after.length
def nvOk (mm n:Int):Bool:=decide (1≤n∧n≤1*2^mm.toNat-1)
def wksSz (mm:Int) (js:List Jq) (nv:List Int) (cr un:Int):Bool:=decide ((1≤mm∧mm≤12)∧(1≤js.length∧js.length≤6)∧nv.length≤20∧(1≤cr∧cr≤6)∧(1≤un∧un≤24))
def wksOk (mm:Int) (js:List Jq) (nv:List Int) (cr un:Int):Bool:=wksSz mm js nv cr un&&(allN (jobOk mm js) js.length&&allN (fun q=>nvOk mm (nv.getD q 0)) nv.length)
def wksE (mm:Int) (js:List Jq) (nv:List Int) (cr un:Int):Int:=if wksOk mm js nv cr un=true then 0 else 92
structure WkV (mm:Int) (js:List Jq) (nv:List Int) (cr un:Int):Prop where
  mmb:1≤mm∧mm≤12
  nj:1≤js.length∧js.length≤6
  nn:nv.length≤20
  crb:1≤cr∧cr≤6
  unb:1≤un∧un≤24
  job:∀ i,i<js.length→(0≤(js.getD i Jq.zero).mach∧(js.getD i Jq.zero).mach≤mm-1)∧(1≤(js.getD i Jq.zero).nights∧(js.getD i Jq.zero).nights≤24)
  aft:∀ i,i<js.length→∀ q,q<(js.getD i Jq.zero).after.length→lowA (js.getD i Jq.zero).after 0 q≤(js.getD i Jq.zero).after.getD q 0∧(js.getD i Jq.zero).after.getD q 0≤(i:Int)-1
  nev:∀ q,q<nv.length→1≤nv.getD q 0∧nv.getD q 0≤1*2^mm.toNat-1
section
variable {mm cr un:Int} {js:List Jq} {nv:List Int} {i k q:Nat}
theorem lZ (h:wksE mm js nv cr un=0):WkV mm js nv cr un:=by
  unfold wksE at h
  split at h
  · rename_i h1
    unfold wksOk wksSz at h1
    rw [Bool.and_eq_true,Bool.and_eq_true,decide_eq_true_eq,bI,bI] at h1
    obtain ⟨⟨h2,h3,h4,h5,h6⟩,h7,h8⟩:=h1
    refine ⟨h2,h3,h4,h5,h6,fun i hi=>?_,fun i hi q hq=>?_,fun q hq=>of_decide_eq_true (h8 q hq)⟩
    · have h9:=h7 i hi
      unfold jobOk at h9
      rw [Bool.and_eq_true] at h9
      exact of_decide_eq_true h9.1
    · have h9:=h7 i hi
      unfold jobOk at h9
      rw [Bool.and_eq_true,bI] at h9
      exact of_decide_eq_true (h9.2 q hq)
  · cases h
theorem Ij (h:WkV mm js nv cr un):wksE mm js nv cr un=0:=by
  unfold wksE
  rw [if_pos]
  unfold wksOk wksSz
  rw [Bool.and_eq_true,Bool.and_eq_true,decide_eq_true_eq,bI,bI]
  refine ⟨⟨h.mmb,h.nj,h.nn,h.crb,h.unb⟩,fun i hi=>?_,fun q hq=>decide_eq_true (h.nev q hq)⟩
  unfold jobOk
  rw [Bool.and_eq_true,bI]
  exact ⟨decide_eq_true (h.job i hi),fun q hq=>decide_eq_true (h.aft i hi q hq)⟩
theorem qA (h:¬ WkV mm js nv cr un):wksE mm js nv cr un=92:=by
  unfold wksE
  rw [if_neg]
  intro h2
  exact h (lZ (by unfold wksE;rw [if_pos h2]))
end
def lorW (a b:Int):Int:=((a.toNat ||| b.toNat:Nat):Int)
section
variable {P:Program} {L:List (Nat×Value)} {w:World} {d:Option Nat} {ty:TypeId} {pos:String} {af:Array Edge} {g:Option (Nat×Bool)}
theorem tU {x y:Operand} {xt yt:TypeId} {m k:Int} (hx:ev L x=some (.int .i64 m)) (hy:ev L y=some (.int .i64 k)) (hm:0≤m∧m<2^20) (hk:0≤k∧k<2^20) :
    Does P L ⟨d,.binOp .or xt x y yt,ty,pos,af,g⟩ w (.int .i64 (lorW m k)):=fun ρ hρ=>by
  obtain ⟨m,rfl⟩:∃ n:Nat,m=n:=⟨m.toNat,by omega⟩
  obtain ⟨k,rfl⟩:∃ n:Nat,k=n:=⟨k.toNat,by omega⟩
  have e0:((BitVec.ofInt 64 (m:Int) ||| BitVec.ofInt 64 (k:Int)).toNat)=m ||| k:=by
    rw [BitVec.toNat_or,BitVec.ofInt_natCast,BitVec.ofInt_natCast,BitVec.toNat_ofNat,BitVec.toNat_ofNat,Nat.mod_eq_of_lt (by omega),Nat.mod_eq_of_lt (by omega)]
  have hle:m ||| k<2^20:=Nat.or_lt_two_pow (by have:=hm.2;omega) (by have:=hk.2;omega)
  have e1:IntKind.i64.wrap ((BitVec.ofInt 64 (m:Int) ||| BitVec.ofInt 64 (k:Int)).toNat:Int)=((m ||| k:Nat):Int):=by
    rw [e0];exact i64ok.eq ⟨by omega,by omega⟩
  have e:Op.intBits .or .i64 (m:Int) (k:Int)=pure (.int .i64 (lorW m k)):=by
    unfold lorW
    rw [Int.toNat_natCast,Int.toNat_natCast]
    exact congrArg (fun z=>(pure (Value.int .i64 z):Sem Value)) e1
  simp [execOp,hρ _ _ hx,hρ _ _ hy,eqGuard,binOp,e]
end
section
variable (js:List Jq) (st:List Int) (d:Int)
def atB (i:Nat):Bool:=decide (st.getD i 0≤d)&&decide (d<st.getD i 0+(js.getD i Jq.zero).nights)
def nSet:Nat→Int
  | 0=>0
  | i+1=>if atB js st d i=true then lorW (nSet i) (1*2^(js.getD i Jq.zero).mach.toNat) else nSet i
def nJobs:Nat→Int
  | 0=>0
  | i+1=>if atB js st d i=true then nJobs i+1 else nJobs i
def jN:Nat→Bool
  | 0=>false
  | i+1=>if atB js st d i=true then jN i||decide (nSet js st d i/2^(js.getD i Jq.zero).mach.toNat%2=1) else jN i
end
section
variable {mm cr un d:Int} {js:List Jq} {nv st:List Int} {i k:Nat}
theorem qB (V:WkV mm js nv cr un):∀ i,i≤js.length→0≤nSet js st d i∧nSet js st d i<2^mm.toNat:=by
  intro i
  induction i with
  | zero=>
    intro _
    refine ⟨Int.le_refl 0,?_⟩
    have e:(2:Int)^mm.toNat=((2^mm.toNat:Nat):Int):=(Int.natCast_pow 2 mm.toNat).symm
    rw [e]
    have:=Nat.pow_pos (n:=mm.toNat) (show 0<2 by decide)
    show (0:Int)<_
    omega
  | succ i ih=>
    intro hi
    have h1:=ih (by omega)
    rw [nSet]
    split
    · have hj:=(V.job i (by omega)).1
      have e:(2:Int)^mm.toNat=((2^mm.toNat:Nat):Int):=(Int.natCast_pow 2 mm.toNat).symm
      have e2:(1:Int)*2^(js.getD i Jq.zero).mach.toNat=((2^(js.getD i Jq.zero).mach.toNat:Nat):Int):=by rw [Int.one_mul];exact (Int.natCast_pow 2 _).symm
      have hlt:2^(js.getD i Jq.zero).mach.toNat<2^mm.toNat:=Nat.pow_lt_pow_right (by decide) (by omega)
      unfold lorW
      rw [e2,Int.toNat_natCast,e]
      refine ⟨Int.natCast_nonneg _,?_⟩
      rw [e] at h1
      exact_mod_cast Nat.or_lt_two_pow (by omega) hlt
    · exact h1
theorem xW:∀ i,0≤nJobs js st d i∧nJobs js st d i≤i:=by
  intro i
  induction i with
  | zero=>exact ⟨Int.le_refl 0,Int.le_refl 0⟩
  | succ i ih=>rw [nJobs];split <;> omega
theorem pw12 {m:Int} (h:0≤m∧m≤12):(1:Int)≤2^m.toNat∧(2:Int)^m.toNat≤4096:=by
  have e:(2:Int)^m.toNat=((2^m.toNat:Nat):Int):=(Int.natCast_pow 2 m.toNat).symm
  have h1:=Nat.pow_pos (n:=m.toNat) (show 0<2 by decide)
  have h2:2^m.toNat≤2^12:=Nat.pow_le_pow_right (by decide) (by omega)
  rw [e]
  omega
end
end
section
section
variable {U n i:Nat} {l l':List Int}
end
section
variable {pl:List Int} {i:Int} {q:Nat}
end
end
section
theorem Ik {l:List Int} {i:Int} {q:Nat} {n:Nat} (hi:i=n) (h:lowA l 0 q≤l.getD q 0∧l.getD q 0≤i-1):afP l n q=true:=by
  subst hi;unfold afP;exact decide_eq_true h
theorem Il {l:List Int} {q:Nat} {n:Nat} (h:l.getD q 0<lowA l 0 q∨(n:Int)-1<l.getD q 0):afP l n q=false:=by
  unfold afP;exact decide_eq_false (by omega)
theorem vQ {l:List Int} {k:Nat}:lowA l 0 (k+1)=l.getD k 0+1:=by unfold lowA;rw [if_neg (by omega)];rfl
section
variable {mm cr un:Int} {js:List Jq} {nv:List Int} {i k q:Nat}
theorem Ca (h:¬ ((1≤mm∧mm≤12)∧(1≤js.length∧js.length≤6)∧nv.length≤20∧(1≤cr∧cr≤6)∧(1≤un∧un≤24))):wksE mm js nv cr un=92:=qA fun V=>h ⟨V.mmb,V.nj,V.nn,V.crb,V.unb⟩
theorem Cb (hi:i<js.length) (h:¬ ((0≤(js.getD i Jq.zero).mach∧(js.getD i Jq.zero).mach≤mm-1)∧(1≤(js.getD i Jq.zero).nights∧(js.getD i Jq.zero).nights≤24))):wksE mm js nv cr un=92:=qA fun V=>h (V.job i hi)
theorem Cc (hi:i<js.length) (hq:q<(js.getD i Jq.zero).after.length) (h:afP (js.getD i Jq.zero).after i q=false):wksE mm js nv cr un=92:=qA fun V=>by
  unfold afP at h
  exact of_decide_eq_false h (V.aft i hi q hq)
theorem Cd (hq:q<nv.length) (h:nvOk mm (nv.getD q 0)=false):wksE mm js nv cr un=92:=qA fun V=>by
  unfold nvOk at h
  exact of_decide_eq_false h (V.nev q hq)
theorem Pu (h1:(1≤mm∧mm≤12)∧(1≤js.length∧js.length≤6)∧nv.length≤20∧(1≤cr∧cr≤6)∧(1≤un∧un≤24)) (h2:∀ i,i<js.length→((0≤(js.getD i Jq.zero).mach∧(js.getD i Jq.zero).mach≤mm-1)∧(1≤(js.getD i Jq.zero).nights∧(js.getD i Jq.zero).nights≤24))∧∀ q,q<(js.getD i Jq.zero).after.length→afP (js.getD i Jq.zero).after i q=true)
    (h3:∀ q,q<nv.length→nvOk mm (nv.getD q 0)=true):wksE mm js nv cr un=0:=Ij ⟨h1.1,h1.2.1,h1.2.2.1,h1.2.2.2.1,h1.2.2.2.2,fun i hi=>(h2 i hi).1,fun i hi q hq=>by
  have h4:=(h2 i hi).2 q hq
  unfold afP at h4
  exact of_decide_eq_true h4,fun q hq=>by
  have h4:=h3 q hq
  unfold nvOk at h4
  exact of_decide_eq_true h4⟩
theorem lK {p:Nat→Prop} (h:∀ z,z<q→p z) (h1:p q):∀ z,z<q+1→p z:=fun z hz=>by
  by_cases e:z=q
  · subst e;exact h1
  · exact h z (by omega)
theorem pwm (h:1≤mm∧mm≤12):(2:Int)≤1*2^mm.toNat∧(1:Int)*2^mm.toNat≤4096:=by
  have e:(2:Int)^mm.toNat=((2^mm.toNat:Nat):Int):=(Int.natCast_pow 2 mm.toNat).symm
  have h1:2^1≤2^mm.toNat:=Nat.pow_le_pow_right (by decide) (by omega)
  have h2:2^mm.toNat≤2^12:=Nat.pow_le_pow_right (by decide) (by omega)
  rw [Int.one_mul,e]
  omega
def farN (un:Int):Nat→Int
  | 0=>1
  | i+1=>if (0<un∧un≤24)∧farN un i≤20000 then farN un i*un else farN un i
def farW (js:List Jq) (nv:List Int) (un:Int):Bool:=(decide (10<(js.length:Int))||decide (30<(nv.length:Int)))||(!allN (fun i=>!decide (10<((js.getD i Jq.zero).after.length:Int))) js.length||(decide (20000<farN un js.length)&&decide (farN un js.length≤200000)))
theorem vR:∀ i,1≤farN un i∧farN un i≤480000:=by
  intro i
  induction i with
  | zero=>exact ⟨Int.le_refl 1,by show (1:Int)≤480000;decide⟩
  | succ i ih=>
    rw [farN]
    split
    · rename_i h
      have h1:farN un i*un≤20000*24:=Int.mul_le_mul h.2 h.1.2 (by omega) (by decide)
      have h2:1*1≤farN un i*un:=Int.mul_le_mul ih.1 (by omega) (by omega) (by omega)
      omega
    · exact ih
theorem Im (h:(0<un∧un≤24)∧farN un i≤20000):0≤farN un i*un∧farN un i*un≤480000:=by
  have h1:=vR (un:=un) i
  have h2:farN un i*un≤20000*24:=Int.mul_le_mul h.2 h.1.2 (by omega) (by decide)
  exact ⟨Int.mul_nonneg (by omega) (by omega),by omega⟩
theorem Ri (h:(0<un∧un≤24)∧farN un i≤20000):farN un i*un=farN un (i+1):=by rw [farN,if_pos h]
theorem Rj (h:¬ ((0<un∧un≤24)∧farN un i≤20000)):farN un i=farN un (i+1):=by rw [farN,if_neg h]
theorem Rk (h:10<(js.length:Int)∨30<(nv.length:Int)):farW js nv un=true:=by
  unfold farW
  rcases h with h|h
  · rw [decide_eq_true h];rfl
  · rw [decide_eq_true h];simp
theorem Rl (hi:i<js.length) (h:10<((js.getD i Jq.zero).after.length:Int)):farW js nv un=true:=by
  unfold farW
  have h2:allN (fun i=>!decide (10<((js.getD i Jq.zero).after.length:Int))) js.length=false:=by
    rw [←Bool.not_eq_true,bI]
    intro h3
    have:=h3 i hi
    rw [decide_eq_true h] at this
    cases this
  rw [h2];simp
theorem Rm (h0:¬ (10<(js.length:Int)∨30<(nv.length:Int))) (h:∀ i,i<js.length→¬ 10<((js.getD i Jq.zero).after.length:Int)):farW js nv un=(decide (20000<farN un js.length)&&decide (farN un js.length≤200000)):=by
  unfold farW
  have h2:allN (fun i=>!decide (10<((js.getD i Jq.zero).after.length:Int))) js.length=true:=bI.2 fun i hi=>by rw [decide_eq_false (h i hi)];rfl
  rw [h2,decide_eq_false (fun h9=>h0 (.inl h9)),decide_eq_false (fun h9=>h0 (.inr h9))];rfl
end
def lstW (l:List Int) (i:Int):Nat→Int
  | 0=>i
  | q+1=>l.getD q 0
theorem mA {l:List Int}:∀ {q},lowA l 0 q=lstW l (-1) q+1:=fun {q}=>by
  cases q with
  | zero=>rfl
  | succ q=>unfold lowA;rw [if_neg (by omega)];rfl
theorem In {l:List Int} {i q:Nat} (hi:i≤6) (h:∀ z,z<q→afP l i z=true) : -1≤lstW l (-1) q∧lstW l (-1) q≤1000:=by
  have hb:∀ q,(∀ z,z<q→afP l i z=true)→0≤lowA l 0 q∧lowA l 0 q≤i:=by
    intro q
    induction q with
    | zero=>intro _;exact ⟨Int.le_refl 0,by show (0:Int)≤(i:Int);omega⟩
    | succ q ih=>
      intro h
      have h1:=ih fun z hz=>h z (by omega)
      have h2:=h q (by omega)
      unfold afP at h2
      have h3:=of_decide_eq_true h2
      rw [vQ]
      omega
  have:=hb q h
  rw [mA] at this
  omega
theorem fS (n lo hi:Int) (w:World) :
    Calls Tryz.prog 67 [.int .i64 n,.int .i64 lo,.int .i64 hi].toArray w (Ret (fun v w'=>v = .bool (decide (lo≤n)&&decide (n≤hi))∧w'=w)):=by
 refine enter Tryz.func67 rfl Tryz.ntmps67 rfl (fun a H=>?_)
 have S:=St.start w
 refine sS H fun K1 k1=>sr 1 rfl<|sE ?_;clear H a;intro a H
 refine k1 _ ?_;clear k1 K1
 replace H:=H.keep [0,1,2] rfl
 refine sS H fun K2 k2=>sr 4 rfl<|sg 3 3 10 13 true G G (fun hg4=>sy hg4<|sr 1 rfl<|sy hg4<|sr 1 rfl<|sy hg4<|sr 1 rfl<|sz 3 G G G)<|sa G G G<|sr 1 rfl<|sE ?_;clear H a;intro a H
 refine k2 _ ?_;clear k2 K2
 refine wp_ret ?_
 refine ret1 (fn:=Tryz.f67) rfl H rfl ?_
 exact ⟨rfl,rfl⟩
theorem Rn (mm:Int) (js:List Jq) (JA:Option Addr) (jc:Nat) (AA:Nat→Option Addr) (ac:Nat→Nat) (nv:List Int) (NA:Option Addr) (nc:Nat) (cr un:Int) (w:World) (hjs:InS w noF 3 JA js.length (gF js AA ac)) (hnv:InS w noF 1 NA nv.length (icl nv)) (haf:∀ k,k<js.length→InS w noF 1 (AA k) (js.getD k Jq.zero).after.length (icl (js.getD k Jq.zero).after)) (hjn:js.length≤9223372036854775807) (hnn:nv.length≤9223372036854775807) (han:∀ k,k<js.length→(js.getD k Jq.zero).after.length≤9223372036854775807) :
    Calls Tryz.prog 7 [.agg [.int .i64 mm,.slice JA js.length jc,.slice NA nv.length nc,.int .i64 cr,.int .i64 un].toArray].toArray w (Ret (fun u w'=>u = .bool (farW js nv un)∧St w noF [] w')):=by
 refine enter Tryz.func7 rfl Tryz.ntmps7 rfl (fun a H=>?_)
 have S:=St.start w
 refine seq_list fun K1 k1=>?_
 refine aN H rfl S G G ?_;clear H a S;intro b1 _ a hb1 hbw1 S H
 refine ls 1 H<|sr 1 rfl<|sE ?_;clear H a;intro a H
 refine k1 _ _ ?_;clear k1 K1
 refine wp_seq_k fun K2 k2=>?_
 replace H:=H.keep [1] rfl
 refine sS H fun K3 k3=>sf cG rfl<|sl S 0 dA G G G<|sL eC rfl<|sr 2 rfl<|sg 4 4 9 13 false G G (fun hg5=>by
     have hq5:=hg5;try simp only [o1,o2,o3,o4,o5,o6,o7,o8,o9,oa] at hq5
     exact sy hg5<|sf iK rfl<|sy hg5<|sl S 0 bD G G G<|sy hg5<|sL aS rfl<|sy hg5<|sr 1 rfl<|sz 4 G G G)<|so G G G<|sE ?_;clear H a;intro a H
 refine k3 _ ?_;clear k3 K3
 refine cond_ H rfl (fun hc1=>?_) (fun hc1=>?_)
 ·skip
  try simp only [o1,o2,o3,o4,o5,o6,o7,o8,o9,oa] at hc1
  replace H:=H.keep [] rfl
  refine sS H fun K4 k4=>sr 1 rfl<|sE ?_;clear H a;intro a H
  refine k4 _ ?_;clear k4 K4
  refine wp_ret ?_
  refine ret1 (fn:=Tryz.f7) rfl H rfl ?_
  rw [Rk (by omega)];exact ⟨rfl,(S.sel [] G G)⟩
 try simp only [o1,o2,o3,o4,o5,o6,o7,o8,o9,oa] at hc1
 refine wp_skip ?_
 refine k2 _ _ ?_
 refine sS H fun K5 k5=>sr 1 rfl<|sE ?_;clear H a;intro a H
 refine k5 _ ?_;clear k5 K5
 refine wp_seq_k fun K6 k6=>?_
 refine sS H fun K7 k7=>sr 1 rfl<|sE ?_;clear H a;intro a H
 refine k7 _ ?_;clear k7 K7
 refine wp_block ?_
 rw [show (1:Int)=farN un 0 from rfl] at H
 refine loop_st (X:=Nat) (R0:=_) [1] H rfl (fun i=>[(3,.int .i64 (farN un i)),(4,.int .i64 (i:Int))]) (fun i=>[]) (fun g i=>i≤js.length∧g+i=js.length∧∀ k,k<i→¬ 10<((js.getD k Jq.zero).after.length:Int)) (js.length) 0 ?_ (S.sel [0] G G) (H.keep [3,4,1] rfl) ?_
 · exact ⟨by omega,by omega,fun k hk=>absurd hk (Nat.not_lt_zero k)⟩
 clear H S a
 intro g1 x1 a w1 hp S H K8 k8
 obtain ⟨i,rfl⟩:∃ y,y=x1:=⟨_,rfl⟩
 refine wp_seq_k fun K9 k9=>?_
 refine sS H fun K10 k10=>sr 1 rfl<|sf cG rfl<|sl S 0 dA G G G<|sL eC rfl<|sr 1 rfl<|sE ?_;clear H a;intro a H
 refine k10 _ ?_;clear k10 K10
 refine condL H rfl (fun hc2=>?_) (fun hc2=>?_)
 ·skip
  refine wp_skip ?_
  refine k9 _ _ ?_
  refine wp_seq_k fun K11 k11=>?_
  refine wp_block ?_
  refine wp_seq_k fun K12 k12=>?_
  replace H:=H.keep [1,3,4] rfl
  refine sS H fun K13 k13=>sf cG rfl<|sl S 0 dA G G G<|sr 1 rfl<|si eC eF G G (hjs.adr (by omega)) (by omega)<|sp iX rfl<|slm bD rfl (hjs.rd S (by omega) (by omega))<|sL aS rfl<|sr 1 rfl<|sE ?_;clear H a;intro a H
  refine k13 _ ?_;clear k13 K13
  refine condL H rfl (fun hc3=>?_) (fun hc3=>?_)
  ·skip
   refine sS H fun K14 k14=>sr 1 rfl<|sE ?_;clear H a;intro a H
   refine k14 _ ?_;clear k14 K14
   refine wp_ret ?_
   refine ret1 (fn:=Tryz.f7) rfl H rfl ?_
   rw [Rl (i:=i) (by omega) hc3];exact ⟨rfl,(S.sel [] G G)⟩
  refine wp_skip ?_
  refine k12 _ _ ?_
  have hfb:=vR (un:=un) i
  replace H:=H.keep [1,3,4] rfl
  refine sS H fun K15 k15=>sf eW rfl<|sl S 0 aE G G G<|sr 2 rfl<|sg 3 3 33 36 true G G (fun hg4=>by
      have hq4:=hg4;try simp only [o1,o2,o3,o4,o5,o6,o7,o8,o9,oa] at hq4
      exact sy hg4<|sf eW rfl<|sy hg4<|sl S 0 aE G G G<|sy hg4<|sr 1 rfl<|sz 3 G G G)<|sa G G G<|sr 1 rfl<|sg 2 8 38 40 true G G (fun hg9=>by
      have hq9:=hg9;try simp only [o1,o2,o3,o4,o5,o6,o7,o8,o9,oa] at hq9
      exact sy hg9<|sr 1 rfl<|sy hg9<|sr 1 rfl<|sz 2 G G G)<|sa G G G<|sE ?_;clear H a;intro a H
  refine k15 _ ?_;clear k15 K15
  refine cond_ H rfl (fun hc4=>?_) (fun hc4=>?_)
  ·skip
   try simp only [o1,o2,o3,o4,o5,o6,o7,o8,o9,oa] at hc4
   have hfm:=Im hc4
   replace H:=H.keep [1,3,4] rfl
   refine sO H<|sr 1 rfl<|sf eW rfl<|sl S 0 aE G G G<|sd (iP G G (by unfold i64ok;omega))<|sr 1 rfl<|sE ?_;clear H a;intro a H
   refine k11 _ _ ?_
   refine sO H<|sr 1 rfl<|sd (aK G G (by unfold i64ok;omega))<|sr 1 rfl<|sE ?_;clear H a;intro a H
   rw [Ri hc4] at H
   exact k8 (g1-1) (i+1) a _ (by omega) (⟨by omega,by omega,lK hp.2.2 (by omega)⟩) (S.sel [0] G G) (H.keep [3,4,1] rfl)
  try simp only [o1,o2,o3,o4,o5,o6,o7,o8,o9,oa] at hc4
  refine wp_skip ?_
  refine k11 _ _ ?_
  replace H:=H.keep [1,3,4] rfl
  refine sO H<|sr 1 rfl<|sd (aK G G (by unfold i64ok;omega))<|sr 1 rfl<|sE ?_;clear H a;intro a H
  rw [Rj (by omega)] at H
  exact k8 (g1-1) (i+1) a _ (by omega) (⟨by omega,by omega,lK hp.2.2 (by omega)⟩) (S.sel [0] G G) (H.keep [3,4,1] rfl)
 refine wp_exit ?_
 refine k6 _ _ ?_
 obtain rfl:i=js.length:=by omega
 have hfb:=vR (un:=un) js.length
 replace H:=H.keep [3] rfl
 refine sS H fun K19 k19=>sr 3 rfl<|sg 2 2 48 50 true G G (fun hg3=>by
     have hq3:=hg3;try simp only [o1,o2,o3,o4,o5,o6,o7,o8,o9,oa] at hq3
     exact sy hg3<|sr 1 rfl<|sy hg3<|sr 1 rfl<|sz 2 G G G)<|sa G G G<|sr 1 rfl<|sE ?_;clear H a;intro a H
 refine k19 _ ?_;clear k19 K19
 refine wp_ret ?_
 refine ret1 (fn:=Tryz.f7) rfl H rfl ?_
 rw [Rm (by omega) hp.2.2];exact ⟨rfl,(S.sel [] G G)⟩
theorem tI (mm:Int) (js:List Jq) (JA:Option Addr) (jc:Nat) (AA:Nat→Option Addr) (ac:Nat→Nat) (nv:List Int) (NA:Option Addr) (nc:Nat) (cr un:Int) (w:World) (hjs:InS w noF 3 JA js.length (gF js AA ac)) (hnv:InS w noF 1 NA nv.length (icl nv)) (haf:∀ k,k<js.length→InS w noF 1 (AA k) (js.getD k Jq.zero).after.length (icl (js.getD k Jq.zero).after)) (hjn:js.length≤9223372036854775807) (hnn:nv.length≤9223372036854775807) (han:∀ k,k<js.length→(js.getD k Jq.zero).after.length≤9223372036854775807) :
    Calls Tryz.prog 26 [.agg [.int .i64 mm,.slice JA js.length jc,.slice NA nv.length nc,.int .i64 cr,.int .i64 un].toArray].toArray w (Ret (fun u w'=>u = .int .i64 (wksE mm js nv cr un)∧St w noF [] w')):=by
 refine enter Tryz.func26 rfl Tryz.ntmps26 rfl (fun a H=>?_)
 have S:=St.start w
 refine seq_list fun K1 k1=>?_
 refine aN H rfl S G G ?_;clear H a S;intro b1 _ a hb1 hbw1 S H
 refine ls 1 H<|sr 1 rfl<|sE ?_;clear H a;intro a H
 refine k1 _ _ ?_;clear k1 K1
 refine wp_seq_k fun K2 k2=>?_
 replace H:=H.keep [1] rfl
 refine sS H fun K3 k3=>sf jH rfl<|sl S 0 aE G G G<|sc rfl Tryz.func67 G G (fS _ _ _ _)<|sr 2 rfl<|sg 5 4 12 17 false G G (fun hg5=>by
     have hq5:=hg5;try simp only [o1,o2,o3,o4,o5,o6,o7,o8,o9,oa] at hq5
     exact sy hg5<|sf cG rfl<|sy hg5<|sl S 0 dA G G G<|sy hg5<|sL eC rfl<|sy hg5<|sc rfl Tryz.func67 G G (fS _ _ _ _)<|sy hg5<|sr 1 rfl<|sz 5 G G G)<|so G G G<|sr 1 rfl<|sg 4 11 19 23 false G G (fun hg12=>by
     have hq12:=hg12;try simp only [o1,o2,o3,o4,o5,o6,o7,o8,o9,oa] at hq12
     exact sy hg12<|sf iK rfl<|sy hg12<|sl S 0 bD G G G<|sy hg12<|sL aS rfl<|sy hg12<|sr 1 rfl<|sz 4 G G G)<|so G G G<|sr 1 rfl<|sg 4 17 25 29 false G G (fun hg18=>by
     have hq18:=hg18;try simp only [o1,o2,o3,o4,o5,o6,o7,o8,o9,oa] at hq18
     exact sy hg18<|sf pR rfl<|sy hg18<|sl S 0 aE G G G<|sy hg18<|sc rfl Tryz.func67 G G (fS _ _ _ _)<|sy hg18<|sr 1 rfl<|sz 4 G G G)<|so G G G<|sr 1 rfl<|sg 4 23 31 35 false G G (fun hg24=>by
     have hq24:=hg24;try simp only [o1,o2,o3,o4,o5,o6,o7,o8,o9,oa] at hq24
     exact sy hg24<|sf eW rfl<|sy hg24<|sl S 0 aE G G G<|sy hg24<|sc rfl Tryz.func67 G G (fS _ _ _ _)<|sy hg24<|sr 1 rfl<|sz 4 G G G)<|so G G G<|sE ?_;clear H a;intro a H
 refine k3 _ ?_;clear k3 K3
 refine cond_ H rfl (fun hc1=>?_) (fun hc1=>?_)
 ·skip
  try simp only [o1,o2,o3,o4,o5,o6,o7,o8,o9,oa] at hc1
  replace H:=H.keep [] rfl
  refine sS H fun K4 k4=>sr 1 rfl<|sE ?_;clear H a;intro a H
  refine k4 _ ?_;clear k4 K4
  refine wp_ret ?_
  refine ret1 (fn:=Tryz.f26) rfl H rfl ?_
  rw [Ca (by omega)];exact ⟨rfl,(S.sel [] G G)⟩
 try simp only [o1,o2,o3,o4,o5,o6,o7,o8,o9,oa] at hc1
 have hsz:((1≤mm∧mm≤12)∧(1≤js.length∧js.length≤6)∧nv.length≤20∧(1≤cr∧cr≤6)∧(1≤un∧un≤24)):=by omega
 obtain ⟨hmb,hjb,hnb,hcb,hub⟩:=hsz
 have hpm:=pwm hmb
 refine wp_skip ?_
 refine k2 _ _ ?_
 refine wp_seq_k fun K5 k5=>?_
 refine sS H fun K6 k6=>sr 1 rfl<|sE ?_;clear H a;intro a H
 refine k6 _ ?_;clear k6 K6
 refine wp_block ?_
 refine loop_st (X:=Nat) (R0:=_) [1] H rfl (fun i=>[(3,.int .i64 (i:Int))]) (fun i=>[]) (fun g i=>i≤js.length∧g+i=js.length∧∀ k,k<i→(fun i=>((0≤(js.getD i Jq.zero).mach∧(js.getD i Jq.zero).mach≤mm-1)∧(1≤(js.getD i Jq.zero).nights∧(js.getD i Jq.zero).nights≤24))∧∀ q,q<(js.getD i Jq.zero).after.length→afP (js.getD i Jq.zero).after i q=true) k) (js.length) 0 ?_ (S.sel [0] G G) (H.keep [3,1] rfl) ?_
 · exact ⟨by omega,by omega,fun k hk=>absurd hk (Nat.not_lt_zero k)⟩
 clear H S a
 intro g1 x1 a w1 hp S H K7 k7
 obtain ⟨i,rfl⟩:∃ y,y=x1:=⟨_,rfl⟩
 obtain ⟨hil,hgi,hja⟩:=hp
 refine wp_seq_k fun K8 k8=>?_
 refine sS H fun K9 k9=>sr 1 rfl<|sf cG rfl<|sl S 0 dA G G G<|sL eC rfl<|sr 1 rfl<|sE ?_;clear H a;intro a H
 refine k9 _ ?_;clear k9 K9
 refine condL H rfl (fun hc2=>?_) (fun hc2=>?_)
 ·skip
  refine wp_skip ?_
  refine k8 _ _ ?_
  refine wp_seq_k fun K10 k10=>?_
  refine wp_block ?_
  replace H:=H.keep [1,3] rfl
  refine seq_list fun K11 k11=>?_
  refine ls 5 H<|sf cG rfl<|sl S 0 dA G G G<|sr 1 rfl<|si eC eF G G (hjs.adr (by omega)) (by omega)<|sd ((aV uY eF rfl S hjs (by omega) (by omega)))<|sE ?_;clear H a;intro a H
  refine aI H rfl S Ac ?_;clear H a S;intro b4 _ a hb4 hbw4 S H
  refine aD H S (i:=0) G G G G eF G G ?_
  clear H a S;intro _ a S H
  refine k11 _ _ ?_;clear k11 K11
  refine wp_seq_k fun K12 k12=>?_
  replace H:=H.keep [1,3,4] rfl
  refine sS H fun K13 k13=>sf iV rfl<|sl S 0 aE G G G<|sf jH rfl<|sl S 1 aE G G G<|sd (aR G G (by unfold i64ok;omega))<|sc rfl Tryz.func67 G G (fS _ _ _ _)<|sr 2 rfl<|sg 4 7 56 60 false G G (fun hg8=>by
      have hq8:=hg8;try simp only [o1,o2,o3,o4,o5,o6,o7,o8,o9,oa] at hq8
      exact sy hg8<|sf iW rfl<|sy hg8<|sl S 0 aE G G G<|sy hg8<|sc rfl Tryz.func67 G G (fS _ _ _ _)<|sy hg8<|sr 1 rfl<|sz 4 G G G)<|so G G G<|sE ?_;clear H a;intro a H
  refine k13 _ ?_;clear k13 K13
  refine cond_ H rfl (fun hc3=>?_) (fun hc3=>?_)
  ·skip
   try simp only [o1,o2,o3,o4,o5,o6,o7,o8,o9,oa] at hc3
   replace H:=H.keep [] rfl
   refine sS H fun K14 k14=>sr 1 rfl<|sE ?_;clear H a;intro a H
   refine k14 _ ?_;clear k14 K14
   refine wp_ret ?_
   refine ret1 (fn:=Tryz.f26) rfl H rfl ?_
   rw [Cb (i:=i) (by omega) (by omega)];exact ⟨rfl,(S.sel [] G G)⟩
  try simp only [o1,o2,o3,o4,o5,o6,o7,o8,o9,oa] at hc3
  have hjo:=hc3
  refine wp_skip ?_
  refine k12 _ _ ?_
  refine sS H fun K15 k15=>sr 1 rfl<|sE ?_;clear H a;intro a H
  refine k15 _ ?_;clear k15 K15
  refine sS H fun K16 k16=>sr 1 rfl<|sE ?_;clear H a;intro a H
  refine k16 _ ?_;clear k16 K16
  refine wp_block ?_
  have hai:=han i (by omega)
  refine loop_st (X:=Nat) (R0:=_) [1,3,4] H rfl (fun q=>[(5,.int .i64 (lstW (js.getD i Jq.zero).after (-1) q)),(6,.int .i64 (q:Int))]) (fun q=>[]) (fun g q=>q≤(js.getD i Jq.zero).after.length∧g+q=(js.getD i Jq.zero).after.length∧∀ z,z<q→afP (js.getD i Jq.zero).after i z=true) ((js.getD i Jq.zero).after.length) 0 ?_ (S.sel [0,1] G G) (H.keep [5,6,1,3,4] rfl) ?_
  · exact ⟨by omega,by omega,fun k hk=>absurd hk (Nat.not_lt_zero k)⟩
  clear H S a
  intro g2 x2 a w2 hp S H K17 k17
  obtain ⟨q,rfl⟩:∃ y,y=x2:=⟨_,rfl⟩
  refine wp_seq_k fun K18 k18=>?_
  refine sS H fun K19 k19=>sr 1 rfl<|sf iX rfl<|sl S 0 bD G G G<|sL aS rfl<|sr 1 rfl<|sE ?_;clear H a;intro a H
  refine k19 _ ?_;clear k19 K19
  refine condL H rfl (fun hc4=>?_) (fun hc4=>?_)
  ·skip
   refine wp_skip ?_
   refine k18 _ _ ?_
   refine wp_seq_k fun K20 k20=>?_
   refine wp_block ?_
   refine wp_seq_k fun K21 k21=>?_
   have hlb : -1≤lstW (js.getD i Jq.zero).after (-1) q∧lstW (js.getD i Jq.zero).after (-1) q≤1000:=In (by omega) hp.2.2
   replace H:=H.keep [1,3,4,5,6] rfl
   refine sS H fun K22 k22=>sf iX rfl<|sl S 0 bD G G G<|sr 1 rfl<|si aS bA G G ((haf i (by omega)).adr (by omega)) (by omega)<|slm aE rfl ((haf i (by omega)).rd S (by omega) (by omega))<|sr 1 rfl<|sd (aK G G (by unfold i64ok;omega))<|sr 1 rfl<|sd (aR G G (by unfold i64ok;omega))<|sc rfl Tryz.func67 G G (fS _ _ _ _)<|sr 1 rfl<|sE ?_;clear H a;intro a H
   refine k22 _ ?_;clear k22 K22
   refine cond_ H rfl (fun hc5=>?_) (fun hc5=>?_)
   ·skip
    try simp only [o1,o2,o3,o4,o5,o6,o7,o8,o9,oa] at hc5
    replace H:=H.keep [] rfl
    refine sS H fun K23 k23=>sr 1 rfl<|sE ?_;clear H a;intro a H
    refine k23 _ ?_;clear k23 K23
    refine wp_ret ?_
    refine ret1 (fn:=Tryz.f26) rfl H rfl ?_
    rw [Cc (i:=i) (q:=q) (by omega) (by omega) (Il (by rw [mA];omega))];exact ⟨rfl,(S.sel [] G G)⟩
   try simp only [o1,o2,o3,o4,o5,o6,o7,o8,o9,oa] at hc5
   refine wp_skip ?_
   refine k21 _ _ ?_
   refine sO H<|sf iX rfl<|sl S 0 bD G G G<|sr 1 rfl<|si aS bA G G ((haf i (by omega)).adr (by omega)) (by omega)<|slm aE rfl ((haf i (by omega)).rd S (by omega) (by omega))<|sr 1 rfl<|sE ?_;clear H a;intro a H
   refine k20 _ _ ?_
   replace H:=H.keep [1,3,4,5,6] rfl
   refine sO H<|sr 1 rfl<|sd (aK G G (by unfold i64ok;omega))<|sr 1 rfl<|sE ?_;clear H a;intro a H
   exact k17 (g2-1) (q+1) a _ (by omega) (⟨by omega,by omega,lK hp.2.2 (Ik rfl (by rw [mA];omega))⟩) (S.sel [0,1] G G) (H.keep [5,6,1,3,4] rfl)
  refine wp_exit ?_
  refine k10 _ _ ?_
  refine sO H<|sr 1 rfl<|sd (aK G G (by unfold i64ok;omega))<|sr 1 rfl<|sE ?_;clear H a;intro a H
  exact k7 (g1-1) (i+1) a _ (by omega) (⟨by omega,by omega,lK hja ⟨by omega,fun q9 hq9=>hp.2.2 q9 (by omega)⟩⟩) (S.sel [1] G G) (H.keep [3,1] rfl)
 refine wp_exit ?_
 refine k5 _ _ ?_
 refine wp_seq_k fun K27 k27=>?_
 refine sS H fun K28 k28=>sr 1 rfl<|sE ?_;clear H a;intro a H
 refine k28 _ ?_;clear k28 K28
 refine wp_block ?_
 obtain rfl:i=js.length:=by omega
 refine loop_st (X:=Nat) (R0:=_) [1] H rfl (fun z=>[(7,.int .i64 (z:Int))]) (fun z=>[]) (fun g z=>z≤nv.length∧g+z=nv.length∧∀ k,k<z→nvOk mm (nv.getD k 0)=true) (nv.length) 0 ?_ (S.sel [0] G G) (H.keep [7,1] rfl) ?_
 · exact ⟨by omega,by omega,fun k hk=>absurd hk (Nat.not_lt_zero k)⟩
 clear H S a
 intro g3 x3 a w3 hp S H K29 k29
 obtain ⟨z,rfl⟩:∃ y,y=x3:=⟨_,rfl⟩
 refine wp_seq_k fun K30 k30=>?_
 refine sS H fun K31 k31=>sr 1 rfl<|sf iK rfl<|sl S 0 bD G G G<|sL aS rfl<|sr 1 rfl<|sE ?_;clear H a;intro a H
 refine k31 _ ?_;clear k31 K31
 refine condL H rfl (fun hc6=>?_) (fun hc6=>?_)
 ·skip
  refine wp_skip ?_
  refine k30 _ _ ?_
  refine wp_seq_k fun K32 k32=>?_
  refine wp_block ?_
  replace H:=H.keep [1,7] rfl
  replace S:=S.drew
  refine sD H fun K33 k33=>sf iK rfl<|sl S 0 bD G G G<|sr 1 rfl<|si aS bA G G (hnv.adr (by omega)) (by omega)<|slm aE rfl (hnv.rd S (by omega) (by omega))<|sf jH rfl<|sl S 0 aE G G G<|sd (kH Tryz.underlying3 Tryz.underlying52 rfl (by first|omega|exact IntWalk.i64_in _ (by omega)|exact IntWalk.u64_in _ (by omega)))<|sd (dG G G (by omega) (by omega) (by unfold i64ok;omega))<|sd (aR G G (by unfold i64ok;omega))<|sc rfl Tryz.func67 G G (fS _ _ _ _)<|sr 1 rfl<|sE ?_;clear H a;intro a H
  refine k33 _ ?_;clear k33 K33
  refine cond_ H rfl (fun hc7=>?_) (fun hc7=>?_)
  ·skip
   try simp only [o1,o2,o3,o4,o5,o6,o7,o8,o9,oa] at hc7
   replace H:=H.keep [] rfl
   refine sS H fun K34 k34=>sr 1 rfl<|sE ?_;clear H a;intro a H
   refine k34 _ ?_;clear k34 K34
   refine wp_ret ?_
   refine ret1 (fn:=Tryz.f26) rfl H rfl ?_
   rw [Cd (q:=z) (by omega) (decide_eq_false (by omega))];exact ⟨rfl,(S.sel [] G G)⟩
  try simp only [o1,o2,o3,o4,o5,o6,o7,o8,o9,oa] at hc7
  refine wp_skip ?_
  refine k32 _ _ ?_
  refine sO H<|sr 1 rfl<|sd (aK G G (by unfold i64ok;omega))<|sr 1 rfl<|sE ?_;clear H a;intro a H
  exact k29 (g3-1) (z+1) a _ (by omega) (⟨by omega,by omega,lK hp.2.2 (decide_eq_true (by omega))⟩) (S.sel [0] G G) (H.keep [7,1] rfl)
 refine wp_exit ?_
 refine k27 _ _ ?_
 refine sS H fun K36 k36=>sr 1 rfl<|sE ?_;clear H a;intro a H
 refine k36 _ ?_;clear k36 K36
 refine wp_ret ?_
 refine ret1 (fn:=Tryz.f26) rfl H rfl ?_
 rw [Pu ⟨hmb,hjb,hnb,hcb,hub⟩ hja (fun q9 hq9=>hp.2.2 q9 (by omega))];exact ⟨rfl,(S.sel [] G G)⟩
theorem eT (n lo hi:Int) (w:World) :
    Calls Tryz.prog 108 [.int .i64 n,.int .i64 lo,.int .i64 hi].toArray w (Ret (fun v w'=>v = .bool (decide (lo≤n)&&decide (n≤hi))∧w'=w)):=by
 refine enter Tryz.func108 rfl Tryz.ntmps108 rfl (fun a H=>?_)
 have S:=St.start w
 refine sS H fun K1 k1=>sr 1 rfl<|sE ?_;clear H a;intro a H
 refine k1 _ ?_;clear k1 K1
 replace H:=H.keep [0,1,2] rfl
 refine sS H fun K2 k2=>sr 4 rfl<|sg 3 3 10 13 true G G (fun hg4=>sy hg4<|sr 1 rfl<|sy hg4<|sr 1 rfl<|sy hg4<|sr 1 rfl<|sz 3 G G G)<|sa G G G<|sr 1 rfl<|sE ?_;clear H a;intro a H
 refine k2 _ ?_;clear k2 K2
 refine wp_ret ?_
 refine ret1 (fn:=Tryz.f108) rfl H rfl ?_
 exact ⟨rfl,rfl⟩
end
section
def lowW (l:List Int):Nat→Int
  | 0=>0
  | q+1=>l.getD q 0+1
theorem oW {l:List Int}:∀ {q},lowA l 0 q=lowW l q:=fun {q}=>by
  cases q with
  | zero=>rfl
  | succ q=>unfold lowA;rw [if_neg (by omega)];rfl
theorem Mk {l:List Int} {i q:Nat} (hi:i≤6) (h:∀ z,z<q→afP l i z=true):0≤lowW l q∧lowW l q≤1001:=by
  have:=In hi h
  rw [←oW,mA]
  omega
theorem Ml {mm n:Int}:nvOk mm n=(decide (1≤n)&&decide (n≤1*2^mm.toNat-1)):=by unfold nvOk;rw [Bool.decide_and]
section
variable {mm cr un n:Int} {js:List Jq} {nv st:List Int} {i k q:Nat}
theorem Ro (h:(nv.any fun x=>!nvOk mm x)=true):wksE mm js nv cr un=92:=by
  rw [List.any_eq_true] at h
  obtain ⟨x,hx,h⟩:=h
  obtain ⟨q,hq,rfl⟩:=List.getElem_of_mem hx
  refine Cd (q:=q) hq ?_
  rw [List.getD_eq_getElem?_getD,List.getElem?_eq_getElem hq,Option.getD_some]
  simpa using h
theorem Mm (h:(nv.any fun x=>!nvOk mm x)=false):∀ q,q<nv.length→nvOk mm (nv.getD q 0)=true:=fun q hq=>by
  rw [List.any_eq_false] at h
  have h2:=h nv[q] (List.getElem_mem hq)
  rw [List.getD_eq_getElem?_getD,List.getElem?_eq_getElem hq,Option.getD_some]
  simpa using h2
theorem Ud (h:st.getD i 0≤n∧n<st.getD i 0+(js.getD i Jq.zero).nights):atB js st n i=true:=by unfold atB;rw [decide_eq_true h.1,decide_eq_true h.2];rfl
theorem Ue (h:¬ (st.getD i 0≤n∧n<st.getD i 0+(js.getD i Jq.zero).nights)):atB js st n i=false:=by
  unfold atB
  rw [Bool.and_eq_false_iff,decide_eq_false_iff_not,decide_eq_false_iff_not]
  by_cases h1:st.getD i 0≤n
  · exact .inr fun h2=>h ⟨h1,h2⟩
  · exact .inl h1
theorem Io (h:atB js st n i=true):lorW (nSet js st n i) (1*2^(js.getD i Jq.zero).mach.toNat)=nSet js st n (i+1):=by rw [nSet,if_pos h]
theorem Ip (h:atB js st n i=false):nSet js st n i=nSet js st n (i+1):=by rw [nSet,if_neg (by rw [h];simp)]
theorem Ce (h:atB js st n i=true):nJobs js st n i+1=nJobs js st n (i+1):=by rw [nJobs,if_pos h]
theorem Cf (h:atB js st n i=false):nJobs js st n i=nJobs js st n (i+1):=by rw [nJobs,if_neg (by rw [h];simp)]
theorem Uf (h:atB js st n i=true):(jN js st n i||decide (nSet js st n i/2^(js.getD i Jq.zero).mach.toNat%2=1))=jN js st n (i+1):=by rw [jN,if_pos h]
theorem Ug (h:atB js st n i=false):jN js st n i=jN js st n (i+1):=by rw [jN,if_neg (by rw [h];simp)]
theorem Ec (V:WkV mm js nv cr un):0≤nSet js st n js.length∧nSet js st n js.length≤4095:=by
  have h1:=qB (st:=st) (d:=n) V js.length (Nat.le_refl _)
  have h2:=pw12 (m:=mm) (by have:=V.mmb;omega)
  omega
end
theorem Ed (mm:Int) (js:List Jq) (JA:Option Addr) (jc:Nat) (AA:Nat→Option Addr) (ac:Nat→Nat) (nv:List Int) (NA:Option Addr) (nc:Nat) (cr un:Int) (cb fb:Nat) (n:Int) (w:World) (F:Nat→Prop) (S:St w F [boxM cb 28 [.int .i64 mm,.slice JA js.length jc,.slice NA nv.length nc,.int .i64 cr,.int .i64 un],boxM fb 107 [.func (.func 108) #[] #[]]] w) (hmm:1≤mm∧mm≤12) :
    Calls Tryz.prog 109 [.int .i64 n,.pointer (some ⟨fb,0,none⟩),.pointer (some ⟨cb,0,none⟩)].toArray w (Ret (fun u w'=>u = .bool (!nvOk mm n)∧St w F [boxM cb 28 [.int .i64 mm,.slice JA js.length jc,.slice NA nv.length nc,.int .i64 cr,.int .i64 un],boxM fb 107 [.func (.func 108) #[] #[]]] w')):=by
 have hpm:=pwm hmm
 refine enter Tryz.func109 rfl Tryz.ntmps109 rfl (fun a H=>?_)
 skip
 refine sS H fun K1 k1=>sr 1 rfl<|sE ?_;clear H a;intro a H
 refine k1 _ ?_;clear k1 K1
 replace H:=H.keep [0,1,2] rfl
 replace S:=S.drew
 refine sD H fun K2 k2=>sl S 1 jF G G G<|sr 1 rfl<|sf jH rfl<|sl S 0 aE G G G<|sd (dG G G (by omega) (by omega) (by unfold i64ok;omega))<|sd (aR G G (by unfold i64ok;omega))<|scv G G Tryz.func108 G G (eT _ _ _ _)<|sr 2 rfl<|sE ?_;clear H a;intro a H
 refine k2 _ ?_;clear k2 K2
 refine wp_ret ?_
 refine ret1 (fn:=Tryz.f109) rfl H rfl ?_
 rw [Ml];exact ⟨rfl,(S.sel [0,1] G G)⟩
theorem Ee (mm:Int) (js:List Jq) (JA:Option Addr) (jc:Nat) (AA:Nat→Option Addr) (ac:Nat→Nat) (nv:List Int) (NA:Option Addr) (nc:Nat) (cr un:Int) (cb fb:Nat) (w:World) (F:Nat→Prop) (S:St w F [bun [boxM cb 28 [.int .i64 mm,.slice JA js.length jc,.slice NA nv.length nc,.int .i64 cr,.int .i64 un],boxM fb 107 [.func (.func 108) #[] #[]]]] w) (hnv:InS w F 1 NA nv.length (icl nv)) (hnn:nv.length≤9223372036854775807) (hmm:1≤mm∧mm≤12):Calls Tryz.prog 43 #[.slice NA nv.length nc,.func (.func 109) #[] #[.pointer (some ⟨fb,0,none⟩),.pointer (some ⟨cb,0,none⟩)]] w (Ret fun u w'=>u = .bool (nv.any fun n=>!nvOk mm n)∧St w F [bun [boxM cb 28 [.int .i64 mm,.slice JA js.length jc,.slice NA nv.length nc,.int .i64 cr,.int .i64 un],boxM fb 107 [.func (.func 108) #[] #[]]]] w'):=by
  have hh:=dF nv NA nc 109 _ [] [.pointer (some ⟨fb,0,none⟩),.pointer (some ⟨cb,0,none⟩)] (fun n=>!nvOk mm n) _ w F S hnv hnn Tryz.func109 G G (fun k w' hk S'=>jY (Ed mm js JA jc AA ac nv NA nc cr un cb fb (nv.getD k 0) w' _ (St.unpack (R:=[]) S'.startR) hmm) fun v w'' h=>⟨h.1,St.pack (Ms:=[_,_]) (R:=[]) h.2⟩)
  exact hh
theorem oX (mm:Int) (js:List Jq) (JA:Option Addr) (jc:Nat) (AA:Nat→Option Addr) (ac:Nat→Nat) (nv:List Int) (NA:Option Addr) (nc:Nat) (cr un:Int) (w:World) (hjs:InS w noF 3 JA js.length (gF js AA ac)) (hnv:InS w noF 1 NA nv.length (icl nv)) (haf:∀ k,k<js.length→InS w noF 1 (AA k) (js.getD k Jq.zero).after.length (icl (js.getD k Jq.zero).after)) (hjn:js.length≤9223372036854775807) (hnn:nv.length≤9223372036854775807) (han:∀ k,k<js.length→(js.getD k Jq.zero).after.length≤9223372036854775807) :
    Calls Tryz.prog 71 [.agg [.int .i64 mm,.slice JA js.length jc,.slice NA nv.length nc,.int .i64 cr,.int .i64 un].toArray].toArray w (Ret (fun u w'=>u = .int .i64 (wksE mm js nv cr un)∧St w noF [] w')):=by
 refine enter Tryz.func71 rfl Tryz.ntmps71 rfl (fun a H=>?_)
 have S:=St.start w
 refine seq_list fun K1 k1=>?_
 refine aN H rfl S G G ?_;clear H a S;intro b1 _ a hb1 hbw1 S H
 refine ls 1 H<|sr 1 rfl<|sE ?_;clear H a;intro a H
 refine k1 _ _ ?_;clear k1 K1
 refine seq_list fun K2 k2=>?_
 refine aI H rfl S Qk ?_;clear H a S;intro b3 _ a hb3 hbw3 S H
 refine aD H S (i:=0) G G G G Qh G G ?_
 clear H a S;intro _ a S H
 refine k2 _ _ ?_;clear k2 K2
 refine wp_seq_k fun K3 k3=>?_
 replace H:=H.keep [1,3] rfl
 refine sS H fun K4 k4=>sl S 0 jF G G G<|sf jH rfl<|sl S 1 aE G G G<|scv G G Tryz.func108 G G (eT _ _ _ _)<|sr 2 rfl<|sg 6 5 14 20 false G G (fun hg6=>by
     have hq6:=hg6;try simp only [o1,o2,o3,o4,o5,o6,o7,o8,o9,oa] at hq6
     exact sy hg6<|sl S 0 jF G G G<|sy hg6<|sf cG rfl<|sy hg6<|sl S 1 dA G G G<|sy hg6<|sL eC rfl<|sy hg6<|scv G G Tryz.func108 G G (eT _ _ _ _)<|sy hg6<|sr 1 rfl<|sz 6 G G G)<|so G G G<|sr 1 rfl<|sg 4 13 22 26 false G G (fun hg14=>by
     have hq14:=hg14;try simp only [o1,o2,o3,o4,o5,o6,o7,o8,o9,oa] at hq14
     exact sy hg14<|sf iK rfl<|sy hg14<|sl S 1 bD G G G<|sy hg14<|sL aS rfl<|sy hg14<|sr 1 rfl<|sz 4 G G G)<|so G G G<|sr 1 rfl<|sg 5 19 28 33 false G G (fun hg20=>by
     have hq20:=hg20;try simp only [o1,o2,o3,o4,o5,o6,o7,o8,o9,oa] at hq20
     exact sy hg20<|sl S 0 jF G G G<|sy hg20<|sf pR rfl<|sy hg20<|sl S 1 aE G G G<|sy hg20<|scv G G Tryz.func108 G G (eT _ _ _ _)<|sy hg20<|sr 1 rfl<|sz 5 G G G)<|so G G G<|sr 1 rfl<|sg 5 26 35 40 false G G (fun hg27=>by
     have hq27:=hg27;try simp only [o1,o2,o3,o4,o5,o6,o7,o8,o9,oa] at hq27
     exact sy hg27<|sl S 0 jF G G G<|sy hg27<|sf eW rfl<|sy hg27<|sl S 1 aE G G G<|sy hg27<|scv G G Tryz.func108 G G (eT _ _ _ _)<|sy hg27<|sr 1 rfl<|sz 5 G G G)<|so G G G<|sE ?_;clear H a;intro a H
 refine k4 _ ?_;clear k4 K4
 refine cond_ H rfl (fun hc1=>?_) (fun hc1=>?_)
 ·skip
  try simp only [o1,o2,o3,o4,o5,o6,o7,o8,o9,oa] at hc1
  replace H:=H.keep [] rfl
  refine sS H fun K5 k5=>sr 1 rfl<|sE ?_;clear H a;intro a H
  refine k5 _ ?_;clear k5 K5
  refine wp_ret ?_
  refine ret1 (fn:=Tryz.f71) rfl H rfl ?_
  rw [Ca (by omega)];exact ⟨rfl,(S.sel [] G G)⟩
 try simp only [o1,o2,o3,o4,o5,o6,o7,o8,o9,oa] at hc1
 have hsz:((1≤mm∧mm≤12)∧(1≤js.length∧js.length≤6)∧nv.length≤20∧(1≤cr∧cr≤6)∧(1≤un∧un≤24)):=by omega
 obtain ⟨hmb,hjb,hnb,hcb,hub⟩:=hsz
 have hpm:=pwm hmb
 refine wp_skip ?_
 refine k3 _ _ ?_
 refine wp_seq_k fun K6 k6=>?_
 refine sS H fun K7 k7=>sf cG rfl<|sl S 1 dA G G G<|sL eC rfl<|sr 1 rfl<|sE ?_;clear H a;intro a H
 refine k7 _ ?_;clear k7 K7
 refine wp_block ?_
 refine loop_st (X:=Nat) (R0:=_) [1,3,43,44] H rfl (fun i=>[(45,.int .i64 (i:Int))]) (fun i=>[]) (fun g i=>i≤js.length∧g+i=js.length∧∀ k,k<i→(fun i=>((0≤(js.getD i Jq.zero).mach∧(js.getD i Jq.zero).mach≤mm-1)∧(1≤(js.getD i Jq.zero).nights∧(js.getD i Jq.zero).nights≤24))∧∀ q,q<(js.getD i Jq.zero).after.length→afP (js.getD i Jq.zero).after i q=true) k) (js.length) 0 ?_ (S.sel [0,1] G G) (H.keep [45,1,3,43,44] rfl) ?_
 · exact ⟨by omega,by omega,fun k hk=>absurd hk (Nat.not_lt_zero k)⟩
 clear H S a
 intro g1 x1 a w1 hp S H K8 k8
 obtain ⟨i,rfl⟩:∃ y,y=x1:=⟨_,rfl⟩
 obtain ⟨hil,hgi,hja⟩:=hp
 refine sS H fun K9 k9=>sr 1 rfl<|sE ?_;clear H a;intro a H
 refine k9 _ ?_;clear k9 K9
 refine wp_seq_k fun K10 k10=>?_
 refine condL H rfl (fun hc2=>?_) (fun hc2=>?_)
 ·skip
  refine wp_skip ?_
  refine k10 _ _ ?_
  refine wp_seq_k fun K11 k11=>?_
  refine wp_block ?_
  refine seq_list fun K12 k12=>?_
  refine ls 3 H<|sr 1 rfl<|si eC eF G G (hjs.adr (by omega)) (by omega)<|sd ((aV uY eF rfl S hjs (by omega) (by omega)))<|sE ?_;clear H a;intro a H
  refine aI H rfl S Ac ?_;clear H a S;intro b5 _ a hb5 hbw5 S H
  refine ls 1 H<|sr 1 rfl<|sE ?_;clear H a;intro a H
  refine aD H S (i:=0) G G G G eF G G ?_
  clear H a S;intro _ a S H
  refine k12 _ _ ?_;clear k12 K12
  refine wp_seq_k fun K13 k13=>?_
  replace H:=H.keep [1,3,4,5,43,44,45] rfl
  refine sS H fun K14 k14=>sl S 1 jF G G G<|sf iV rfl<|sl S 0 aE G G G<|sf jH rfl<|sl S 2 aE G G G<|sd (aR G G (by unfold i64ok;omega))<|scv G G Tryz.func108 G G (eT _ _ _ _)<|sr 2 rfl<|sg 5 8 58 63 false G G (fun hg9=>by
      have hq9:=hg9;try simp only [o1,o2,o3,o4,o5,o6,o7,o8,o9,oa] at hq9
      exact sy hg9<|sl S 1 jF G G G<|sy hg9<|sf iW rfl<|sy hg9<|sl S 0 aE G G G<|sy hg9<|scv G G Tryz.func108 G G (eT _ _ _ _)<|sy hg9<|sr 1 rfl<|sz 5 G G G)<|so G G G<|sE ?_;clear H a;intro a H
  refine k14 _ ?_;clear k14 K14
  refine cond_ H rfl (fun hc3=>?_) (fun hc3=>?_)
  ·skip
   try simp only [o1,o2,o3,o4,o5,o6,o7,o8,o9,oa] at hc3
   replace H:=H.keep [] rfl
   refine sS H fun K15 k15=>sr 1 rfl<|sE ?_;clear H a;intro a H
   refine k15 _ ?_;clear k15 K15
   refine wp_ret ?_
   refine ret1 (fn:=Tryz.f71) rfl H rfl ?_
   rw [Cb (i:=i) (by omega) (by omega)];exact ⟨rfl,(S.sel [] G G)⟩
  try simp only [o1,o2,o3,o4,o5,o6,o7,o8,o9,oa] at hc3
  have hjo:=hc3
  refine wp_skip ?_
  refine k13 _ _ ?_
  refine sS H fun K16 k16=>sr 1 rfl<|sE ?_;clear H a;intro a H
  refine k16 _ ?_;clear k16 K16
  refine sS H fun K17 k17=>sf iX rfl<|sl S 0 bD G G G<|sL aS rfl<|sr 1 rfl<|sE ?_;clear H a;intro a H
  refine k17 _ ?_;clear k17 K17
  refine wp_block ?_
  have hai:=han i (by omega)
  refine loop_st (X:=Nat) (R0:=_) [1,3,4,43,44,45,66,67] H rfl (fun q=>[(6,.int .i64 (lowW (js.getD i Jq.zero).after q)),(68,.int .i64 (q:Int))]) (fun q=>[]) (fun g q=>q≤(js.getD i Jq.zero).after.length∧g+q=(js.getD i Jq.zero).after.length∧∀ z,z<q→afP (js.getD i Jq.zero).after i z=true) ((js.getD i Jq.zero).after.length) 0 ?_ (S.sel [0,1,2] G G) (H.keep [6,68,1,3,4,43,44,45,66,67] rfl) ?_
  · exact ⟨by omega,by omega,fun k hk=>absurd hk (Nat.not_lt_zero k)⟩
  clear H S a
  intro g2 x2 a w2 hp S H K18 k18
  obtain ⟨q,rfl⟩:∃ y,y=x2:=⟨_,rfl⟩
  refine sS H fun K19 k19=>sr 1 rfl<|sE ?_;clear H a;intro a H
  refine k19 _ ?_;clear k19 K19
  refine wp_seq_k fun K20 k20=>?_
  refine condL H rfl (fun hc4=>?_) (fun hc4=>?_)
  ·skip
   refine wp_skip ?_
   refine k20 _ _ ?_
   refine wp_seq_k fun K21 k21=>?_
   refine wp_block ?_
   refine sS H fun K22 k22=>si aS bA G G ((haf i (by omega)).adr (by omega)) (by omega)<|slm aE rfl ((haf i (by omega)).rd S (by omega) (by omega))<|sr 1 rfl<|sE ?_;clear H a;intro a H
   refine k22 _ ?_;clear k22 K22
   refine wp_seq_k fun K23 k23=>?_
   have hlb:=Mk (l:=(js.getD i Jq.zero).after) (i:=i) (q:=q) (by omega) hp.2.2
   replace H:=H.keep [1,3,4,6,8,43,44,45,66,67,68] rfl
   refine sS H fun K24 k24=>sl S 1 jF G G G<|sr 3 rfl<|sd (aR G G (by unfold i64ok;omega))<|scv G G Tryz.func108 G G (eT _ _ _ _)<|sr 1 rfl<|sE ?_;clear H a;intro a H
   refine k24 _ ?_;clear k24 K24
   refine cond_ H rfl (fun hc5=>?_) (fun hc5=>?_)
   ·skip
    try simp only [o1,o2,o3,o4,o5,o6,o7,o8,o9,oa] at hc5
    refine sS H fun K25 k25=>sr 1 rfl<|sE ?_;clear H a;intro a H
    refine k25 _ ?_;clear k25 K25
    refine wp_ret ?_
    refine ret1 (fn:=Tryz.f71) rfl H rfl ?_
    rw [Cc (i:=i) (q:=q) (by omega) (by omega) (Il (by rw [oW];omega))];exact ⟨rfl,(S.sel [] G G)⟩
   try simp only [o1,o2,o3,o4,o5,o6,o7,o8,o9,oa] at hc5
   refine wp_skip ?_
   refine k23 _ _ ?_
   replace H:=H.keep [1,3,4,8,43,44,45,66,67,68] rfl
   refine sO H<|sr 1 rfl<|sd (aK G G (by unfold i64ok;omega))<|sr 1 rfl<|sE ?_;clear H a;intro a H
   refine k21 _ _ ?_
   refine sO H<|sd (aK G G (by unfold i64ok;omega))<|sr 1 rfl<|sE ?_;clear H a;intro a H
   exact k18 (g2-1) (q+1) a _ (by omega) (⟨by omega,by omega,lK hp.2.2 (Ik rfl (by rw [oW];omega))⟩) (S.sel [0,1,2] G G) (H.keep [6,68,1,3,4,43,44,45,66,67] rfl)
  refine wp_exit ?_
  refine k11 _ _ ?_
  refine sO H<|sd (aK G G (by unfold i64ok;omega))<|sr 1 rfl<|sE ?_;clear H a;intro a H
  exact k8 (g1-1) (i+1) a _ (by omega) (⟨by omega,by omega,lK hja ⟨by omega,fun q9 hq9=>hp.2.2 q9 (by omega)⟩⟩) (S.sel [1,2] G G) (H.keep [45,1,3,43,44] rfl)
 refine wp_exit ?_
 refine k6 _ _ ?_
 refine wp_seq_k fun K29 k29=>?_
 obtain rfl:i=js.length:=by omega
 replace H:=H.keep [1,3] rfl
 refine seq_list fun K30 k30=>?_
 refine ls 3 H<|sf iK rfl<|sl S 1 bD G G G<|sr 1 rfl<|sE ?_;clear H a;intro a H
 have S1:=(S.sel [1,0] G G)
 have SB:=St.pack (Ms:=[_,_]) (R:=[]) S1
 refine aA H G G Tryz.func43 G G (Ee mm js JA jc AA ac nv NA nc cr un b1 b3 _ _ SB.startR (hnv.nowR SB) hnn hmb) ?_;clear H a
 rintro _ _ a ⟨rfl,S2⟩ H
 replace S:=St.unpack ((St.pack (Ms:=[_,_]) (R:=[]) S1).callR (M:=[_]) S2);clear S1 S2 SB
 refine k30 _ _ ?_;clear k30 K30
 refine cond_ H rfl (fun hc6=>?_) (fun hc6=>?_)
 ·skip
  try simp only [o1,o2,o3,o4,o5,o6,o7,o8,o9,oa] at hc6
  refine sS H fun K31 k31=>sr 1 rfl<|sE ?_;clear H a;intro a H
  refine k31 _ ?_;clear k31 K31
  refine wp_ret ?_
  refine ret1 (fn:=Tryz.f71) rfl H rfl ?_
  rw [Ro hc6];exact ⟨rfl,(S.sel [] G G)⟩
 try simp only [o1,o2,o3,o4,o5,o6,o7,o8,o9,oa] at hc6
 refine wp_skip ?_
 refine k29 _ _ ?_
 refine sS H fun K32 k32=>sr 1 rfl<|sE ?_;clear H a;intro a H
 refine k32 _ ?_;clear k32 K32
 refine wp_ret ?_
 refine ret1 (fn:=Tryz.f71) rfl H rfl ?_
 rw [Pu ⟨hmb,hjb,hnb,hcb,hub⟩ hja (Mm hc6)];exact ⟨rfl,(S.sel [] G G)⟩
theorem xX (mm:Int) (js:List Jq) (JA:Option Addr) (jc:Nat) (AA:Nat→Option Addr) (ac:Nat→Nat) (nv:List Int) (NA:Option Addr) (nc:Nat) (cr un:Int) (st:List Int) (SA:Option Addr) (sc:Nat) (n:Int) (w:World) (hjs:InS w noF 3 JA js.length (gF js AA ac)) (hnv:InS w noF 1 NA nv.length (icl nv)) (haf:∀ k,k<js.length→InS w noF 1 (AA k) (js.getD k Jq.zero).after.length (icl (js.getD k Jq.zero).after)) (hst:InS w noF 1 SA st.length (icl st)) (hsl:st.length=js.length) (V:WkV mm js nv cr un) (hsb:∀ k,k<js.length→0≤st.getD k 0∧st.getD k 0≤24) :
    Calls Tryz.prog 45 [.agg [.int .i64 mm,.slice JA js.length jc,.slice NA nv.length nc,.int .i64 cr,.int .i64 un].toArray,.slice SA st.length sc,.int .i64 n].toArray w (Ret (fun u w'=>u = .tuple #[.int .i64 (nSet js st n js.length),.int .i64 (nJobs js st n js.length),.bool (jN js st n js.length)]∧St w noF [] w')):=by
 have hjl:=V.nj
 have hmb:=V.mmb
 refine enter Tryz.func45 rfl Tryz.ntmps45 rfl (fun a H=>?_)
 have S:=St.start w
 refine seq_list fun K1 k1=>?_
 refine aN H rfl S G G ?_;clear H a S;intro b3 _ a hb3 hbw3 S H
 refine ls 3 H<|sr 3 rfl<|sE ?_;clear H a;intro a H
 refine k1 _ _ ?_;clear k1 K1
 refine wp_seq_k fun K2 k2=>?_
 refine sS H fun K3 k3=>sf cG rfl<|sl S 0 dA G G G<|sL eC rfl<|sr 1 rfl<|sE ?_;clear H a;intro a H
 refine k3 _ ?_;clear k3 K3
 refine wp_block ?_
 refine loop_st (X:=Nat) (R0:=_) [1,2,12,13] H rfl (fun i=>[(6,.int .i64 (nSet js st n i)),(7,.int .i64 (nJobs js st n i)),(8,.bool (jN js st n i)),(14,.int .i64 (i:Int))]) (fun i=>[]) (fun g i=>i≤js.length∧g+i=js.length) (js.length) 0 ?_ (S.sel [0] G G) (H.keep [6,7,8,14,1,2,12,13] rfl) ?_
 · exact ⟨by omega,by omega⟩
 clear H S a
 intro g1 x1 a w1 hp S H K4 k4
 obtain ⟨i,rfl⟩:∃ y,y=x1:=⟨_,rfl⟩
 refine sS H fun K5 k5=>sr 1 rfl<|sE ?_;clear H a;intro a H
 refine k5 _ ?_;clear k5 K5
 refine wp_seq_k fun K6 k6=>?_
 refine condL H rfl (fun hc1=>?_) (fun hc1=>?_)
 ·skip
  refine wp_skip ?_
  refine k6 _ _ ?_
  refine wp_seq_k fun K7 k7=>?_
  refine wp_block ?_
  refine seq_list fun K8 k8=>?_
  refine ls 3 H<|sr 1 rfl<|si eC eF G G (hjs.adr (by omega)) (by omega)<|sd ((aV uY eF rfl S hjs (by omega) (by omega)))<|sE ?_;clear H a;intro a H
  refine aI H rfl S Ac ?_;clear H a S;intro b10 _ a hb10 hbw10 S H
  refine ls 1 H<|sr 1 rfl<|sE ?_;clear H a;intro a H
  refine aD H S (i:=0) G G G G eF G G ?_
  clear H a S;intro _ a S H
  refine k8 _ _ ?_;clear k8 K8
  have hsi:=hsb i (by omega)
  have hji:=V.job i (by omega)
  have hpj:=pw12 (m:=(js.getD i Jq.zero).mach) (by omega)
  have hpm:=pw12 (m:=mm) (by omega)
  have hnb:=qB (st:=st) (d:=n) V i (by omega)
  have hjb:=xW (js:=js) (st:=st) (d:=n) i
  replace H:=H.keep [1,2,6,7,8,9,10,12,13,14] rfl
  replace S:=S.drew
  refine sD H fun K9 k9=>sr 2 rfl<|si aS bA G G (hst.adr (by omega)) (by omega)<|slm aE rfl (hst.rd S (by omega) (by omega))<|sr 3 rfl<|sg 9 6 25 34 true G G (fun hg7=>by
      have hq7:=hg7;try simp only [o1,o2,o3,o4,o5,o6,o7,o8,o9,oa] at hq7
      exact sy hg7<|sr 1 rfl<|sy hg7<|sr 1 rfl<|sy hg7<|sr 1 rfl<|sy hg7<|si aS bA G G (hst.adr (by omega)) (by omega)<|sy hg7<|slm aE rfl (hst.rd S (by omega) (by omega))<|sy hg7<|sf iW rfl<|sy hg7<|sl S 0 aE G G G<|sy hg7<|sd (aK G G (by unfold i64ok;omega))<|sy hg7<|sr 1 rfl<|sz 9 G G G)<|sa G G G<|sE ?_;clear H a;intro a H
  refine k9 _ ?_;clear k9 K9
  refine cond_ H rfl (fun hc2=>?_) (fun hc2=>?_)
  ·skip
   try simp only [o1,o2,o3,o4,o5,o6,o7,o8,o9,oa] at hc2
   replace H:=H.keep [1,2,6,7,8,10,12,13,14] rfl
   refine sS H fun K10 k10=>sr 1 rfl<|sd (aK G G (by unfold i64ok;omega))<|sr 1 rfl<|sE ?_;clear H a;intro a H
   refine k10 _ ?_;clear k10 K10
   replace H:=H.keep [1,2,6,7,8,10,12,13,14] rfl
   refine sS H fun K11 k11=>sr 2 rfl<|sg 6 1 39 45 false G G (fun hg2=>by
       have hq2:=hg2;try simp only [o1,o2,o3,o4,o5,o6,o7,o8,o9,oa] at hq2
       exact sy hg2<|sr 1 rfl<|sy hg2<|sf iV rfl<|sy hg2<|sl S 0 aE G G G<|sy hg2<|sd (fD G G (by omega) (by omega))<|sy hg2<|sd (eL G G)<|sy hg2<|sr 1 rfl<|sz 6 G G G)<|so G G G<|sr 1 rfl<|sE ?_;clear H a;intro a H
   refine k11 _ ?_;clear k11 K11
   replace H:=H.keep [1,2,6,7,8,10,12,13,14] rfl
   refine sO H<|sr 1 rfl<|sf iV rfl<|sl S 0 aE G G G<|sd (dG G G (by omega) (by omega) (by unfold i64ok;omega))<|sd (tU G G (by omega) (by omega))<|sr 1 rfl<|sE ?_;clear H a;intro a H
   refine k7 _ _ ?_
   refine sO H<|sd (aK G G (by unfold i64ok;omega))<|sr 1 rfl<|sE ?_;clear H a;intro a H
   have hat:=Ud (js:=js) (st:=st) (n:=n) (i:=i) (by omega)
   rw [Uf hat,Io hat,Ce hat] at H
   exact k4 (g1-1) (i+1) a _ (by omega) (⟨by omega,by omega⟩) (S.sel [1] G G) (H.keep [6,7,8,14,1,2,12,13] rfl)
  try simp only [o1,o2,o3,o4,o5,o6,o7,o8,o9,oa] at hc2
  refine wp_skip ?_
  refine k7 _ _ ?_
  replace H:=H.keep [1,2,6,7,8,12,13,14] rfl
  refine sO H<|sd (aK G G (by unfold i64ok;omega))<|sr 1 rfl<|sE ?_;clear H a;intro a H
  have hat:=Ue (js:=js) (st:=st) (n:=n) (i:=i) (by omega)
  rw [Ug hat,Ip hat,Cf hat] at H
  exact k4 (g1-1) (i+1) a _ (by omega) (⟨by omega,by omega⟩) (S.sel [1] G G) (H.keep [6,7,8,14,1,2,12,13] rfl)
 refine wp_exit ?_
 refine k2 _ _ ?_
 obtain rfl:i=js.length:=by omega
 refine sS H fun K15 k15=>sr 6 rfl<|sE ?_;clear H a;intro a H
 refine k15 _ ?_;clear k15 K15
 refine wp_ret ?_
 refine ret3 (fn:=Tryz.f45) rfl H G G G ?_
 exact ⟨rfl,(S.sel [] G G)⟩
theorem pO (mm:Int) (js:List Jq) (JA:Option Addr) (jc:Nat) (AA:Nat→Option Addr) (ac:Nat→Nat) (nv:List Int) (NA:Option Addr) (nc:Nat) (cr un:Int) (st:List Int) (SA:Option Addr) (sc:Nat) (w:World) (hjs:InS w noF 3 JA js.length (gF js AA ac)) (hnv:InS w noF 1 NA nv.length (icl nv)) (haf:∀ k,k<js.length→InS w noF 1 (AA k) (js.getD k Jq.zero).after.length (icl (js.getD k Jq.zero).after)) (hjn:js.length≤9223372036854775807) (hnn:nv.length≤9223372036854775807) (han:∀ k,k<js.length→(js.getD k Jq.zero).after.length≤9223372036854775807) :
    Calls Tryz.prog 42 [.agg [.int .i64 mm,.slice JA js.length jc,.slice NA nv.length nc,.int .i64 cr,.int .i64 un].toArray,.slice SA st.length sc].toArray w (Ret (fun u w'=>u = .int .i64 (if wksE mm js nv cr un≠0 then wksE mm js nv cr un else if st.length=js.length then 0 else 1)∧St w noF [] w')):=by
 refine enter Tryz.func42 rfl Tryz.ntmps42 rfl (fun a H=>?_)
 have S:=St.start w
 refine seq_list fun K1 k1=>?_
 refine aN H rfl S G G ?_;clear H a S;intro b2 _ a hb2 hbw2 S H
 refine ls 1 H<|sr 1 rfl<|sE ?_;clear H a;intro a H
 refine k1 _ _ ?_;clear k1 K1
 refine wp_seq_k fun K2 k2=>?_
 refine seq_list fun K3 k3=>?_
 refine ls 1 H<|sd ((aB iS lD rfl S (i:=0) G G))<|sE ?_;clear H a;intro a H
 refine aA H G G Tryz.func71 G G (oX mm js JA jc AA ac nv NA nc cr un _ (hjs.now S) (hnv.now S) (fun k hk=>(haf k hk).now S) hjn hnn han) ?_;clear H a
 rintro _ _ a ⟨rfl,S2⟩ H
 replace S:=S.call S2;clear S2
 refine ls 1 H<|sr 1 rfl<|sE ?_;clear H a;intro a H
 refine k3 _ _ ?_;clear k3 K3
 refine sS H fun K4 k4=>sr 2 rfl<|sE ?_;clear H a;intro a H
 refine k4 _ ?_;clear k4 K4
 refine condN H rfl (fun hc1=>?_) (fun hc1=>?_)
 ·skip
  refine sS H fun K5 k5=>sr 2 rfl<|sE ?_;clear H a;intro a H
  refine k5 _ ?_;clear k5 K5
  refine wp_ret ?_
  refine ret1 (fn:=Tryz.f42) rfl H rfl ?_
  rw [if_pos hc1];exact ⟨rfl,(S.sel [] G G)⟩
 refine wp_skip ?_
 refine k2 _ _ ?_
 refine wp_seq_k fun K6 k6=>?_
 replace H:=H.keep [1,2] rfl
 refine sS H fun K7 k7=>sr 1 rfl<|sL aS rfl<|sf cG rfl<|sl S 0 dA G G G<|sL eC rfl<|sr 1 rfl<|sE ?_;clear H a;intro a H
 refine k7 _ ?_;clear k7 K7
 refine condN H rfl (fun hc2=>?_) (fun hc2=>?_)
 ·skip
  refine sS H fun K8 k8=>sr 1 rfl<|sE ?_;clear H a;intro a H
  refine k8 _ ?_;clear k8 K8
  refine wp_ret ?_
  refine ret1 (fn:=Tryz.f42) rfl H rfl ?_
  rw [if_neg (fun h=>h hc1),if_neg (by omega)];exact ⟨rfl,(S.sel [] G G)⟩
 refine wp_skip ?_
 refine k6 _ _ ?_
 refine sS H fun K9 k9=>sr 1 rfl<|sE ?_;clear H a;intro a H
 refine k9 _ ?_;clear k9 K9
 refine wp_ret ?_
 refine ret1 (fn:=Tryz.f42) rfl H rfl ?_
 rw [if_neg (fun h=>h hc1),if_pos (by omega)];exact ⟨rfl,(S.sel [] G G)⟩
theorem Aj (x:Int) (w:World) :
    Calls Tryz.prog 44 [.int .i64 x].toArray w (Ret (fun u w'=>u = .bool (decide (x<0)||decide (24<x))∧St w noF [] w')):=by
 refine enter Tryz.func44 rfl Tryz.ntmps44 rfl (fun a H=>?_)
 have S:=St.start w
 refine sS H fun K1 k1=>sr 1 rfl<|sE ?_;clear H a;intro a H
 refine k1 _ ?_;clear k1 K1
 refine sS H fun K2 k2=>sr 3 rfl<|sg 2 2 5 7 false G G (fun hg3=>sy hg3<|sr 1 rfl<|sy hg3<|sr 1 rfl<|sz 2 G G G)<|so G G G<|sr 1 rfl<|sE ?_;clear H a;intro a H
 refine k2 _ ?_;clear k2 K2
 refine wp_ret ?_
 refine ret1 (fn:=Tryz.f44) rfl H rfl ?_
 exact ⟨rfl,(S.sel [] G G)⟩
theorem Ef (l:List Int) (A:Option Addr) (cp:Nat) (w:World) (hl:InS w noF 1 A l.length (icl l)) (hn:l.length≤9223372036854775807):Calls Tryz.prog 43 #[.slice A l.length cp,.func (.func 44) #[] #[]] w (Ret fun u w'=>u = .bool (l.any fun x=>decide (x<0)||decide (24<x))∧St w noF [] w'):=by
  have S0:=(St.start w).newNil 3 1 (icl [])
  have hh:=dF l A cp 44 _ [] [] (fun x=>decide (x<0)||decide (24<x)) _ w noF S0 hl hn Tryz.func44 G G (fun k w' hk S'=>jY (Aj (l.getD k 0) w') fun v w'' h=>⟨h.1,S'.startR.call h.2⟩)
  exact jY hh fun v w'' h=>⟨h.1,h.2.sel [] rfl rfl⟩
theorem Rp {l:List Int} (h:∀ k,k<l.length→0≤l.getD k 0∧l.getD k 0≤24):(l.any fun x=>decide (x<0)||decide (24<x))=false:=by
  rw [List.any_eq_false]
  intro x hx
  obtain ⟨q,hq,rfl⟩:=List.getElem_of_mem hx
  have:=h q hq
  rw [List.getD_eq_getElem?_getD,List.getElem?_eq_getElem hq,Option.getD_some] at this
  rw [decide_eq_false (by omega),decide_eq_false (by omega)];simp
theorem Eh (mm:Int) (js:List Jq) (JA:Option Addr) (jc:Nat) (AA:Nat→Option Addr) (ac:Nat→Nat) (nv:List Int) (NA:Option Addr) (nc:Nat) (cr un:Int) (st:List Int) (SA:Option Addr) (sc:Nat) (n:Int) (w:World) (hjs:InS w noF 3 JA js.length (gF js AA ac)) (hnv:InS w noF 1 NA nv.length (icl nv)) (haf:∀ k,k<js.length→InS w noF 1 (AA k) (js.getD k Jq.zero).after.length (icl (js.getD k Jq.zero).after)) (hjn:js.length≤9223372036854775807) (hnn:nv.length≤9223372036854775807) (han:∀ k,k<js.length→(js.getD k Jq.zero).after.length≤9223372036854775807) (hst:InS w noF 1 SA st.length (icl st)) (hsl:st.length=js.length) (hE:wksE mm js nv cr un=0) (hsb:∀ k,k<js.length→0≤st.getD k 0∧st.getD k 0≤24) (hn:0≤n∧n<un) :
    Calls Tryz.prog 13 [.agg [.int .i64 mm,.slice JA js.length jc,.slice NA nv.length nc,.int .i64 cr,.int .i64 un].toArray,.slice SA st.length sc,.int .i64 n].toArray w (Ret (fun u w'=>u = .tuple #[.int .i64 (nSet js st n js.length),.int .i64 0]∧St w noF [] w')):=by
 have V:=lZ hE
 have hjl:=V.nj
 refine enter Tryz.func13 rfl Tryz.ntmps13 rfl (fun a H=>?_)
 have S:=St.start w
 refine seq_list fun K1 k1=>?_
 refine aN H rfl S G G ?_;clear H a S;intro b3 _ a hb3 hbw3 S H
 refine ls 2 H<|sr 2 rfl<|sE ?_;clear H a;intro a H
 refine k1 _ _ ?_;clear k1 K1
 refine wp_seq_k fun K2 k2=>?_
 refine seq_list fun K3 k3=>?_
 refine ls 2 H<|sd ((aB iS lD rfl S (i:=0) G G))<|sr 1 rfl<|sE ?_;clear H a;intro a H
 refine aA H G G Tryz.func42 G G (pO mm js JA jc AA ac nv NA nc cr un st SA sc _ (hjs.now S) (hnv.now S) (fun k hk=>(haf k hk).now S) hjn hnn han) ?_;clear H a
 rintro _ _ a ⟨rfl,S2⟩ H
 replace S:=S.call S2;clear S2
 rw [if_neg (fun h=>h hE),if_pos hsl] at H
 refine ls 1 H<|sr 1 rfl<|sE ?_;clear H a;intro a H
 refine k3 _ _ ?_;clear k3 K3
 refine sS H fun K4 k4=>sr 2 rfl<|sE ?_;clear H a;intro a H
 refine k4 _ ?_;clear k4 K4
 refine cond_ H rfl (fun hc1=>?_) (fun hc1=>?_)
 ·skip
  skip
  cases hc1
 skip
 refine wp_skip ?_
 refine k2 _ _ ?_
 refine wp_seq_k fun K5 k5=>?_
 replace H:=H.keep [1,2,3] rfl
 refine seq_list fun K6 k6=>?_
 refine ls 9 H<|sr 3 rfl<|sg 4 2 20 24 false G G (fun hg3=>sy hg3<|sr 1 rfl<|sy hg3<|sf eW rfl<|sy hg3<|sl S 0 aE G G G<|sy hg3<|sr 1 rfl<|sz 4 G G G)<|so G G G<|sr 1 rfl<|sE ?_;clear H a;intro a H
 apply cI (i:=8) (g:=26) (t:=28) (b:=false) 2 H S G G (by kernel_rfl) (by kernel_rfl) G G
 case h1=>
  intro hg9
  refine ls 1 H<|sy hg9<|sr 1 rfl<|sE ?_;intro a H
  refine cY H G G (by assumption) ?_
  refine aA H G G Tryz.func43 G G (Ef st SA sc _ (hst.now S) (by omega)) ?_
  rintro _ _ a ⟨rfl,S2⟩ H
  replace S:=S.call S2;clear S2
  rw [Rp (fun k hk=>hsb k (by omega))] at H
  exact wpList_nil ⟨H.strip 2 G G,(S.sel [0] G G)⟩
 clear H a S;intro a _ H S
 refine ls 1 H<|so G G G<|sE ?_;clear H a;intro a H
 refine k6 _ _ ?_;clear k6 K6
 refine cond_ H rfl (fun hc2=>?_) (fun hc2=>?_)
 ·skip
  try simp only [o1,o2,o3,o4,o5,o6,o7,o8,o9,oa] at hc2
  exfalso;simp only [Bool.false_eq_true,or_false] at hc2;omega
 try simp only [o1,o2,o3,o4,o5,o6,o7,o8,o9,oa] at hc2
 refine wp_skip ?_
 refine k5 _ _ ?_
 replace H:=H.keep [1,2,3] rfl
 refine seq_list fun K7 k7=>?_
 refine ls 3 H<|sd ((aB iS lD rfl S (i:=0) G G))<|sr 2 rfl<|sE ?_;clear H a;intro a H
 refine aA H G G Tryz.func45 G G (xX mm js JA jc AA ac nv NA nc cr un st SA sc n _ (hjs.now S) (hnv.now S) (fun k hk=>(haf k hk).now S) (hst.now S) hsl V hsb) ?_;clear H a
 rintro _ _ a ⟨rfl,S2⟩ H
 replace S:=S.call S2;clear S2
 refine ls 7 H<|sr 7 rfl<|sE ?_;clear H a;intro a H
 refine k7 _ _ ?_;clear k7 K7
 replace H:=H.keep [9] rfl
 refine sS H fun K8 k8=>sr 3 rfl<|sE ?_;clear H a;intro a H
 refine k8 _ ?_;clear k8 K8
 refine wp_ret ?_
 refine ret2 (fn:=Tryz.f13) rfl H G G ?_
 exact ⟨rfl,(S.sel [] G G)⟩
end
section
section
variable {ps:List Psg} {out:Int} {help:Bool} {l:List Int} {a b:Int} {k:Nat} {s:Int×Int}
end
section
variable {P:Nat} {ps:List Psg} {xs:List Int} {out:Int} {help:Bool} {fr to:Nat} {l:List Int}
end
structure Hr where
  out:Int
  help:Bool
  pe:List Int
  A:Option Addr
  c:Nat
def Hr.zero:Hr:=⟨0,false,[],none,0⟩
def Hr.cell (h:Hr):Nat→Value
  | 0 => .int .i64 h.out
  | 1 => .bool h.help
  | _ => .slice h.A h.pe.length h.c
structure Hq where
  out:Int
  help:Bool
  pe:List Int
def Hq.zero:Hq:=⟨0,false,[]⟩
def Hr.q (h:Hr):Hq:=⟨h.out,h.help,h.pe⟩
def hcl (l:List Hq) (DA:Nat→Option Addr) (dc:Nat→Nat) (k:Nat):Nat→Value
  | 0 => .int .i64 (l.getD k Hq.zero).out
  | 1 => .bool (l.getD k Hq.zero).help
  | _ => .slice (DA k) (l.getD k Hq.zero).pe.length (dc k)
structure Prm where
  fr:Int
  to:Int
  first:Int
  last:Int
  helped:Bool
def Prm.zero:Prm:=⟨0,0,0,0,false⟩
def Prm.cell (p:Prm):Nat→Value
  | 0 => .int .i64 p.fr
  | 1 => .int .i64 p.to
  | 2 => .int .i64 p.first
  | 3 => .int .i64 p.last
  | _ => .bool p.helped
def fB (l:List Prm) (k j:Nat):Value:=(l.getD k Prm.zero).cell j
def hqOk (pl:Int) (h:Hq):Bool:=decide (0≤h.out∧h.out≤4095)&&eO pl h.pe
def dayOk (pl:Int) (day:List Hq):Bool:=allN (fun k=>hqOk pl (day.getD k Hq.zero)) day.length&&decide (day.length≤48)
def dayE (pl:Int) (ps:List Psg) (xs:List Int) (day:List Hq):Int:=if stE pl ps xs≠0 then stE pl ps xs else if dayOk pl day=true then 0 else 81
def prmOk (pl:Int) (p:Prm):Bool:=decide (0≤p.fr∧p.fr≤pl-1∧0≤p.to∧p.to≤pl-1∧0≤p.first∧p.first≤p.last∧p.last<48)
def prsOk (pl:Int) (l:List Prm):Bool:=allN (fun k=>prmOk pl (l.getD k Prm.zero)) l.length&&decide (l.length≤40)
def keptE (pl:Int) (ps:List Psg) (xs:List Int) (day:List Hq) (l:List Prm):Int:=if dayE pl ps xs day≠0 then dayE pl ps xs day else if prsOk pl l=true then 0 else 82
theorem vS {pl:Int} {ps:List Psg} {xs:List Int} {day:List Hq} (h:dayE pl ps xs day=0):stE pl ps xs=0∧dayOk pl day=true:=by
  unfold dayE at h
  split at h
  · omega
  · split at h
    · exact ⟨by omega,by assumption⟩
    · cases h
theorem Iq {pl:Int} {day:List Hq} (h:dayOk pl day=true):day.length≤48∧∀ k,k<day.length→(0≤(day.getD k Hq.zero).out∧(day.getD k Hq.zero).out≤4095)∧eO pl (day.getD k Hq.zero).pe=true:=by
  unfold dayOk at h
  simp only [Bool.and_eq_true,decide_eq_true_eq] at h
  refine ⟨h.2,fun k hk=>?_⟩
  have:=bI.1 h.1 k hk
  unfold hqOk at this
  simpa using this
theorem xY {pl:Int} {ps:List Psg} {xs:List Int} {day:List Hq} {l:List Prm} (h:keptE pl ps xs day l=0):dayE pl ps xs day=0∧l.length≤40∧∀ k,k<l.length→prmOk pl (l.getD k Prm.zero)=true:=by
  unfold keptE at h
  split at h
  · omega
  · split at h
    · rename_i h1 h2
      unfold prsOk at h2
      simp only [Bool.and_eq_true,decide_eq_true_eq] at h2
      exact ⟨by omega,h2.2,bI.1 h2.1⟩
    · cases h
theorem oY {pl:Int} {p:Prm}:prmOk pl p=true↔(0≤p.fr∧p.fr≤pl-1∧0≤p.to∧p.to≤pl-1∧0≤p.first∧p.first≤p.last∧p.last<48):=by unfold prmOk;rw [decide_eq_true_eq]
noncomputable def fC (P:Nat) (ps:List Psg) (h:Hq) (n:Nat) (p:Prm):Bool:=(decide (p.first≤(n:Int))&&decide ((n:Int)≤p.last))&&decide (dst P ps h.out (h.help&&p.helped) p.to.toNat p.fr.toNat<0)
noncomputable def nU (P:Nat) (ps:List Psg) (day:List Hq) (l:List Prm) (h:Nat):Nat:=fstB (fun i=>fC P ps (day.getD h Hq.zero) h (l.getD i Prm.zero)) l.length
noncomputable def rO (P:Nat) (ps:List Psg) (day:List Hq) (l:List Prm):Nat:=fstB (fun h=>decide (nU P ps day l h<l.length)) day.length
noncomputable def keptV (pl:Int) (ps:List Psg) (xs:List Int) (day:List Hq) (l:List Prm):Int×Int×Bool×Int:=
  if keptE pl ps xs day l≠0 then (0,0,false,keptE pl ps xs day l)
  else if rO pl.toNat ps day l<day.length then ((rO pl.toNat ps day l:Int),(nU pl.toNat ps day l (rO pl.toNat ps day l):Int),false,0) else (0,0,true,0)
section
variable {P:Nat} {ps:List Psg} {xs:List Int} {day:List Hq} {l:List Prm} {h i:Nat}
theorem nV {pl:Int} (he:keptE pl ps xs day l≠0):keptV pl ps xs day l=(0,0,false,keptE pl ps xs day l):=by unfold keptV;rw [if_pos he]
theorem Mn (he:keptE P ps xs day l=0) (hh:h<day.length) (hi:i<l.length) (h1:∀ q,q<h→∀ j,j<l.length→fC P ps (day.getD q Hq.zero) q (l.getD j Prm.zero)=false) (h2:∀ j,j<i→fC P ps (day.getD h Hq.zero) h (l.getD j Prm.zero)=false)
    (hb:fC P ps (day.getD h Hq.zero) h (l.getD i Prm.zero)=true):keptV P ps xs day l=((h:Int),(i:Int),false,0):=by
  have e1:nU P ps day l h=i:=vN h2 hb hi
  have e2:rO P ps day l=h:=vN (fun q hq=>decide_eq_false (by unfold nU;rw [jZ (h1 q hq)];omega)) (decide_eq_true (by rw [e1];exact hi)) hh
  unfold keptV
  rw [if_neg (by omega),Int.toNat_natCast,e2,if_pos hh,e1]
theorem Ir (he:keptE P ps xs day l=0) (h1:∀ q,q<day.length→∀ j,j<l.length→fC P ps (day.getD q Hq.zero) q (l.getD j Prm.zero)=false):keptV P ps xs day l=(0,0,true,0):=by
  have e2:rO P ps day l=day.length:=jZ (fun q hq=>decide_eq_false (by unfold nU;rw [jZ (h1 q hq)];omega))
  unfold keptV
  rw [if_neg (by omega),Int.toNat_natCast,e2,if_neg (by omega)]
theorem rP {pl:Int} {k:Nat} (hk:k<day.length) (hx:hqOk pl (day.getD k Hq.zero)=false):dayOk pl day=false:=by unfold dayOk;rw [fP hk hx];rfl
theorem xZ {pl:Int} (h1:allN (fun k=>hqOk pl (day.getD k Hq.zero)) day.length=true):dayOk pl day=decide (day.length≤48):=by unfold dayOk;rw [h1];rfl
theorem Ei (h1:∀ q,q<h→∀ j,j<l.length→fC P ps (day.getD q Hq.zero) q (l.getD j Prm.zero)=false) (h2:∀ j,j<i→fC P ps (day.getD h Hq.zero) h (l.getD j Prm.zero)=false) (hi:l.length≤i) :
    ∀ q,q<h+1→∀ j,j<l.length→fC P ps (day.getD q Hq.zero) q (l.getD j Prm.zero)=false:=fun q hq j hj=>by
  by_cases e:q=h
  · subst e;exact h2 j (by omega)
  · exact h1 q (by omega) j hj
theorem Mo {f:Nat→Bool} (h:∀ j,j<i→f j=false) (hi:f i=false):∀ j,j<i+1→f j=false:=fun j hj=>by
  by_cases e:j=i
  · subst e;exact hi
  · exact h j (by omega)
end
section
variable {w w0:World} {F0:Nat→Prop} {R:List Mem} {e sz i k:Nat} {A:Nat→Option Addr} {n c:Nat→Nat} {cell:Nat→Nat→Nat→Value}
theorem ragM.none (S:St w0 F0 R w) (e sz:Nat) (A:Nat→Option Addr) (n c:Nat→Nat) (cell:Nat→Nat→Nat→Value):St w0 F0 (ragM e sz (fun q=>q<0) A n c cell::R) w:=
  S.new (Keeps.refl _ _) ⟨fun q hq=>absurd hq (Nat.not_lt_zero q),fun q _ hq=>absurd hq (Nat.not_lt_zero q)⟩ (fun b ⟨q,hq,_⟩=>absurd hq (Nat.not_lt_zero q))
theorem ragM.add {A':Option Addr} {n' c':Nat} {cell':Nat→Nat→Value} (S:St w0 F0 (ownM e sz A' n' c' cell'::R) w) (hi:R[i]?=some (ragM e sz (fun q=>q<k) A n c cell)) :
    St w0 F0 (R.set i (ragM e sz (fun q=>q<k+1) (upd A k A') (upd n k n') (upd c k c') (upd cell k cell'))) w:=by
  have e1:(fun q=>q<k)=(fun q=>q<k+1∧q≠k):=by funext q;exact propext ⟨fun h=>by omega,fun h=>by omega⟩
  rw [e1] at hi
  exact ragM.put (D:=fun q=>q<k+1) S hi (by omega)
theorem ragM.recell {n':Nat→Nat} {A':Nat→Option Addr} {c':Nat→Nat} {cell':Nat→Nat→Nat→Value} {D:Nat→Prop} (S:St w0 F0 R w) (hi:R[i]?=some (ragM e sz D A n c cell)) (h:∀ q,D q→A q=A' q∧n q=n' q∧c q=c' q∧cell q=cell' q):St w0 F0 (R.set i (ragM e sz D A' n' c' cell')) w:=by
  have hrow:∀ q,D q→ownM e sz (A' q) (n' q) (c' q) (cell' q)=ownM e sz (A q) (n q) (c q) (cell q):=fun q hq=>by obtain ⟨h1,h2,h3,h4⟩:=h q hq;rw [h1,h2,h3,h4]
  refine S.imp hi (fun ⟨h1,h2⟩=>⟨fun q hq=>by rw [hrow q hq];exact h1 q hq,fun q r hq hr hqr b hb hb'=>?_⟩) ?_
  · rw [hrow q hq] at hb;rw [hrow r hr] at hb';exact h2 q r hq hr hqr b hb hb'
  · rintro b ⟨q,hq,hb⟩;rw [hrow q hq] at hb;exact ⟨q,hq,hb⟩
end
end
section
structure Chain where
  links:Int
  pitch:Int
  limit:Int
structure Gauge where
  fr:Int
  to:Int
  lo:Int
  hi:Int
def Gauge.zero:Gauge:=⟨0,0,0,0⟩
def Gauge.cell (g:Gauge):Nat→Value
  | 0 => .int .i64 g.fr
  | 1 => .int .i64 g.to
  | 2 => .int .i64 g.lo
  | _ => .int .i64 g.hi
abbrev Chain.val (c:Chain):Value := .agg [.int .i64 c.links,.int .i64 c.pitch,.int .i64 c.limit].toArray
theorem rQ {α:Type} {l:List α} {p:α→Bool} {k:Nat} {d:α} (hk:k<l.length) (h:(l.take k).all p=true) (hp:p (l.getD k d)=true):(l.take (k+1)).all p=true:=by
  rw [List.take_succ_eq_append_getElem hk,List.all_append,h]
  simp only [List.getD_eq_getElem?_getD,List.getElem?_eq_getElem hk,Option.getD_some] at hp
  simp [hp]
theorem oZ {α:Type} {l:List α} {p:α→Bool} {k:Nat} {d:α} (hk:k<l.length) (hp:p (l.getD k d)=false):l.all p=false:=by
  simp only [List.getD_eq_getElem?_getD,List.getElem?_eq_getElem hk,Option.getD_some] at hp
  rw [←Bool.not_eq_true,List.all_eq_true]
  intro h
  have:=h _ (List.getElem_mem hk)
  rw [hp] at this
  cases this
abbrev IM:=Nat→Nat→Int
section
variable (M:IM) (a b:Nat) (far:Int)
end
def diagB (n:Nat) (M:IM):Bool:=(List.range n).all fun k=>decide (0≤M k k)
theorem gG {n k:Nat} {p:Nat→Bool}:(List.range (k+1)).all p=((List.range k).all p&&p k):=by
  rw [List.range_succ,List.all_append];simp
theorem fI {n k:Nat} {p:Nat→Bool} (hk:k<n) (h:p k=false):(List.range n).all p=false:=by
  rw [←Bool.not_eq_true,List.all_eq_true]
  intro hh
  have:=hh k (List.mem_range.2 hk)
  rw [h] at this
  cases this
def wide:Int:=1099511627776
structure Good (n:Nat) (M:IM):Prop where
  diag:∀ x,x<n→M x x=0
  tri:∀ x y z,x<n→y<n→z<n→M x z≤M x y+M y z
  top:∀ x y,x<n→y<n→M x y≤wide
theorem Good.low {n:Nat} {M:IM} (h:Good n M) {x y:Nat} (hx:x<n) (hy:y<n) : -wide≤M x y:=by
  have h1:=h.tri x y x hx hy hx
  have h2:=h.diag x hx
  have h3:=h.top y x hy hx
  omega
theorem tV {n:Nat} {M:IM}:diagB n M=true↔∀ k,k<n→0≤M k k:=by
  unfold diagB
  rw [List.all_eq_true]
  constructor
  · intro h k hk;simpa using h k (List.mem_range.2 hk)
  · intro h k hk;simpa using h k (List.mem_range.1 hk)
structure Under (n:Nat) (E M:IM):Prop where
  le:∀ x y,x<n→y<n→E x y≤M x y
  add:∀ x y z,x<n→y<n→z<n→E x z=E x y+E y z
theorem Under.diag {n:Nat} {E M:IM} (h:Under n E M):diagB n M=true:=by
  rw [tV]
  intro k hk
  have h1:=h.le k k hk hk
  have h2:=h.add k k k hk hk hk
  omega
def Chain.n (c:Chain):Nat:=c.links.toNat+1
structure Best (n:Nat) (C:IM→Prop) (M:IM):Prop where
  good:Good n M
  sat:C M
  best:∀ E,Good n E→C E→∀ x y,x<n→y<n→E x y≤M x y
theorem Best.same {n:Nat} {C:IM→Prop} {M M':IM} (h:Best n C M) (h':Best n C M'):∀ x y,x<n→y<n→M x y=M' x y:=by
  intro x y hx hy
  have h1:=h.best M' h'.good h'.sat x y hx hy
  have h2:=h'.best M h.good h.sat x y hx hy
  omega
def fwP (M:IM) (m:Nat):IM:=fun x y=>min (M x y) (M x m+M m y)
def fstg (M:IM) (m p q:Nat):IM:=fun x y=>if x<p∨(x=p∧y<q) then fwP M m x y else M x y
theorem yA (M:IM) (m n x y:Nat) (hx:x<n):fstg M m n 0 x y=fwP M m x y:=by
  unfold fstg;rw [if_pos (by omega)]
def pw:Nat→Int
  | 0=>10000000
  | k+1=>2*pw k
structure CNet (n k:Nat) (M:IM):Prop where
  diag:∀ x,x<n→M x x=0
  lo:∀ x y,x<n→y<n → -(pw k)≤M x y
  top:∀ x y,x<n→y<n→M x y≤wide
theorem CNet.fstg {n k m:Nat} {M:IM} (h:CNet n k M) (hm:m<n) (p q x y:Nat) (hx:x<n) (hy:y<n) : -(pw (k+1))≤fstg M m p q x y∧fstg M m p q x y≤wide:=by
  have h1:=h.lo x y hx hy
  have h2:=h.lo x m hx hm
  have h3:=h.lo m y hm hy
  have h4:=h.top x y hx hy
  have h5:pw (k+1)=2*pw k:=rfl
  have h6:=h.diag m hm
  have h7:=h.lo m m hm hm
  unfold Go.Proofs.YtinghmelkmblmaaGreat.fstg fwP
  split <;> omega
theorem CNet.next {n k m:Nat} {M:IM} (h:CNet n k M) (hm:m<n) (hd:diagB n (fwP M m)=true):CNet n (k+1) (fwP M m):=by
  rw [tV] at hd
  refine ⟨fun x hx=>?_,fun x y hx hy=>?_,fun x y hx hy=>?_⟩
  · have h1:=hd x hx
    have h2:=h.diag x hx
    have h3:fwP M m x x≤M x x:=by unfold fwP;omega
    omega
  · have:=h.fstg hm n 0 x y hx hy
    rw [yA M m n x y hx] at this
    exact this.1
  · have:=h.fstg hm n 0 x y hx hy
    rw [yA M m n x y hx] at this
    exact this.2
structure Use where
  day:Int
  turns:Int
  cls:Int
  meas:Bool
  lo:Int
  hi:Int
structure Part where
  rates:List (Int×Int)
  worn:Int
  turns:Int
  age:Int
def Use.zero:Use:=⟨0,0,0,false,0,0⟩
def Use.cell (u:Use):Nat→Value
  | 0 => .int .i64 u.day
  | 1 => .int .i64 u.turns
  | 2 => .int .i64 u.cls
  | 3 => .bool u.meas
  | 4 => .int .i64 u.lo
  | _ => .int .i64 u.hi
def ucell (l:List Use) (k j:Nat):Value:=(l.getD k Use.zero).cell j
def vT (s:Int×Int):Nat→Value
  | 0 => .int .i64 s.1
  | _ => .int .i64 s.2
def scell (l:List (Int×Int)) (k j:Nat):Value:=vT (l.getD k (0,0)) j
def fcell (f:Nat→Int×Int) (k j:Nat):Value:=vT (f k) j
def eZ (p:Part):Bool:=decide (1≤p.rates.length∧p.rates.length≤4∧0≤p.worn∧p.worn≤1000∧0≤p.turns∧p.turns≤1000000∧0≤p.age∧p.age≤100000)
def gH (r:Int×Int):Bool:=decide (0≤r.1∧r.1≤r.2∧r.2≤1000000)
def useOk (n:Nat) (d:Int) (u:Use):Bool:=decide ((d≤u.day∧u.day≤100000∧0≤u.turns∧u.turns≤1000000∧0≤u.cls∧u.cls≤(n:Int)-1)∧0≤u.lo∧u.lo≤u.hi∧u.hi≤2000000000∧(u.meas=false→u.lo=0∧u.hi=0))
def prevD (l:List Use):Nat→Int
  | 0=>0
  | k+1=>(l.getD k Use.zero).day
def dJ (n:Nat) (l:List Use) (k:Nat):Bool:=(List.range k).all fun i=>useOk n (prevD l i) (l.getD i Use.zero)
def bX (p:Part) (l:List Use):Int:=
  if eZ p then (if p.rates.all gH then (if l.length≤40 then (if dJ p.rates.length l l.length then 0 else 23) else 23) else 22) else 22
structure PartOk (p:Part) (l:List Use):Prop where
  hdr:eZ p=true
  rates:p.rates.all gH=true
  len:l.length≤40
  uses:dJ p.rates.length l l.length=true
theorem kA {p:Part} {l:List Use} (h:bX p l=0):PartOk p l:=by
  unfold bX at h
  split at h
  · split at h
    · split at h
      · split at h
        · exact ⟨by assumption,by assumption,by assumption,by assumption⟩
        · cases h
      · cases h
    · cases h
  · cases h
theorem PartOk.use {p:Part} {l:List Use} (h:PartOk p l) {k:Nat} (hk:k<l.length):useOk p.rates.length (prevD l k) (l.getD k Use.zero)=true:=by
  have:=h.uses
  unfold dJ at this
  exact List.all_eq_true.1 this k (List.mem_range.2 hk)
theorem PartOk.rate {p:Part} {l:List Use} (h:PartOk p l) {k:Nat} (hk:k<p.rates.length):gH (p.rates.getD k (0,0))=true:=by
  rw [List.getD_eq_getElem?_getD,List.getElem?_eq_getElem hk]
  exact List.all_eq_true.1 h.rates _ (List.getElem_mem hk)
def cF (p:Part) (u:Use):Int×Int:=(u.turns*(p.rates.getD u.cls.toNat (0,0)).1,u.turns*(p.rates.getD u.cls.toNat (0,0)).2)
def meetS (a b:Int×Int):Int×Int:=(max a.1 b.1,min a.2 b.2)
def addS (a b:Int×Int):Int×Int:=(a.1+b.1,a.2+b.2)
def fwd (p:Part) (l:List Use):Nat→Int×Int
  | 0=>(0,0)
  | k+1=>if (l.getD k Use.zero).meas then meetS (addS (fwd p l k) (cF p (l.getD k Use.zero))) ((l.getD k Use.zero).lo,(l.getD k Use.zero).hi) else addS (fwd p l k) (cF p (l.getD k Use.zero))
def fits (p:Part) (l:List Use) (k:Nat):Prop:=(l.getD k Use.zero).meas=true→(fwd p l (k+1)).1≤(fwd p l (k+1)).2
structure IsAt (p:Part) (l:List Use) (n:Nat):Prop where
  le:n≤l.length
  good:∀ k,k<n→fits p l k
  bad:n<l.length→¬ fits p l n
theorem IsAt.same {p:Part} {l:List Use} {n m:Nat} (h:IsAt p l n) (h':IsAt p l m):n=m:=by
  rcases Nat.lt_trichotomy n m with h1|h1|h1
  · exact absurd (h'.good n h1) (h.bad (by have:=h'.le;omega))
  · exact h1
  · exact absurd (h.good m h1) (h'.bad (by have:=h.le;omega))
def bkw (p:Part) (l:List Use):Nat→Int×Int
  | 0=>fwd p l l.length
  | d+1=>meetS (fwd p l (l.length-1-d)) ((bkw p l d).1-(cF p (l.getD (l.length-1-d) Use.zero)).2,(bkw p l d).2-(cF p (l.getD (l.length-1-d) Use.zero)).1)
def bJ (p:Part) (l:List Use) (k:Nat):Int×Int:=bkw p l (l.length-1-k)
theorem kB {p:Part} {l:List Use} (h:PartOk p l) {k:Nat} (hk:k<l.length):0≤(cF p (l.getD k Use.zero)).1∧(cF p (l.getD k Use.zero)).1≤1000000000000∧0≤(cF p (l.getD k Use.zero)).2∧(cF p (l.getD k Use.zero)).2≤1000000000000:=by
  have hu:=h.use hk
  unfold useOk at hu
  simp only [decide_eq_true_eq] at hu
  have hr:=h.rate (k:=(l.getD k Use.zero).cls.toNat) (by omega)
  unfold gH at hr
  simp only [decide_eq_true_eq] at hr
  unfold cF
  refine ⟨Int.mul_nonneg (by omega) (by omega),?_,Int.mul_nonneg (by omega) (by omega),?_⟩
  · exact Int.le_trans (Int.mul_le_mul (c:=1000000) (d:=1000000) (by omega) (by omega) (by omega) (by omega)) (by decide)
  · exact Int.le_trans (Int.mul_le_mul (c:=1000000) (d:=1000000) (by omega) (by omega) (by omega) (by omega)) (by decide)
theorem vU {p:Part} {l:List Use} (h:PartOk p l):∀ k,k≤l.length→0≤(fwd p l k).1∧(fwd p l k).1≤(k:Int)*1000000000000∧0≤(fwd p l k).2∧(fwd p l k).2≤(k:Int)*1000000000000:=by
  intro k
  induction k with
  | zero=>intro _;simp [fwd]
  | succ k ih=>
    intro hk
    have h1:=ih (by omega)
    have h2:=kB h (show k<l.length by omega)
    have hu:=h.use (show k<l.length by omega)
    unfold useOk at hu
    simp only [decide_eq_true_eq] at hu
    unfold fwd addS meetS
    split <;> (dsimp only;omega)
theorem Rq {p:Part} {l:List Use} (h:PartOk p l):∀ d,d<l.length → -((d:Int)*1000000000000)≤(bkw p l d).1∧(bkw p l d).1≤40000000000000 ∧ -((d:Int)*1000000000000)≤(bkw p l d).2∧(bkw p l d).2≤40000000000000:=by
  intro d
  have hlen:=h.len
  induction d with
  | zero=>intro hd;have:=vU h l.length (Nat.le_refl _);unfold bkw;omega
  | succ d ih=>
    intro hd
    have h1:=ih (by omega)
    have h2:=kB h (show l.length-1-d<l.length by omega)
    have h3:=vU h (l.length-1-d) (by omega)
    unfold bkw meetS
    dsimp only
    omega
def sumT (l:List Use):Nat→Int
  | 0=>0
  | k+1=>sumT l k+(l.getD k Use.zero).turns
theorem Mp {p:Part} {l:List Use} (h:PartOk p l):∀ k,k≤l.length→0≤sumT l k∧sumT l k≤(k:Int)*1000000:=by
  intro k
  induction k with
  | zero=>intro _;simp [sumT]
  | succ k ih=>
    intro hk
    have h1:=ih (by omega)
    have hu:=h.use (show k<l.length by omega)
    unfold useOk at hu
    simp only [decide_eq_true_eq] at hu
    unfold sumT
    omega
def hH (p:Part) (l:List Use):Int:=if l.length=0 then 0 else (fwd p l l.length).2
section
variable {P:Program} {ops:Array Oper} {w w0:World} {F0 F:Nat→Prop} {R:List Mem} {Q:Exit→Act→World→Prop} {rest:List Oper} {N:FN} {L:List (Nat×Value)} {a:Act} {ty:TypeId} {pos:String} {af:Array Edge}
theorem boxM.same {i b:Nat} {t:TypeId} {cs cs':List Value} (S:St w0 F0 R w) (hi:R[i]?=some (boxM b t cs)) (h:cs=cs'):St w0 F0 (R.set i (boxM b t cs')) w:=by
  subst h;exact S.imp hi (fun h=>h) (fun _ h=>h)
theorem kR {i e n c k:Nat} {A:Option Addr} {f:Nat→Int×Int} {s:Int×Int} (S:St w0 F0 R w) (hi:R[i]?=some (ownM e 2 A n c (fcell f))) (hk:k<n) (hs:f k=s) :
    ∀ (j:Nat) v,[Value.int .i64 s.1,Value.int .i64 s.2][j]?=some v→w.cell? ⟨(adr A).block,(adr A).off+k*2+0+j,none⟩=some v:=by
  intro j v hv
  subst hs
  have h0:=ownM.rd S hi hk (j:=j)
  have hj:j<2:=(List.getElem?_eq_some_iff.1 hv).1
  have h1:=h0 hj
  have:j=0∨j=1:=by omega
  rcases this with rfl|rfl <;> (simp at hv;subst hv;exact h1)
theorem dN {t e i kk n c:Nat} {A:Option Addr} {f:Nat→Int×Int} {x y:Operand} {v1 v2:Int} (H:Fr N L a) (S:St w0 F0 R w) (hi:R[i]?=some (ownM e 2 A n c (fcell f)))
    (hx:ev L x=some (.pointer (some (pt A 2 kk 0)))) (hy:ev L y=some (.agg [.int .i64 v1,.int .i64 v2].toArray)) (hk:kk<n) (hs:Sz P t 2)
    (k:∀ w' a',St w0 F0 (R.set i (ownM e 2 A n c (fcell fun q=>if q=kk then (v1,v2) else f q))) w'→Fr N L a'→wpList P ops Q rest a' w') :
    wpList P ops Q (⟨none,.store t x y,ty,pos,af,none⟩::rest) a w:=by
  refine wpList_plain rfl fun K hK=>?_
  unfold Oper.wp
  rcases S.holds hi with ⟨_,h,_⟩|⟨b,cs,rfl,hb,hnc,hcm,hsz,hc⟩
  · omega
  have hlt:kk*2+1<cs.size:=by omega
  have hp:pt (some ⟨b,0,none⟩) 2 kk 0=⟨b,kk*2,none⟩:=by simp [pt,adr]
  rw [hp] at hx
  have hr:=kG (P:=P) (w:=w) (t:=t) (b:=b) (o:=kk*2) (v := .agg [.int .i64 v1,.int .i64 v2].toArray) (vs:=[.int .i64 v1,.int .i64 v2]) (by simpa using hs) rfl hb (by simp;omega) (fun u hu=>by
    simp only [List.mem_cons,List.not_mem_nil,or_false] at hu
    rcases hu with rfl|rfl <;> rfl)
  have e1:(execOp a.eval ⟨none,.store t x y,ty,pos,af,none⟩).run P w = .ok .skip (w.setRow b (gS cs.toList (kk*2) [.int .i64 v1,.int .i64 v2]).toArray):=by
    simp only [execOp,H.eval hx,H.eval hy]
    simp only [Sem.run_bind,hr]
    rfl
  rw [e1]
  refine hK _ _ (k _ _ (S.updSame hi ((kF w b _).mono ?_) ?_ (fun _ h=>h)) (H.put_none _))
  · rintro q rfl;exact ⟨_,rfl,rfl⟩
  · refine .inr ⟨b,_,rfl,setRow_heap w b _ _ e (0,0) hb,hnc,hcm,?_,?_⟩
    · rw [List.size_toArray,mJ _ _ _ (by simp;omega)];simpa using hsz
    · intro k' j' hk' hj'
      rw [List.getElem?_toArray,jP _ _ _ (by simp;omega)]
      have hj2:j'=0∨j'=1:=by omega
      by_cases hh:k'=kk
      · subst hh
        rw [List.append_assoc,List.getElem?_append_right (by simp;omega)]
        simp only [List.length_take,Array.length_toList,Nat.min_eq_left (show k'*2≤cs.size by omega)]
        rcases hj2 with rfl|rfl <;> simp [fcell,vT]
      · have hcell:=hc k' j' hk' hj'
        have:fcell (fun q=>if q=kk then (v1,v2) else f q) k' j'=fcell f k' j':=by simp [fcell,hh]
        rw [this,←hcell]
        rcases Nat.lt_or_ge (k'*2+j') (kk*2) with h|h
        · rw [List.append_assoc,List.getElem?_append_left (by simp;omega),List.getElem?_take_of_lt h];simp
        · have h':kk*2+2≤k'*2+j':=by omega
          rw [List.getElem?_append_right (by simp;omega),List.getElem?_drop]
          simp only [List.length_append,List.length_take,List.length_cons,List.length_nil,Array.length_toList]
          rw [Nat.min_eq_left (by omega)]
          rw [show kk*2+(0+1+1)+(k'*2+j'-(kk*2+(0+1+1)))=k'*2+j' by omega]
          simp
end
theorem rR {p:Part} {l:List Use} {k:Nat} (h:(l.getD k Use.zero).meas=true):fwd p l (k+1)=meetS (addS (fwd p l k) (cF p (l.getD k Use.zero))) ((l.getD k Use.zero).lo,(l.getD k Use.zero).hi):=by rw [fwd,if_pos h]
theorem qC {p:Part} {l:List Use} {k:Nat} (h:(l.getD k Use.zero).meas=false):fwd p l (k+1)=addS (fwd p l k) (cF p (l.getD k Use.zero)):=by rw [fwd,if_neg (by rw [h];simp)]
theorem nW {p:Part} {l:List Use} {k:Nat} (h:(l.getD k Use.zero).meas=false):fits p l k:=fun h'=>by rw [h] at h';cases h'
theorem iO {p:Part} {l:List Use} (h:PartOk p l) {k:Nat} (hk:k<l.length) : -40000000000000≤(bJ p l k).1∧(bJ p l k).1≤40000000000000 ∧ -40000000000000≤(bJ p l k).2∧(bJ p l k).2≤40000000000000:=by
  have:=Rq h (l.length-1-k) (by omega)
  have:=h.len
  unfold bJ
  omega
theorem lL {p:Part} {l:List Use} {k:Nat} (hk:k+1=l.length):bJ p l k=fwd p l l.length:=by
  unfold bJ;rw [show l.length-1-k=0 by omega];rfl
theorem dS {p:Part} {l:List Use} {k:Nat} (hk:k+1<l.length):bJ p l k=meetS (fwd p l (k+1)) ((bJ p l (k+1)).1-(cF p (l.getD (k+1) Use.zero)).2,(bJ p l (k+1)).2-(cF p (l.getD (k+1) Use.zero)).1):=by
  unfold bJ
  rw [show l.length-1-k=(l.length-1-(k+1))+1 by omega]
  rw [bkw]
  rw [show l.length-1-(l.length-1-(k+1))=k+1 by omega]
end
section
def iE (b:Nat→Bool) (n:Nat):Int:=match (List.range n).find? b with
  | some k=>(k:Int)
  | none => -1
theorem mB {b:Nat→Bool} {n k:Nat} (hk:k<n) (hb:b k=true) (h:∀ q,q<k→b q=false):iE b n=k:=by
  unfold iE
  have e:(List.range n).find? b=some k:=by
    rw [List.find?_eq_some_iff_append]
    refine ⟨hb,List.range k,(List.range (n-k-1)).map (k+1+·),?_,fun a ha=>?_⟩
    · have e1:n=k+((n-k-1)+1):=by omega
      conv=>lhs;rw [e1,List.range_add]
      rw [List.range_succ_eq_map]
      simp only [List.map_cons,Nat.add_zero,List.map_map]
      congr 2
      refine List.map_congr_left fun a _=>?_
      simp only [Function.comp]
      omega
    · rw [h a (List.mem_range.1 ha)];rfl
  rw [e]
theorem lM {b:Nat→Bool} {n:Nat} (h:∀ q,q<n→b q=false):iE b n = -1:=by
  unfold iE
  have e:(List.range n).find? b=none:=by
    rw [List.find?_eq_none]
    intro a ha
    rw [h a (List.mem_range.1 ha)];simp
  rw [e]
theorem Is (b:Nat→Bool):∀ n,(∃ k,k<n∧b k=true∧∀ q,q<k→b q=false)∨∀ q,q<n→b q=false:=by
  intro n
  induction n with
  | zero=>exact .inr fun q hq=>absurd hq (Nat.not_lt_zero _)
  | succ n ih=>
    rcases ih with ⟨k,h1,h2,h3⟩|h
    · exact .inl ⟨k,by omega,h2,h3⟩
    · cases hb:b n
      · refine .inr fun q hq=>?_
        by_cases e:q=n
        · subst e;exact hb
        · exact h q (by omega)
      · exact .inl ⟨n,by omega,hb,h⟩
theorem vV (b:Nat→Bool) (n:Nat):(iE b n = -1∧∀ q,q<n→b q=false)∨∃ k,k<n∧iE b n=k∧b k=true∧∀ q,q<k→b q=false:=by
  rcases Is b n with ⟨k,h1,h2,h3⟩|h
  · exact .inr ⟨k,h1,mB h1 h2 h3,h2,h3⟩
  · exact .inl ⟨lM h,h⟩
theorem Ej {p:Part} {l:List Use}:∀ m,m≤l.length→(∀ k,k<m→fits p l k)∨∃ n,n<m∧IsAt p l n:=by
  classical
  intro m
  induction m with
  | zero=>intro _;exact .inl fun k hk=>absurd hk (Nat.not_lt_zero _)
  | succ m ih=>
    intro hm
    rcases ih (by omega) with h|⟨n,hn,h⟩
    · by_cases hf:fits p l m
      · refine .inl fun k hk=>?_
        by_cases e:k=m
        · subst e;exact hf
        · exact h k (by omega)
      · exact .inr ⟨m,by omega,by omega,h,fun _=>hf⟩
    · exact .inr ⟨n,by omega,h⟩
theorem Pv (p:Part) (l:List Use):∃ n,IsAt p l n:=by
  rcases Ej (p:=p) l.length (Nat.le_refl _) with h|⟨n,_,h⟩
  · exact ⟨l.length,Nat.le_refl _,h,fun h=>absurd h (Nat.lt_irrefl _)⟩
  · exact ⟨n,h⟩
noncomputable def atN (p:Part) (l:List Use):Nat:=Classical.choose (Pv p l)
theorem vW (p:Part) (l:List Use):IsAt p l (atN p l):=Classical.choose_spec (Pv p l)
theorem vX {p:Part} {l:List Use} {n:Nat} (h:IsAt p l n):atN p l=n:=(vW p l).same h
theorem Mq {p:Part} {l:List Use}:IsAt p l l.length↔atN p l=l.length:=⟨vX,fun h=>by have:=vW p l;rw [h] at this;exact this⟩
theorem Rr {p:Part} {l:List Use} (h:PartOk p l):∀ k,k≤l.length→(∀ q,q<k→fits p l q)→(fwd p l k).1≤(fwd p l k).2:=by
  intro k
  induction k with
  | zero=>intro _ _;exact Int.le_refl _
  | succ k ih=>
    intro hk hf
    have h1:=ih (by omega) fun q hq=>hf q (by omega)
    by_cases hm:(l.getD k Use.zero).meas=true
    · exact hf k (by omega) hm
    · have hu:=h.use (show k<l.length by omega)
      unfold useOk at hu
      simp only [decide_eq_true_eq] at hu
      have hr:=h.rate (k:=(l.getD k Use.zero).cls.toNat) (by omega)
      unfold gH at hr
      simp only [decide_eq_true_eq] at hr
      rw [fwd,if_neg hm]
      unfold addS cF
      have:=Int.mul_le_mul_of_nonneg_left hr.2.1 (show 0≤(l.getD k Use.zero).turns by omega)
      dsimp only
      omega
def fstep (p:Part) (s:Int×Int) (u:Use):Int×Int:=if u.meas then meetS (addS s (cF p u)) (u.lo,u.hi) else addS s (cF p u)
theorem yB {p:Part} {l:List Use} (h:PartOk p l) {k:Nat} (hk:k<l.length) (hf:∀ q,q<k→fits p l q):fits p l k↔(fwd p l (k+1)).1≤(fwd p l (k+1)).2:=
  ⟨fun h'=>Rr h (k+1) (by omega) fun q hq=>by
    by_cases e:q=k
    · subst e;exact h'
    · exact hf q (by omega),fun h' _=>h'⟩
open Classical in
noncomputable def wearE (p:Part) (l:List Use):Int:=if bX p l≠0 then bX p l else if IsAt p l l.length then 0 else 3
theorem Ek {p:Part} {l:List Use} (h:bX p l≠0):wearE p l=bX p l:=by unfold wearE;rw [if_pos h]
theorem Ak {p:Part} {l:List Use} (h:bX p l=0) (h':¬ IsAt p l l.length):wearE p l=3:=by unfold wearE;rw [if_neg (by omega),if_neg h']
theorem nX {p:Part} {l:List Use} (h:bX p l=0) (h':IsAt p l l.length):wearE p l=0:=by unfold wearE;rw [if_neg (by omega),if_pos h']
theorem kS {p:Part} {l:List Use} (h:wearE p l=0):bX p l=0∧IsAt p l l.length:=by
  unfold wearE at h
  split at h
  · exact absurd h (by assumption)
  · split at h
    · exact ⟨by omega,by assumption⟩
    · omega
noncomputable def refO (p:Part) (l:List Use):Int×Bool×Int:=if bX p l≠0 then (0,false,bX p l) else if atN p l<l.length then ((atN p l:Int),true,0) else (0,false,0)
def wornB (p:Part) (l:List Use) (k:Nat) (wr:Int):Bool:=(decide (p.turns<sumT l (k+1))||decide (p.age<(l.getD k Use.zero).day))||decide (p.worn*1000000<wr)
noncomputable def dE (p:Part) (l:List Use) (e:Int×Int→Int):Int×Int:=if wearE p l≠0 then (0,wearE p l) else (iE (fun k=>wornB p l k (e (bJ p l k))) l.length,0)
theorem Pw {p:Part} {l:List Use} (e:Int×Int→Int) (h:wearE p l=0):dE p l e=(iE (fun k=>wornB p l k (e (bJ p l k))) l.length,0):=by
  unfold dE
  rw [if_neg (by omega)]
end
section
structure EndN (N:Net) (r0:RM) (b x:Nat) (v:Int) (r:RM) (L:Nat→Int):Prop where
  fl:Fl N r0 r b x v
  nn:0≤v
  lev:LevOk N r b L
  full:L x<0
section
variable {N:Net} {r r0 r1 r2:RM} {b x u:Nat} {v v' m B:Int} {L L':Nat→Int}
theorem yC {S:Nat→Bool} (h:∀ i,i<N.k→∀ j,j<N.n i→r2 i j=r1 i j):resid N r2 S=resid N r1 S:=lC fun i hi=>lC fun j hj=>by rw [h i hi j hj]
theorem Fl.congr (W:N.Wf) (h:Fl N r r1 u x m) (e:∀ i,i<N.k→∀ j,j<N.n i→r2 i j=r1 i j):Fl N r r2 u x m:=
  ⟨fun S=>by rw [yC e];exact h.cut S,fun i hi j hj=>by rw [e i hi j hj,e _ (W.to_lt i hi j hj) _ (W.bk_lt i hi j hj)];exact h.pair i hi j hj,fun i hi j hj=>by rw [e i hi j hj];exact h.nn i hi j hj⟩
theorem It {S:Nat→Bool} (hb:S b=true) (hx:S x=false):ind S b-ind S x=1:=by unfold ind;rw [hb,hx];rfl
theorem EndN.bound (O:Ok N r0 B) (h:EndN N r0 b x v r L) {S:Nat→Bool} (hb:S b=true) (hx:S x=false):v≤resid N r0 S:=by
  have h1:=qW (S:=S) (h.fl.ok O)
  rw [h.fl.cut,It hb hx] at h1
  omega
theorem EndN.inside (h:EndN N r0 b x v r L) {S:Nat→Bool} (hb:S b=true) (hx:S x=false) (hc:resid N r0 S=v):∀ u,u<N.k→0≤L u→S u=true:=by
  have h0:resid N r S=0:=by rw [h.fl.cut,It hb hx];omega
  exact h.lev.least hb (rL h.fl.nn h0)
end
structure Eg where
  f:Nat
  t:Nat
  pas:Int
  tick:Int
def Eg.zero:Eg:=⟨0,0,0,0⟩
def Jn.zero:Jn:=⟨0,0,0,Mv.none⟩
def ixs (E:List Eg) (i:Nat):List Nat:=(List.range E.length).filter fun e=>decide ((E.getD e Eg.zero).f=i)
def tw (e:Nat):Nat:=if e%2=0 then e+1 else e-1
structure Lk (N:Net) (E:List Eg):Prop where
  len:∀ i,i<N.k→(ixs E i).length=N.n i
  lt:∀ i,i<N.k→∀ q,q<N.n i→(ixs E i).getD q 0<E.length
  ef:∀ i,i<N.k→∀ q,q<N.n i→(E.getD ((ixs E i).getD q 0) Eg.zero).f=i
  et:∀ i,i<N.k→∀ q,q<N.n i→(E.getD ((ixs E i).getD q 0) Eg.zero).t=N.to i q
  tw:∀ i,i<N.k→∀ q,q<N.n i→(ixs E (N.to i q)).getD (N.back i q) 0=tw ((ixs E i).getD q 0)
  inj:∀ i,i<N.k→∀ q q',q<N.n i→q'<N.n i→(ixs E i).getD q 0=(ixs E i).getD q' 0→q=q'
  evn:E.length%2=0
def rmE (E:List Eg) (r:Nat→Int):RM:=fun i q=>r ((ixs E i).getD q 0)
theorem Uh {e:Nat}:tw e≠e:=by unfold tw;split <;> omega
def pushE (r:Nat→Int) (e:Nat) (m:Int):Nat→Int:=upd (upd r e (r e-m)) (tw e) (r (tw e)+m)
section
variable {N:Net} {E:List Eg} {r:Nat→Int} {u j:Nat} {m B:Int}
theorem Iu:pushE r u m u=r u-m:=by unfold pushE;rw [eA _ _ (fun e=>Uh e.symm),cV]
theorem Iv:pushE r u m (tw u)=r (tw u)+m:=cV _ _ _
theorem Iw {e:Nat} (h1:e≠u) (h2:e≠tw u):pushE r u m e=r e:=by unfold pushE;rw [eA _ _ h2,eA _ _ h1]
theorem Lk.push (K:Lk N E) (W:N.Wf) (hu:u<N.k) (hj:j<N.n u):∀ i,i<N.k→∀ q,q<N.n i→rmE E (pushE r ((ixs E u).getD j 0) m) i q=along N (rmE E r) u j m i q:=by
  intro i hi q hq
  have htk:=W.to_lt u hu j hj
  have hbk:=W.bk_lt u hu j hj
  have same:∀ {i q i' q'},i<N.k→q<N.n i→i'<N.k→q'<N.n i'→(ixs E i).getD q 0=(ixs E i').getD q' 0→i=i'∧q=q':=by
    intro i q i' q' hi hq hi' hq' e
    have e1:i=i':=by rw [←K.ef i hi q hq,e,K.ef i' hi' q' hq']
    subst e1
    exact ⟨rfl,K.inj i hi q q' hq hq' e⟩
  show pushE r ((ixs E u).getD j 0) m ((ixs E i).getD q 0)=_
  by_cases h1:i=u∧q=j
  · obtain ⟨rfl,rfl⟩:=h1
    rw [Iu,nG W hi hq];rfl
  · by_cases h2:i=N.to u j∧q=N.back u j
    · obtain ⟨rfl,rfl⟩:=h2
      rw [nH,K.tw u hu j hj,Iv]
      show _=r ((ixs E (N.to u j)).getD (N.back u j) 0)+m
      rw [K.tw u hu j hj]
    · rw [nI h1 h2,Iw (fun e=>h1 (same hi hq hu hj e)) (fun e=>h2 (same hi hq htk hbk (by rw [K.tw u hu j hj];exact e)))];rfl
structure Rch (N:Net) (E:List Eg) (r:Nat→Int) (b:Nat) (L:Nat→Int) (by_:Nat→Nat):Prop where
  from_:∀ v,v<N.k→0≤L v→v=b∨∃ u,u<N.k∧∃ j,j<N.n u∧0≤L u∧0<rmE E r u j∧N.to u j=v∧L v=L u+1∧by_ v=(ixs E u).getD j 0
theorem Rch.start {b:Nat} (hb:b<N.k) {L:Nat→Int} (hL:∀ v,v<N.k→L v=if v=b then 0 else -1) {by_:Nat→Nat}:Rch N E r b L by_:=⟨fun v hv h0=>by
  rw [hL v hv] at h0
  split at h0
  · rename_i e;exact .inl e
  · omega⟩
end
def cr (S:Nat→Bool) (f t:Nat) (c:Int):Int:=if S f=true∧S t=false then c else 0
def hC (U:Nat→Nat→Bool) (T:Nat) (f t:Nat) (d:Int) (c:Int) (tick:Nat):Int:=if (tick:Int)+d≤T∧U f tick=true∧U t (tick+d.toNat)=false then c else 0
section
variable {P T:Nat} {pe xs:List Int} {out:Int} {ps:List Psg} {S:Nat→Bool}
end
section
variable {P T:Nat} {pe xs:List Int} {out:Int} {ps:List Psg} {S:Nat→Bool}
end
section
variable {P T:Nat} {pe xs:List Int} {out:Int} {ps:List Psg} {S:Nat→Bool} {v v':Int} {r r':RM} {L L':Nat→Int}
end
section
variable {N:Net} {E:List Eg} {r r2:Nat→Int} {b x:Nat} {L:Nat→Int} {by_:Nat→Nat} {m B:Int}
end
section
variable {P T:Nat} {pe xs:List Int} {out:Int} {ps:List Psg}
end
section
variable {P T:Nat} {ps:List Psg} {xs:List Int} {out:Int} {pe bl:List Int} {k:Nat}
end
section
variable {P T:Nat} {ps:List Psg} {xs:List Int} {out:Int} {pe pe' bl:List Int}
end
section
variable (ps:List Psg) (xs:List Int) (out:Int) (pe:List Int) (l:List Mv)
def mvIn (m:Mv):Prop:=(0≤m.pas∧m.pas<ps.length)∧(0≤m.at_∧m.at_≤60)∧(1≤m.many∧m.many≤1000)
instance (m:Mv):Decidable (mvIn ps m):=by unfold mvIn;exact inferInstance
end
section
variable {P T:Nat} {ps:List Psg} {xs:List Int} {out:Int} {pe bl:List Int} {l:List Mv} {m:Mv}
end
end
section
def enc2 (k:Int×Int):Value := .agg #[.int .i64 k.1,.int .i64 k.2]
section
variable {P:Program} {w:World} {kt e:TypeId}
theorem El (h1:One P e) {cs:Array Value} {i:Nat} {v:Value} (h:cs[i]?=some v):(part e cs i).run P w = .ok v w:=by
  have:(isAgg e).run P w = .ok false w:=by
    unfold One jK at h1
    unfold isAgg
    cases hu:P.underlying e with
    | none=>rw [hu] at h1;simp at h1
    | some d=>rw [hu] at h1;simp only [Sem.run_bind,bT hu,Result.andThen_ok];cases d <;> simp_all
  simp [part,this,h]
theorem Mr (he:P.underlying e=some (.int .i64)) (d:Nat) (a b:Int):(Op.equalIn (d+1) e (.int .i64 a) (.int .i64 b)).run P w = .ok (a == b) w:=by
  simp [Op.equalIn,bT he]
theorem Mt (he:P.underlying e=some (.int .i64)) (m:Bool) (n:Nat) (a:Int):(Instr.checkKey m (n+1) e (.int .i64 a)).run P w = .ok () w:=by
  rw [Instr.checkKey]
  simp only [Sem.run_bind,bT he,Result.andThen_ok]
  rfl
theorem Mu {κ:Type} [DecidableEq κ] {enc:κ→Value} (heq:∀ (k k':κ) (w:World),(Op.equal kt (enc k) (enc k')).run P w = .ok (decide (k=k')) w) (k:κ):∀ (l:List (κ×Value)) (es:List MapEntry) (i:Nat),es.map (fun e=>(e.key,e.val))=l.map (fun p=>(enc p.1,p.2))→(Instr.findAsking kt (enc k) es i).run P w = .ok (findL k l i) w:=by
  intro l
  induction l with
  | nil=>
    intro es i he
    have:es=[]:=by simpa using he
    subst this
    rfl
  | cons p l ih=>
    intro es i he
    cases es with
    | nil=>simp at he
    | cons x es=>
      simp only [List.map_cons,List.cons.injEq,Prod.mk.injEq] at he
      obtain ⟨⟨g1,g2⟩,g3⟩:=he
      rw [Instr.findAsking,g1]
      simp only [Sem.run_bind,heq,Result.andThen_ok,findL]
      by_cases hk:k=p.1
      · rw [if_pos hk,decide_eq_true hk,g2];rfl
      · rw [if_neg hk,decide_eq_false hk]
        exact ih es (i+1) g3
end
theorem Rs {κ:Type} {enc:κ→Value} {es:List MapEntry} {l:List (κ×Value)} {j:Nat} {k:κ} {v:Value} (he:es.map (fun e=>(e.key,e.val))=l.map (fun p=>(enc p.1,p.2))) (h:l[j]?=some (k,v)):∃ e,es[j]?=some e∧e.key=enc k∧e.val=v:=by
  have h1:(es.map (fun e=>(e.key,e.val)))[j]?=(l.map (fun p=>(enc p.1,p.2)))[j]?:=by rw [he]
  rw [List.getElem?_map,List.getElem?_map,h] at h1
  cases h2:es[j]? with
  | none=>rw [h2] at h1;simp at h1
  | some e=>rw [h2] at h1;simp at h1;exact ⟨e,rfl,h1.1,h1.2⟩
def mapK {κ:Type} [DecidableEq κ] (enc:κ→Value) (b:Nat) (Φ:(κ→Option Value)→Prop):Mem where
  fp:=fun k=>k=b
  holds:=fun w=>∃ (es:Array MapEntry) (ck:Nat) (l:List (κ×Value)),w.heap[b]?=some (.map es ck)∧es.toList.map (fun e=>(e.key,e.val))=l.map (fun p=>(enc p.1,p.2))∧(∀ x ∈ es.toList,x.born<ck)∧(es.toList.map MapEntry.born).Nodup∧Φ (getL l)
  stable:=fun _ _ h ⟨es,ck,l,h1,h2⟩=>⟨es,ck,l,(h b rfl).trans h1,h2⟩
section
variable {P:Program} {ops:Array Oper} {w w0:World} {F0:Nat→Prop} {R:List Mem} {Q:Exit→Act→World→Prop} {rest:List Oper} {N:FN} {L:List (Nat×Value)} {a:Act} {ty:TypeId} {pos:String} {af:Array Edge}
variable {κ:Type} [DecidableEq κ] {enc:κ→Value} {Φ Φ':(κ→Option Value)→Prop}
theorem hO {d t:Nat} (enc:κ→Value) (Φ:(κ→Option Value)→Prop) (hΦ:Φ (fun _=>none)) (H:Fr N L a) (hd:Nat.blt d N.n=true) (S:St w0 F0 R w)
    (k:∀ b w' a',w0.heap.size≤b→St w0 F0 (mapK enc b Φ::R) w'→Fr N ((d,.map (some b))::L) a'→wpList P ops Q rest a' w') :
    wpList P ops Q (⟨some d,.makeMap t none,ty,pos,af,none⟩::rest) a w:=by
  refine wpList_plain rfl fun K hK=>?_
  unfold Oper.wp
  have e:(execOp a.eval ⟨some d,.makeMap t none,ty,pos,af,none⟩).run P w = .ok (.value (.map (some w.heap.size))) (w.alloc (.map #[] 0)):=by
    simp [execOp,Instr.makeMap,newObj,Sem.run]
  rw [e]
  refine hK _ _ (k w.heap.size _ _ S.size (S.new (Keeps.alloc w _ _) ⟨#[],0,[],heap_alloc_new w _,rfl,fun x hx=>by simp at hx,by simp,hΦ⟩ ?_) (H.put _ hd))
  intro q hq
  rw [show q=w.heap.size from hq]
  simp
theorem vY {x y:Operand} {t kt et b i:Nat} {d:Option Nat} {g:Option (Nat×Bool)} {z v:Value} {k:κ} (S:St w0 F0 R w) (hi:R[i]?=some (mapK enc b Φ)) (ht:MapT P t kt et) (hk:KeyOk P kt enc) (hz:ZeroV P et z) (hx:ev L x=some (.map (some b))) (hy:ev L y=some (enc k)) (hv:∀ h,Φ h→(h k).getD z=v) :
    Does P L ⟨d,.lookup t x y false,ty,pos,af,g⟩ w v:=fun ρ hρ=>by
  obtain ⟨es,ck,l,hb,he,_,_,hΦ⟩:=S.holds hi
  have:=mP (k:=k) ht hk hz (⟨es,ck,hb,he⟩:(mapM enc b l).holds w) false
  simp [execOp,hρ _ _ hx,hρ _ _ hy,this,hv _ hΦ]
theorem lN {x y:Operand} {t kt et b i:Nat} {d:Option Nat} {g:Option (Nat×Bool)} {z v:Value} {s:Bool} {k:κ} (S:St w0 F0 R w) (hi:R[i]?=some (mapK enc b Φ)) (ht:MapT P t kt et) (hk:KeyOk P kt enc) (hz:ZeroV P et z) (hx:ev L x=some (.map (some b))) (hy:ev L y=some (enc k)) (hv:∀ h,Φ h→(h k).getD z=v∧(h k).isSome=s) :
    Does P L ⟨d,.lookup t x y true,ty,pos,af,g⟩ w (.tuple #[v,.bool s]):=fun ρ hρ=>by
  obtain ⟨es,ck,l,hb,he,_,_,hΦ⟩:=S.holds hi
  have:=mP (k:=k) ht hk hz (⟨es,ck,hb,he⟩:(mapM enc b l).holds w) true
  obtain ⟨h1,h2⟩:=hv _ hΦ
  simp [execOp,hρ _ _ hx,hρ _ _ hy,this,h1,h2]
theorem Ix {l:List (κ×Value)} {k:κ} {v:Value} (h:findL k l 0=none):setL l k v=l++[(k,v)]:=by unfold setL;rw [h]
theorem Iy {l:List (κ×Value)} {k:κ} {v v0:Value} {j:Nat} (h:findL k l 0=some (j,v0)):setL l k v=l.modify j fun p=>(p.1,v):=by unfold setL;rw [h]
theorem Em {l:List (κ×Value)} {k:κ} {v:Value}:getL (setL l k v)=fun k'=>if k'=k then some v else getL l k':=funext fun k'=>xF v k k' l
theorem yD (f:MapEntry→MapEntry) (hf:∀ e,(f e).born=e.born):∀ (l:List MapEntry) (i:Nat),(l.modify i f).map MapEntry.born=l.map MapEntry.born:=by
  intro l
  induction l with
  | nil=>intro i;simp
  | cons e l ih=>
    intro i
    cases i with
    | zero=>simp [hf]
    | succ i=>simp [List.modify_succ_cons,ih]
theorem Mw {l l':List MapEntry} {ck:Nat} (h:l'.map MapEntry.born=l.map MapEntry.born) (hl:∀ x ∈ l,x.born<ck):∀ x ∈ l',x.born<ck:=fun x hx=>by
  have h1:x.born ∈ l'.map MapEntry.born:=List.mem_map.2 ⟨x,hx,rfl⟩
  rw [h] at h1
  obtain ⟨y,hy,e⟩:=List.mem_map.1 h1
  have:=hl y hy
  omega
theorem Iz {l:List MapEntry} {e:MapEntry} {ck:Nat} (he:e.born=ck) (hl:∀ x ∈ l,x.born<ck) (hn:(l.map MapEntry.born).Nodup):(∀ x ∈ l++[e],x.born<ck+1)∧((l++[e]).map MapEntry.born).Nodup:=by
  constructor
  · intro x hx
    rcases List.mem_append.1 hx with hx|hx
    · have:=hl x hx;omega
    · rw [List.mem_singleton.1 hx];omega
  · rw [List.map_append,List.nodup_append]
    refine ⟨hn,by simp,fun p hp q hq e1=>?_⟩
    obtain ⟨x,hx,rfl⟩:=List.mem_map.1 hp
    simp only [List.map_cons,List.map_nil,List.mem_singleton] at hq
    have:=hl x hx
    omega
theorem iF {x y u:Operand} {t kt et b i:Nat} {k:κ} {v:Value} (Φ':(κ→Option Value)→Prop) (H:Fr N L a) (S:St w0 F0 R w) (hi:R[i]?=some (mapK enc b Φ)) (ht:MapT P t kt et) (hk:KeyOk P kt enc) (hx:ev L x=some (.map (some b))) (hy:ev L y=some (enc k)) (hu:ev L u=some v)
    (hΦ':∀ h,Φ h→Φ' (fun k'=>if k'=k then some v else h k'))
    (kk:∀ w' a',St w0 F0 (R.set i (mapK enc b Φ')) w'→Fr N L a'→wpList P ops Q rest a' w') :
    wpList P ops Q (⟨none,.mapUpdate t x y u,ty,pos,af,none⟩::rest) a w:=by
  refine wpList_plain rfl fun K hK=>?_
  obtain ⟨es,ck,l,hb,he,hlt,hnd,hΦ⟩:=S.holds hi
  have hf:=hk.find l k es.toList w he
  have hg:(getObj b).run P w = .ok (.map es ck) w:=by simp [getObj,Sem.run,hb]
  have hs:∀ o,(setObj b o).run P w = .ok () (w.putObj b o):=fun o=>by simp [setObj,Sem.run,hb,World.putObj]
  have hkeeps:∀ o,Keeps w (w.putObj b o) (fun k=>k=b):=fun o=>⟨rfl,rfl,rfl,by simp [World.putObj],fun q _ hq=>World.putObj_heap_other (fun e=>hq e)⟩
  have hΦ2:Φ' (getL (setL l k v)):=by rw [Em];exact hΦ' _ hΦ
  unfold MapT at ht
  unfold Oper.wp
  cases hfl:findL k l 0 with
  | none=>
    rw [hfl] at hf
    have e1:(execOp a.eval ⟨none,.mapUpdate t x y u,ty,pos,af,none⟩).run P w = .ok .skip (w.putObj b (.map (es.push { key:=enc k,val:=v,born:=ck }) (ck+1))):=by
      simp [execOp,H.eval hx,H.eval hy,H.eval hu,Instr.mapUpdate,bT ht,hg,hk.check,hf,hs]
    rw [e1]
    have hb2:=Iz (e:={ key:=enc k,val:=v,born:=ck }) rfl hlt hnd
    refine hK _ _ (kk _ _ (S.updSame hi (hkeeps _) ⟨_,_,setL l k v,World.putObj_heap_same (dT hb),?_,?_,?_,hΦ2⟩ (fun _ h=>h)) (H.put_none _))
    · rw [Ix hfl];simp [he]
    · rw [Array.toList_push];exact hb2.1
    · rw [Array.toList_push];exact hb2.2
  | some q=>
    obtain ⟨j,v0⟩:=q
    rw [hfl] at hf
    have hat:=xG hfl
    obtain ⟨e0,h1,h2,h3⟩:=Rs he hat
    have hej:(es[j]?).map (·.key)=some (enc k):=by rw [←Array.getElem?_toList,h1,←h2];rfl
    have hst:(Instr.keyThatStays (enc k) (enc k)).run P w = .ok (enc k) w:=by simp [Instr.keyThatStays,hk.bits k]
    have e1:(execOp a.eval ⟨none,.mapUpdate t x y u,ty,pos,af,none⟩).run P w = .ok .skip (w.putObj b (.map (es.modify j fun e=>{ e with key:=enc k,val:=v }) ck)):=by
      simp [execOp,H.eval hx,H.eval hy,H.eval hu,Instr.mapUpdate,bT ht,hg,hk.check,hf,hs,hej,hst]
    rw [e1]
    have hbm:=yD (fun e=>{ e with key:=enc k,val:=v }) (fun _=>rfl) es.toList j
    refine hK _ _ (kk _ _ (S.updSame hi (hkeeps _) ⟨_,_,setL l k v,World.putObj_heap_same (dT hb),?_,?_,?_,hΦ2⟩ (fun _ h=>h)) (H.put_none _))
    · rw [Iy hfl,Array.toList_modify]
      refine qT _ _ _ _ es.toList l j he fun e p g1 g2 g3=>?_
      rw [hat] at g3
      injection g3 with g3
      subst g3
      rfl
    · rw [Array.toList_modify];exact Mw hbm hlt
    · rw [Array.toList_modify,hbm];exact hnd
end
def ints (xs:List Int):Value := .agg (xs.map fun x=>Value.int .i64 x).toArray
structure IntsK (P:Program) (t:TypeId) (n D:Nat):Prop where
  agg:Agg P t
  sz:Sz P t n
  eq:∀ (d:Nat) (xs ys:List Int) (w:World),xs.length=n→ys.length=n→(Op.equalIn (d+D) t (ints xs) (ints ys)).run P w = .ok (decide (xs=ys)) w
  ck:∀ (m:Bool) (d:Nat) (xs:List Int) (w:World),xs.length=n→(Instr.checkKey m (d+D) t (ints xs)).run P w = .ok () w
section
variable {P:Program} {w:World} {kt e:TypeId} {n D:Nat}
theorem tW {n:Nat} (ha:Agg P e) (hs:Sz P e n) (cs:Array Value) (i:Nat):(part e cs i).run P w = .ok (.agg (cs.extract i (i+n))) w:=by
  have h1:(isAgg e).run P w = .ok true w:=by
    unfold Agg jK at ha
    unfold isAgg
    cases hu:P.underlying e with
    | none=>rw [hu] at ha;simp at ha
    | some d=>rw [hu] at ha;simp only [Sem.run_bind,bT hu,Result.andThen_ok];cases d <;> simp_all
  have h2:(sizeOf e).run P w = .ok n w:=by
    unfold Sz at hs
    cases hi:P.info? e with
    | none=>rw [hi] at hs;simp at hs
    | some i=>rw [hi] at hs;simp at hs;simp [sizeOf,typeInfo,hi,hs]
  simp [part,h1,h2]
theorem tX {n:Nat} (hs:Sz P e n):(sizeOf e).run P w = .ok n w:=by
  unfold Sz at hs
  cases hi:P.info? e with
  | none=>rw [hi] at hs;simp at hs
  | some i=>rw [hi] at hs;simp at hs;simp [sizeOf,typeInfo,hi,hs]
theorem yE (xs:List Int) (i n:Nat):((xs.map fun x=>Value.int .i64 x).toArray).extract i (i+n)=(((xs.drop i).take n).map fun x=>Value.int .i64 x).toArray:=by
  rw [List.extract_toArray,List.extract_eq_take_drop,Nat.add_sub_cancel_left,List.map_take,List.map_drop]
theorem Mx {xs:List Int} {i:Nat} (h:i<xs.length):((xs.map fun x=>Value.int .i64 x).toArray)[i]?=some (.int .i64 (xs.getD i 0)):=by
  simp [List.getD_eq_getElem?_getD,h]
theorem Ja {α:Type} {f:α→Sem Bool} {b:α→Bool} {w:World} (l:List α) (h:∀ i ∈ l,(f i).run P w = .ok (b i) w) :
    (do let r ←forIn (m:=Sem) l ((none,()):Option Bool×PUnit) fun i r=>do
          let x ←f i
          if !x then pure (ForInStep.done (some false,())) else pure (ForInStep.yield (none,()))
        match r.fst with
        | some a=>pure a
        | none=>pure true:Sem Bool).run P w = .ok (l.all b) w:=by
  have key:∀ l:List α,(∀ i ∈ l,(f i).run P w = .ok (b i) w)→(forIn (m:=Sem) l ((none,()):Option Bool×PUnit) fun i r=>do
          let x ←f i
          if !x then pure (ForInStep.done (some false,())) else pure (ForInStep.yield (none,()))).run P w = .ok ((if l.all b=true then none else some false,())) w:=by
    intro l
    induction l with
    | nil=>intro _;simp
    | cons a l ih=>
      intro h
      have h1:=h a (by simp)
      have h2:=ih fun i hi=>h i (by simp [hi])
      rw [List.forIn_cons]
      cases hb:b a with
      | true=>
        rw [hb] at h1
        have e:(a::l).all b=l.all b:=by simp [hb]
        rw [e]
        simp only [Sem.run_bind,h1,Result.andThen_ok]
        simpa using h2
      | false=>
        rw [hb] at h1
        simp [h1,hb]
  simp only [Sem.run_bind,key l h,Result.andThen_ok]
  by_cases hl:l.all b=true
  · simp [hl]
  · simp [hl]
theorem En {α:Type} {f:α→Sem Unit} {w:World} (l:List α) (h:∀ i ∈ l,(f i).run P w = .ok () w) :
    (forIn (m:=Sem) l () fun i r=>do f i;pure (ForInStep.yield ())).run P w = .ok () w:=by
  induction l with
  | nil=>simp
  | cons a l ih=>
    have h1:=h a (by simp)
    have h2:=ih fun i hi=>h i (by simp [hi])
    rw [List.forIn_cons]
    simp only [Sem.run_bind,h1,Result.andThen_ok]
    simpa using h2
def seg (xs:List Int) (off n:Nat):List Int:=(xs.drop off).take n
theorem nY {xs:List Int} {off n:Nat} (h:off+n≤xs.length):(seg xs off n).length=n:=by simp [seg];omega
structure PartK (P:Program) (t:TypeId) (n D:Nat):Prop where
  eq:∀ (d:Nat) (xs ys:List Int) (off:Nat) (w:World),off+n≤xs.length→off+n≤ys.length →
    (do let a ←part t (xs.map fun x=>Value.int .i64 x).toArray off;let b ←part t (ys.map fun x=>Value.int .i64 x).toArray off;Op.equalIn (d+D) t a b:Sem Bool).run P w = .ok (decide (seg xs off n=seg ys off n)) w
  ck:∀ (m:Bool) (d:Nat) (xs:List Int) (off:Nat) (w:World),off+n≤xs.length→(do let a ←part t (xs.map fun x=>Value.int .i64 x).toArray off;Instr.checkKey m (d+D) t a:Sem Unit).run P w = .ok () w
theorem PartK.of (h:IntsK P kt n D):PartK P kt n D:=by
  refine ⟨fun d xs ys off w hx hy=>?_,fun m d xs off w hx=>?_⟩
  · simp only [Sem.run_bind,tW h.agg h.sz,Result.andThen_ok,yE]
    exact h.eq d _ _ w (nY hx) (nY hy)
  · simp only [Sem.run_bind,tW h.agg h.sz,Result.andThen_ok,yE]
    exact h.ck m d _ w (nY hx)
theorem Cg {xs:List Int} {i:Nat} (h:i<xs.length):seg xs i 1=[xs.getD i 0]:=by
  rw [seg,List.drop_eq_getElem_cons h,List.take_succ_cons,List.take_zero,List.getD_eq_getElem?_getD,List.getElem?_eq_getElem h]
  rfl
theorem PartK.int (he:P.underlying e=some (.int .i64)) (h1:One P e):PartK P e 1 1:=by
  have hp:∀ (zs:List Int) (i:Nat),i<zs.length→∀ w,(part e (zs.map fun x=>Value.int .i64 x).toArray i).run P w = .ok (.int .i64 (zs.getD i 0)) w:=fun zs i hi w=>El h1 (Mx hi)
  refine ⟨fun d xs ys off w hx hy=>?_,fun m d xs off w hx=>?_⟩
  · simp only [Sem.run_bind,hp xs off (by omega),hp ys off (by omega),Result.andThen_ok,Mr he]
    rw [Cg (by omega),Cg (by omega)]
    rw [show decide ([xs.getD off 0]=[ys.getD off 0])=decide (xs.getD off 0=ys.getD off 0) by simp]
    rfl
  · simp only [Sem.run_bind,hp xs off (by omega),Result.andThen_ok,Mt he]
theorem PartK.mono {n D:Nat} (h:PartK P e n D):PartK P e n (D+1):=
  ⟨fun d xs ys off w hx hy=>by have:=h.eq (d+1) xs ys off w hx hy;rw [Nat.add_assoc,Nat.add_comm 1 D] at this;exact this,fun m d xs off w hx=>by have:=h.ck m (d+1) xs off w hx;rw [Nat.add_assoc,Nat.add_comm 1 D] at this;exact this⟩
theorem PartK.int2 (he:P.underlying e=some (.int .i64)) (h1:One P e):PartK P e 1 2:=(PartK.int he h1).mono
theorem Ch {xs ys:List Int} {off n m:Nat} (hx:off+n+m≤xs.length) (hy:off+n+m≤ys.length):seg xs off (n+m)=seg ys off (n+m)↔seg xs off n=seg ys off n∧seg xs (off+n) m=seg ys (off+n) m:=by
  have e:∀ zs:List Int,seg zs off (n+m)=seg zs off n++seg zs (off+n) m:=fun zs=>by
    unfold seg;rw [List.take_add,List.drop_drop]
  rw [e,e]
  exact ⟨fun h=>List.append_inj h (by rw [nY (by omega),nY (by omega)]),fun h=>by rw [h.1,h.2]⟩
theorem qD {xs:List Int} {n:Nat} (h:xs.length=n):seg xs 0 n=xs:=by unfold seg;rw [List.drop_zero,List.take_of_length_le (by omega)]
theorem Rt {xs ys:List Int} {m:Nat}:∀ len,len*m≤xs.length→len*m≤ys.length→((List.range len).all fun i=>decide (seg xs (i*m) m=seg ys (i*m) m))=decide (seg xs 0 (len*m)=seg ys 0 (len*m)):=by
  intro len
  induction len with
  | zero=>intro _ _;simp [seg]
  | succ len ih=>
    intro hx hy
    rw [Nat.add_mul] at hx hy
    rw [List.range_succ,List.all_append,ih (by omega) (by omega),Bool.eq_iff_iff,Nat.add_mul,Nat.one_mul,decide_eq_true_eq,Ch (by omega) (by omega),Nat.zero_add]
    simp
theorem Jc {len m D:Nat} (hk:P.underlying kt=some (.array len e)) (hs:Sz P kt (len*m)) (he:PartK P e m D) (hse:Sz P e m):IntsK P kt (len*m) (D+1):=by
  refine ⟨by unfold Agg jK;rw [hk],hs,fun d xs ys w hx hy=>?_,fun b d xs w hx=>?_⟩
  · have hq:∀ i ∈ List.range len,(do let a ←part e (xs.map fun x=>Value.int .i64 x).toArray (i*m);let b ←part e (ys.map fun x=>Value.int .i64 x).toArray (i*m);Op.equalIn (d+D) e a b:Sem Bool).run P w = .ok (decide (seg xs (i*m) m=seg ys (i*m) m)) w:=fun i hi=>by
      have hi':=List.mem_range.1 hi
      have:(i+1)*m≤len*m:=Nat.mul_le_mul_right _ (by omega)
      rw [Nat.add_mul] at this
      exact he.eq d xs ys (i*m) w (by omega) (by omega)
    have hr:=Ja (P:=P) (w:=w) (List.range len) hq
    rw [Rt len (by omega) (by omega),qD hx,qD hy] at hr
    unfold ints
    rw [show d+(D+1)=(d+D)+1 from rfl,Op.equalIn]
    simp only [Sem.run_bind,bT hk,tX hse,Result.andThen_ok,Std.Legacy.Range.forIn_eq_forIn_range',Std.Legacy.Range.size]
    rw [List.range_eq_range'] at hr
    simp at hr ⊢
    rw [←hr]
    congr 1
    funext a w'
    cases a with|mk x y=>cases x <;> rfl
  · have hz:(sizeOf e).run P w = .ok m w:=tX hse
    have hq:∀ i ∈ List.range len,(do let s ←sizeOf e;let a ←part e (xs.map fun x=>Value.int .i64 x).toArray (i*s);Instr.checkKey b (d+D) e a:Sem Unit).run P w = .ok () w:=fun i hi=>by
      have hi':=List.mem_range.1 hi
      have:(i+1)*m≤len*m:=Nat.mul_le_mul_right _ (by omega)
      rw [Nat.add_mul] at this
      have h9:=he.ck b d xs (i*m) w (by omega)
      rw [Sem.run_bind,hz,Result.andThen_ok]
      exact h9
    have hr:=En (P:=P) (w:=w) (List.range len) hq
    unfold ints
    rw [show d+(D+1)=(d+D)+1 from rfl,Instr.checkKey]
    simp only [Sem.run_bind,bT hk,Result.andThen_ok,Std.Legacy.Range.forIn_eq_forIn_range',Std.Legacy.Range.size]
    rw [List.range_eq_range'] at hr
    simp at hr ⊢
    exact congrArg (fun r:Result Unit=>r.andThen fun _ w'=>Result.ok () w') hr
inductive FieldsK (P:Program) (D:Nat):Nat→List Field→Nat→Prop
  | nil (off:Nat):FieldsK P D off [] off
  | cons {off n E : Nat} {f : Field} {fs : List Field} (h1 : f.name ≠ "_") (h2 : f.offset = off) (h3 : PartK P f.type n D) (h4 : FieldsK P D (off + n) fs E) : FieldsK P D off (f :: fs) E
theorem FieldsK.le {fs:List Field} {off E:Nat} (h:FieldsK P D off fs E):off≤E:=by
  induction h with
  | nil=>exact Nat.le_refl _
  | cons _ _ _ _ ih=>omega
theorem FieldsK.eqs {fs:List Field} {off E:Nat} (h:FieldsK P D off fs E) (xs ys:List Int) (d:Nat) (hx:E≤xs.length) (hy:E≤ys.length) :
    (forIn (m := Sem) fs ((none, ()) : Option Bool × PUnit) fun f r => if f.name ≠ "_" then do
          let c ←(do let a ←part f.type (xs.map fun x=>Value.int .i64 x).toArray f.offset;let b ←part f.type (ys.map fun x=>Value.int .i64 x).toArray f.offset;Op.equalIn (d+D) f.type a b:Sem Bool)
          if !c then pure (ForInStep.done (some false,())) else pure (ForInStep.yield (none,()))
        else pure (ForInStep.yield (none,()))).run P w = .ok ((if seg xs off (E-off)=seg ys off (E-off) then none else some false,())) w:=by
  induction h with
  | nil off=>simp [seg]
  | @cons off n E f fs h1 h2 h3 h4 ih=>
    have hle:=h4.le
    have h5:=h3.eq d xs ys off w (by omega) (by omega)
    have h6:=ih hx hy
    have h7:=Ch (xs:=xs) (ys:=ys) (off:=off) (n:=n) (m:=E-(off+n)) (by omega) (by omega)
    rw [show n+(E-(off+n))=E-off by omega] at h7
    rw [List.forIn_cons,if_pos h1,h2]
    by_cases hs:seg xs off n=seg ys off n
    · rw [decide_eq_true hs] at h5
      rw [Sem.run_bind,Sem.run_bind,h5,Result.andThen_ok]
      simp only [Bool.not_true,Bool.false_eq_true,if_false,Sem.run_pure,Result.andThen_ok]
      rw [h6]
      by_cases ht:seg xs (off+n) (E-(off+n))=seg ys (off+n) (E-(off+n))
      · rw [if_pos ht,if_pos (h7.2 ⟨hs,ht⟩)]
      · rw [if_neg ht,if_neg (fun h=>ht (h7.1 h).2)]
    · rw [decide_eq_false hs] at h5
      rw [Sem.run_bind,Sem.run_bind,h5,Result.andThen_ok]
      simp only [Bool.not_false,if_true,Sem.run_pure,Result.andThen_ok]
      rw [if_neg (fun h=>hs (h7.1 h).1)]
theorem FieldsK.cks {fs:List Field} {off E:Nat} (h:FieldsK P D off fs E) (xs:List Int) (m:Bool) (d:Nat) (hx:E≤xs.length) :
    (forIn (m := Sem) fs () fun f r => if f.name ≠ "_" then do
          (do let a ←part f.type (xs.map fun x=>Value.int .i64 x).toArray f.offset;Instr.checkKey m (d+D) f.type a:Sem Unit)
          pure (ForInStep.yield ())
        else pure (ForInStep.yield ())).run P w = .ok () w:=by
  induction h with
  | nil off=>simp
  | @cons off n E f fs h1 h2 h3 h4 ih=>
    have hle:=h4.le
    have h5:=h3.ck m d xs off w (by omega)
    have h6:=ih hx
    rw [List.forIn_cons,if_pos h1,h2]
    rw [Sem.run_bind,Sem.run_bind,h5,Result.andThen_ok]
    simp only [Sem.run_pure,Result.andThen_ok]
    exact h6
theorem Jd {fs:Array Field} {n:Nat} (hk:P.underlying kt=some (.struct fs)) (hs:Sz P kt n) (hf:FieldsK P D 0 fs.toList n) (hst:P.stoodInHeld kt=false):IntsK P kt n (D+1):=by
  refine ⟨by unfold Agg jK;rw [hk],hs,fun d xs ys w hx hy=>?_,fun b d xs w hx=>?_⟩
  · have hr:=hf.eqs (w:=w) xs ys d (by omega) (by omega)
    rw [Nat.sub_zero,qD hx,qD hy] at hr
    have hpg:(program:Sem Program).run P w = .ok P w:=rfl
    unfold ints
    rw [show d+(D+1)=(d+D)+1 from rfl,Op.equalIn]
    simp only [Sem.run_bind,bT hk,hpg,hst,Result.andThen_ok]
    simp at hr ⊢
    have hr2:=congrArg (fun r:Result (Option Bool×PUnit)=>r.andThen fun a w'=>Sem.run P (match a.fst with|some r=>pure r|none=>pure true) w') hr
    refine Eq.trans ?_ (hr2.trans (by by_cases h:xs=ys <;> simp [h]))
    refine congrArg _ ?_
    funext a w'
    cases a with|mk x y=>cases x <;> rfl
  · have hr:=hf.cks (w:=w) xs b d (by omega)
    unfold ints
    rw [show d+(D+1)=(d+D)+1 from rfl,Instr.checkKey]
    simp only [Sem.run_bind,bT hk,Result.andThen_ok]
    simp at hr ⊢
    exact congrArg (fun r:Result Unit=>r.andThen fun _ w'=>Result.ok () w') hr
def KeyN (n:Nat):Type:={ l:List Int // l.length=n }
instance {n:Nat}:DecidableEq (KeyN n):=fun a b=>if h:a.1=b.1 then .isTrue (Subtype.ext h) else .isFalse fun e=>h (congrArg Subtype.val e)
def encN {n:Nat} (k:KeyN n):Value:=ints k.1
theorem Eo (xs:List Int) (d:Nat):Instr.sameBits (d+1) (ints xs) (ints xs)=true:=by
  unfold ints
  rw [Instr.sameBits]
  simp only [beq_self_eq_true,Bool.true_and]
  rw [List.all_eq_true]
  rintro ⟨x,y⟩ h
  rw [List.zip_eq_zipWith] at h
  simp only [List.zipWith_self,List.mem_map] at h
  obtain ⟨v,hv,e⟩:=h
  cases e
  have hv':x ∈ xs.map fun x=>Value.int .i64 x:=by simpa using hv
  obtain ⟨q,_,rfl⟩:=List.mem_map.1 hv'
  simp [Instr.sameBits]
theorem My {n:Nat} (h:IntsK P kt n D) (hD:D≤100) (hwide:(match P.underlying kt with|some (.array _ _)|some (.struct _)=>true|_=>false)=true):KeyOk P kt (encN (n:=n)):=by
  have heq:∀ (k k':KeyN n) (w:World),(Op.equal kt (encN k) (encN k')).run P w = .ok (decide (k=k')) w:=fun k k' w=>by
    have:=h.eq (10000-D) k.1 k'.1 w k.2 k'.2
    rw [Nat.sub_add_cancel (by omega)] at this
    unfold Op.equal Op.maxDepth encN
    rw [this]
    congr 1
    exact decide_eq_decide.2 ⟨fun h=>Subtype.ext h,fun h=>congrArg Subtype.val h⟩
  refine ⟨fun l k es w he=>?_,fun m k w=>?_,fun k=>Eo _ _⟩
  · rw [run_findKey_eq w hwide]
    exact Mu heq k l es 0 he
  · have:=h.ck m (10000-D) k.1 w k.2
    rw [Nat.sub_add_cancel (by omega)] at this
    exact this
end
structure Unt where
  mach:Int
  every:Int
  seen:Int
  rates:List (Int×Int)
  RA:Option Addr
  rc:Nat
  worn:Int
  turns:Int
  age:Int
  uses:List Use
  UA:Option Addr
  uc:Nat
  old:Int
  tn:Int
  cl:Int
  kind:Int
def Unt.zero:Unt:=⟨0,0,0,[],none,0,0,0,0,[],none,0,0,0,0,0⟩
def Unt.cell (u:Unt):Nat→Value
  | 0 => .int .i64 u.mach
  | 1 => .int .i64 u.every
  | 2 => .int .i64 u.seen
  | 3 => .slice u.RA u.rates.length u.rc
  | 4 => .int .i64 u.worn
  | 5 => .int .i64 u.turns
  | 6 => .int .i64 u.age
  | 7 => .slice u.UA u.uses.length u.uc
  | 8 => .int .i64 u.old
  | 9 => .int .i64 u.tn
  | 10 => .int .i64 u.cl
  | _ => .int .i64 u.kind
def vcell (l:List Unt) (k j:Nat):Value:=(l.getD k Unt.zero).cell j
def Unt.part (u:Unt):Part:=⟨u.rates,u.worn,u.turns,u.age⟩
def Unt.same (u v:Unt):Prop:=v={ u with RA:=v.RA,rc:=v.rc,UA:=v.UA,uc:=v.uc }
structure Spr where
  day:Int
  kind:Int
  many:Int
def Spr.zero:Spr:=⟨0,0,0⟩
def Spr.cell (s:Spr):Nat→Value
  | 0 => .int .i64 s.day
  | 1 => .int .i64 s.kind
  | _ => .int .i64 s.many
def Ru (l:List Spr) (k j:Nat):Value:=(l.getD k Spr.zero).cell j
structure Tsk where
  day:Int
  unit:Int
  kind:Int
deriving instance DecidableEq for Tsk
def Tsk.zero:Tsk:=⟨0,0,0⟩
def Tsk.cell (t:Tsk):Nat→Value
  | 0 => .int .i64 t.day
  | 1 => .int .i64 t.unit
  | _ => .int .i64 t.kind
def dX (l:List Tsk) (k j:Nat):Value:=(l.getD k Tsk.zero).cell j
structure Yr where
  days:Int
  pl:Int
  ps:List Psg
  PA:Option Addr
  pc:Nat
  xs:List Int
  XA:Option Addr
  xc:Nat
  pe:List Int
  BA:Option Addr
  bc:Nat
  limit:Int
  help:Bool
  prs:List Prm
  QA:Option Addr
  qc:Nat
  us:List Unt
  VA:Option Addr
  vc:Nat
  crew:Int
  sps:List Spr
  SA:Option Addr
  sc:Nat
def Yr.cells (y:Yr):List Value:=[.int .i64 y.days,.int .i64 y.pl,.slice y.PA y.ps.length y.pc,.slice y.XA y.xs.length y.xc,.slice y.BA y.pe.length y.bc,.int .i64 y.limit,.bool y.help,.slice y.QA y.prs.length y.qc,.slice y.VA y.us.length y.vc,.int .i64 y.crew,.slice y.SA y.sps.length y.sc]
abbrev Yr.st (y:Yr):Value := .agg [.int .i64 y.pl,.slice y.PA y.ps.length y.pc,.slice y.XA y.xs.length y.xc].toArray
abbrev Yr.u (y:Yr) (k:Nat):Unt:=y.us.getD k Unt.zero
structure YIn (w:World) (F:Nat→Prop) (y:Yr):Prop where
  ps:InS w F 7 y.PA y.ps.length (pcell y.ps)
  xs:InS w F 1 y.XA y.xs.length (icl y.xs)
  pe:InS w F 1 y.BA y.pe.length (icl y.pe)
  prs:InS w F 5 y.QA y.prs.length (fB y.prs)
  us:InS w F 12 y.VA y.us.length (vcell y.us)
  sps:InS w F 3 y.SA y.sps.length (Ru y.sps)
  rt:∀ k,k<y.us.length→InS w F 2 (y.us.getD k Unt.zero).RA (y.us.getD k Unt.zero).rates.length (scell (y.us.getD k Unt.zero).rates)
  ul:∀ k,k<y.us.length→InS w F 6 (y.us.getD k Unt.zero).UA (y.us.getD k Unt.zero).uses.length (ucell (y.us.getD k Unt.zero).uses)
structure YBd (y:Yr):Prop where
  ps:y.ps.length*56≤140737488351232
  xs:y.xs.length*8≤140737488351232
  pe:y.pe.length*8≤140737488351232
  prs:y.prs.length*40≤140737488351232
  us:y.us.length*120≤140737488351232
  sps:y.sps.length*24≤140737488351232
  rt:∀ k,k<y.us.length→(y.us.getD k Unt.zero).rates.length*16≤140737488351232
  ul:∀ k,k<y.us.length→(y.us.getD k Unt.zero).uses.length*48≤140737488351232
  cap:∀ k,k<y.us.length→(y.us.getD k Unt.zero).uses.length≤(y.us.getD k Unt.zero).uc
section
variable {w w0:World} {F F0:Nat→Prop} {R:List Mem} {y:Yr}
theorem YIn.now (h:YIn w0 F0 y) (S:St w0 F0 R w):YIn w noF y:=
  ⟨h.ps.now S,h.xs.now S,h.pe.now S,h.prs.now S,h.us.now S,h.sps.now S,fun k hk=>(h.rt k hk).now S,fun k hk=>(h.ul k hk).now S⟩
theorem YBd.psn (h:YBd y):y.ps.length≤9223372036854775807:=by have:=h.ps;omega
theorem YBd.xsn (h:YBd y):y.xs.length≤9223372036854775807:=by have:=h.xs;omega
theorem YBd.pen (h:YBd y):y.pe.length≤9223372036854775807:=by have:=h.pe;omega
theorem YBd.prn (h:YBd y):y.prs.length≤9223372036854775807:=by have:=h.prs;omega
theorem YBd.usn (h:YBd y):y.us.length≤9223372036854775807:=by have:=h.us;omega
theorem YBd.spn (h:YBd y):y.sps.length≤9223372036854775807:=by have:=h.sps;omega
theorem YBd.rtn (h:YBd y) {k:Nat} (hk:k<y.us.length):(y.us.getD k Unt.zero).rates.length≤9223372036854775807:=by have:=h.rt k hk;omega
theorem YBd.uln (h:YBd y) {k:Nat} (hk:k<y.us.length):(y.us.getD k Unt.zero).uses.length≤9223372036854775807:=by have:=h.ul k hk;omega
end
def untI (u:Unt):Prop:=(1≤u.every∧u.every≤20)∧(-20≤u.seen∧u.seen≤0)∧(0≤u.kind∧u.kind≤3)∧u.uses.length≤20∧(prevD u.uses u.uses.length≤u.old∧u.old≤99980)∧(0≤u.tn∧u.tn≤1000000)∧(0≤u.cl∧u.cl≤(u.rates.length:Int)-1)
instance (u:Unt):Decidable (untI u):=by unfold untI;exact inferInstance
def freeN (ps:List Psg) (us:List Unt) (n i:Nat) (m:Int):Bool:=!allN (fun k=>!(decide (0≤(ps.getD k Psg.zero).mach)&&decide ((ps.getD k Psg.zero).mach=m))) n&&allN (fun k=>!decide ((us.getD k Unt.zero).mach=m)) i
def freeM (ps:List Psg) (us:List Unt) (i:Nat) (m:Int):Bool:=freeN ps us ps.length i m
noncomputable def untU (ps:List Psg) (us:List Unt) (i:Nat) (u:Unt):Bool:=freeM ps us i u.mach&&(decide (untI u)&&decide (wearE u.part u.uses=0))
noncomputable def untB (ps:List Psg) (us:List Unt) (i:Nat):Bool:=untU ps us i (us.getD i Unt.zero)
def sprB (days:Int) (s:Spr):Bool:=decide ((0≤s.day∧s.day≤days-1)∧(0≤s.kind∧s.kind≤3)∧(1≤s.many∧s.many≤8))
def yrI (y:Yr):Prop:=(1≤y.days∧y.days≤20)∧((y.pe.length:Int)=y.pl∧∀ k,k<y.pe.length→0≤y.pe.getD k 0∧y.pe.getD k 0≤1000)∧(0≤y.limit∧y.limit≤60)∧(0≤y.crew∧y.crew≤8)∧y.sps.length≤20∧∀ k,k<y.sps.length→sprB y.days (y.sps.getD k Spr.zero)=true
open Classical in
noncomputable def yearE (y:Yr):Int:=if keptE y.pl y.ps y.xs [] y.prs≠0 then keptE y.pl y.ps y.xs [] y.prs else if ¬ yrI y then 120 else if 6<y.us.length then 2 else if allN (untB y.ps y.us) y.us.length=true then 0 else 121
def befB (a b:Tsk):Bool:=if a.day≠b.day then decide (a.day<b.day) else if a.unit≠b.unit then decide (a.unit<b.unit) else decide (a.kind<b.kind)
def tskB (y:Yr) (l:List Tsk) (i:Nat):Bool:=decide ((0≤(l.getD i Tsk.zero).day∧(l.getD i Tsk.zero).day≤y.days-1)∧(0≤(l.getD i Tsk.zero).unit∧(l.getD i Tsk.zero).unit≤(y.us.length:Int)-1)∧(1≤(l.getD i Tsk.zero).kind∧(l.getD i Tsk.zero).kind≤2))&&(decide (i=0)||befB (l.getD (i-1) Tsk.zero) (l.getD i Tsk.zero))
noncomputable def taskE (y:Yr) (l:List Tsk):Int:=if yearE y≠0 then yearE y else if 60<l.length then 2 else if allN (tskB y l) l.length=true then 0 else 122
structure YOk (y:Yr):Prop where
  kept:keptE y.pl y.ps y.xs [] y.prs=0
  yr:yrI y
  many:y.us.length≤6
  un:∀ k,k<y.us.length→untB y.ps y.us k=true
section
variable {y:Yr} {l:List Tsk} {i k:Nat} {ps:List Psg} {us:List Unt}
theorem mU (h:keptE y.pl y.ps y.xs [] y.prs≠0):yearE y=keptE y.pl y.ps y.xs [] y.prs:=by unfold yearE;rw [if_pos h]
theorem nZ (h:keptE y.pl y.ps y.xs [] y.prs=0) (h1:¬ yrI y):yearE y=120:=by unfold yearE;rw [if_neg (by omega),if_pos h1]
theorem rS (h:keptE y.pl y.ps y.xs [] y.prs=0) (h1:yrI y) (h2:6<y.us.length):yearE y=2:=by unfold yearE;rw [if_neg (by omega),if_neg (fun h=>h h1),if_pos h2]
theorem rT (h:keptE y.pl y.ps y.xs [] y.prs=0) (h1:yrI y) (h2:¬ 6<y.us.length) (hk:k<y.us.length) (h3:untB y.ps y.us k=false):yearE y=121:=by
  unfold yearE;rw [if_neg (by omega),if_neg (fun h=>h h1),if_neg h2,if_neg]
  rw [bI]
  intro h4
  rw [h4 k hk] at h3
  cases h3
theorem yF (h:keptE y.pl y.ps y.xs [] y.prs=0) (h1:yrI y) (h2:¬ 6<y.us.length) (h3:allN (untB y.ps y.us) y.us.length=true):yearE y=0:=by
  unfold yearE;rw [if_neg (by omega),if_neg (fun h=>h h1),if_neg h2,if_pos h3]
theorem mC (h:yearE y=0):YOk y:=by
  unfold yearE at h
  split at h
  · omega
  · split at h
    · cases h
    · split at h
      · cases h
      · split at h
        · rename_i h1 h2 h3 h4
          exact ⟨by omega,Classical.not_not.1 h2,by omega,bI.1 h4⟩
        · cases h
theorem rU (h:yearE y≠0):taskE y l=yearE y:=by unfold taskE;rw [if_pos h]
theorem rV (h:yearE y=0) (h1:60<l.length):taskE y l=2:=by unfold taskE;rw [if_neg (by omega),if_pos h1]
theorem fT (h:yearE y=0) (h1:¬ 60<l.length) (hi:i<l.length) (h2:tskB y l i=false):taskE y l=122:=by
  unfold taskE;rw [if_neg (by omega),if_neg h1,if_neg]
  rw [bI]
  intro h4
  rw [h4 i hi] at h2
  cases h2
theorem yG (h:yearE y=0) (h1:¬ 60<l.length) (h2:allN (tskB y l) l.length=true):taskE y l=0:=by unfold taskE;rw [if_neg (by omega),if_neg h1,if_pos h2]
theorem qE (h:taskE y l=0):yearE y=0∧l.length≤60∧∀ k,k<l.length→tskB y l k=true:=by
  unfold taskE at h
  split at h
  · omega
  · split at h
    · cases h
    · split at h
      · rename_i h1 h2 h3
        exact ⟨by omega,by omega,bI.1 h3⟩
      · cases h
theorem Je (h:tskB y l i=true):(0≤(l.getD i Tsk.zero).day∧(l.getD i Tsk.zero).day≤y.days-1)∧(0≤(l.getD i Tsk.zero).unit∧(l.getD i Tsk.zero).unit≤(y.us.length:Int)-1)∧(1≤(l.getD i Tsk.zero).kind∧(l.getD i Tsk.zero).kind≤2):=by
  unfold tskB at h
  rw [Bool.and_eq_true] at h
  exact of_decide_eq_true h.1
theorem Ep {m:Int}:freeM ps us i m=true↔(∃ k,k<ps.length∧0≤(ps.getD k Psg.zero).mach∧(ps.getD k Psg.zero).mach=m)∧∀ k,k<i→(us.getD k Unt.zero).mach≠m:=by
  unfold freeM freeN
  rw [Bool.and_eq_true,Bool.not_eq_true',←Bool.not_eq_true,bI,bI]
  constructor
  · rintro ⟨h1,h2⟩
    refine ⟨Classical.byContradiction fun h3=>h1 fun k hk=>?_,fun k hk=>?_⟩
    · rw [Bool.not_eq_true',←Bool.not_eq_true,Bool.and_eq_true,decide_eq_true_eq,decide_eq_true_eq]
      exact fun h4=>h3 ⟨k,hk,h4⟩
    · have:=h2 k hk
      rw [Bool.not_eq_true'] at this
      exact of_decide_eq_false this
  · rintro ⟨⟨k,hk,h1⟩,h2⟩
    refine ⟨fun h3=>?_,fun k hk=>by rw [decide_eq_false (h2 k hk)];rfl⟩
    have:=h3 k hk
    rw [decide_eq_true h1.1,decide_eq_true h1.2] at this
    cases this
structure UntOk (ps:List Psg) (us:List Unt) (u:Unt) (i:Nat):Prop where
  free:freeM ps us i u.mach=true
  i:untI u
  wear:wearE u.part u.uses=0
theorem rW {u:Unt}:untU ps us i u=true↔UntOk ps us u i:=by
  unfold untU
  rw [Bool.and_eq_true,Bool.and_eq_true,decide_eq_true_eq,decide_eq_true_eq]
  exact ⟨fun h=>⟨h.1,h.2.1,h.2.2⟩,fun h=>⟨h.free,h.i,h.wear⟩⟩
theorem gI:untB ps us i=true↔UntOk ps us (us.getD i Unt.zero) i:=rW
theorem yH {u:Unt} (h:¬ UntOk ps us u i):untU ps us i u=false:=by rw [←Bool.not_eq_true,rW];exact h
def macP (ps:List Psg) (us:List Unt) (n i:Nat) (h:Int→Option Value):Prop:=∀ m,(h m).getD (.bool false) = .bool (freeN ps us n i m)
theorem Er:macP ps us 0 0 (fun _=>none):=fun m=>rfl
theorem yI {n:Nat} {m:Int}:freeN ps us (n+1) 0 m=(freeN ps us n 0 m||(decide (0≤(ps.getD n Psg.zero).mach)&&decide ((ps.getD n Psg.zero).mach=m))):=by
  unfold freeN
  simp only [allN,Bool.and_true,Bool.not_and,Bool.not_not,Bool.not_or]
theorem Mz {n:Nat} (hd:∀ j,j<n→0≤(ps.getD n Psg.zero).mach→(ps.getD j Psg.zero).mach≠(ps.getD n Psg.zero).mach) (hn:∀ j,j<n→(ps.getD n Psg.zero).mach<0→(ps.getD j Psg.zero).mach=(ps.getD n Psg.zero).mach→(ps.getD j Psg.zero).mach<0) :
    ∀ h,macP ps us n 0 h→macP ps us (n+1) 0 (fun k'=>if k'=(ps.getD n Psg.zero).mach then some (.bool (decide (0≤(ps.getD n Psg.zero).mach))) else h k'):=fun h hh m=>by
  dsimp only
  rw [yI]
  by_cases e:m=(ps.getD n Psg.zero).mach
  · subst e
    rw [if_pos rfl,decide_eq_true (p:=(ps.getD n Psg.zero).mach=(ps.getD n Psg.zero).mach) rfl,Bool.and_true]
    by_cases h0:0≤(ps.getD n Psg.zero).mach
    · rw [decide_eq_true h0,Bool.or_true];rfl
    · rw [decide_eq_false h0,Bool.or_false]
      have:freeN ps us n 0 (ps.getD n Psg.zero).mach=false:=by
        unfold freeN
        rw [Bool.and_eq_false_iff]
        left
        rw [Bool.not_eq_false',bI]
        intro k hk
        rw [Bool.not_eq_true',Bool.and_eq_false_iff,decide_eq_false_iff_not,decide_eq_false_iff_not]
        by_cases e2:(ps.getD k Psg.zero).mach=(ps.getD n Psg.zero).mach
        · left;omega
        · exact .inr e2
      rw [this];rfl
  · rw [if_neg e,decide_eq_false (p:=(ps.getD n Psg.zero).mach=m) (fun h=>e h.symm),Bool.and_false,Bool.or_false]
    exact hh m
theorem Na {i:Nat}:∀ h,macP ps us ps.length i h→macP ps us ps.length (i+1) (fun k'=>if k'=(us.getD i Unt.zero).mach then some (.bool false) else h k'):=fun h hh m=>by
  dsimp only
  have e0:freeN ps us ps.length (i+1) m=(freeN ps us ps.length i m&&!decide ((us.getD i Unt.zero).mach=m)):=by
    unfold freeN
    show (_&&(allN _ i&&_))=_
    rw [Bool.and_assoc]
  rw [e0]
  by_cases e:m=(us.getD i Unt.zero).mach
  · subst e
    rw [if_pos rfl,decide_eq_true rfl,Bool.not_true,Bool.and_false];rfl
  · rw [if_neg e,decide_eq_false (fun h=>e h.symm),Bool.not_false,Bool.and_true]
    exact hh m
theorem yJ (h:¬ UntOk ps us (us.getD i Unt.zero) i):untB ps us i=false:=by rw [←Bool.not_eq_true,gI];exact h
end
def bsum (f:Nat→Bool):Nat→Int
  | 0=>0
  | n+1=>bsum f n+if f n=true then 2^n else 0
theorem oA (n:Nat):(0:Int)<2^n:=Int.pow_pos (by decide)
theorem qG (f:Nat→Bool):∀ n,0≤bsum f n∧bsum f n<2^n:=by
  intro n
  induction n with
  | zero=>exact ⟨Int.le_refl 0,(by decide:(0:Int)<2^0)⟩
  | succ n ih=>
    have h:=oA n
    rw [bsum,Int.pow_succ]
    split <;> omega
theorem Nb {x:Int} {n:Nat} (h0:0≤x) (h1:x<2^n):x/2^n%2=0∧(x+2^n)/2^n%2=1:=by
  have hp:=oA n
  have e1:x/2^n=0:=Int.ediv_eq_zero_of_lt h0 h1
  refine ⟨by rw [e1];rfl,?_⟩
  have e2:(x+2^n)/2^n=x/2^n+1:=by
    have:=Int.add_mul_ediv_right x 1 (show (2:Int)^n≠0 by omega)
    rw [Int.one_mul] at this
    exact this
  rw [e2,e1];rfl
theorem Nc {x:Int} {n d:Nat} (hd:d<n):(x+2^n)/2^d%2=x/2^d%2:=by
  have hp:=oA d
  have e:(2:Int)^n=(2^(n-d-1)*2)*2^d:=by
    rw [←Int.pow_succ,←Int.pow_add]
    congr 1;omega
  rw [e,Int.add_mul_ediv_right _ _ (by omega)]
  omega
theorem lO {f:Nat→Bool}:∀ {n d:Nat},d<n→bsum f n/2^d%2=if f d=true then 1 else 0:=by
  intro n
  induction n with
  | zero=>intro d h;omega
  | succ n ih=>
    intro d hd
    have hb:=qG f n
    rw [bsum]
    by_cases e:d=n
    · subst e
      have h:=Nb hb.1 hb.2
      split
      · exact h.2
      · rw [Int.add_zero];exact h.1
    · split
      · rw [Nc (by omega)];exact ih (by omega)
      · rw [Int.add_zero];exact ih (by omega)
theorem Ci {f:Nat→Bool} {n d:Nat} (h:n≤d):bsum f n/2^d%2=0:=by
  have hb:=qG f n
  have hp:(2:Int)^n≤2^d:=by
    have h1:2^n≤2^d:=Nat.pow_le_pow_right (by decide) h
    exact_mod_cast h1
  rw [Int.ediv_eq_zero_of_lt hb.1 (by omega)];rfl
theorem tY (f:Nat→Bool) {n:Nat} (h:n≤39):0≤bsum f n∧bsum f n<2^40:=by
  have hb:=qG f n
  have hp:(2:Int)^n≤2^39:=by
    have h1:2^n≤2^39:=Nat.pow_le_pow_right (by decide) h
    exact_mod_cast h1
  omega
theorem Al {d:Nat} (h:d≤39):i64ok (1*2^((d:Nat):Int).toNat):=by
  have hp:(2:Int)^d≤2^39:=by
    have h1:2^d≤2^39:=Nat.pow_le_pow_right (by decide) h
    exact_mod_cast h1
  have h0:=oA d
  rw [Int.toNat_natCast]
  unfold i64ok
  omega
theorem Jf {f:Nat→Bool} {n:Nat} (h:f n=true):bsum f n+2^((n:Nat):Int).toNat=bsum f (n+1):=by rw [bsum,if_pos h];rfl
theorem Jg {f:Nat→Bool} {n:Nat} (h:f n=false):bsum f n=bsum f (n+1):=by rw [bsum,if_neg (by rw [h];simp),Int.add_zero]
theorem mV {f g:Nat→Bool}:∀ {n:Nat},(∀ i,i<n→f i=g i)→bsum f n=bsum g n:=by
  intro n
  induction n with
  | zero=>intro _;rfl
  | succ n ih=>intro h;rw [bsum,bsum,ih fun i hi=>h i (by omega),h n (by omega)]
theorem Nd {m k:Nat} (hm:m<2^40) (hk:k<40) (h:m/2^k%2=0):IntKind.i64.wrap ((BitVec.ofInt 64 (m:Int) ||| BitVec.ofInt 64 ((2^k:Nat):Int)).toNat:Int)=((m+2^k:Nat):Int):=by
  have hp:2^k≤2^39:=Nat.pow_le_pow_right (by omega) (by omega)
  have e:((BitVec.ofInt 64 (m:Int) ||| BitVec.ofInt 64 ((2^k:Nat):Int)).toNat)=m+2^k:=by
    rw [BitVec.toNat_or,BitVec.ofInt_natCast,BitVec.ofInt_natCast,BitVec.toNat_ofNat,BitVec.toNat_ofNat,Nat.mod_eq_of_lt (by omega),Nat.mod_eq_of_lt (by omega)]
    exact Qf h
  rw [e]
  exact i64ok.eq ⟨by omega,by omega⟩
section
variable {P:Program} {L:List (Nat×Value)} {w:World} {d:Option Nat} {ty:TypeId} {pos:String} {af:Array Edge} {g:Option (Nat×Bool)}
theorem rX {x y:Operand} {xt yt:TypeId} {m k:Int} (hx:ev L x=some (.int .i64 m)) (hy:ev L y=some (.int .i64 (1*2^k.toNat))) (hm:0≤m∧m<2^40) (hk:0≤k∧k<40) (h:m/2^k.toNat%2=0) :
    Does P L ⟨d,.binOp .or xt x y yt,ty,pos,af,g⟩ w (.int .i64 (m+2^k.toNat)):=fun ρ hρ=>by
  obtain ⟨m,rfl⟩:∃ n:Nat,m=n:=⟨m.toNat,by omega⟩
  have e1:(1:Int)*2^k.toNat=((2^k.toNat:Nat):Int):=by push_cast;omega
  have h1:m/2^k.toNat%2=0:=by
    have h2:((m/2^k.toNat%2:Nat):Int)=0:=by push_cast;exact h
    omega
  have e2:(m:Int)+2^k.toNat=((m+2^k.toNat:Nat):Int):=by push_cast;rfl
  have e:Op.intBits .or .i64 (m:Int) (1*2^k.toNat)=pure (.int .i64 ((m:Int)+2^k.toNat)):=by
    rw [e1,e2]
    exact congrArg (fun z=>(pure (Value.int .i64 z):Sem Value)) (Nd (by have:=hm.2;omega) (by omega) h1)
  rw [Int.one_mul] at e
  simp [execOp,hρ _ _ hx,hρ _ _ hy,eqGuard,binOp,e]
end
structure LSt where
  uses:List Use
  born:Int
  seen:Int
def insp (j:Int):Bool:=decide (j/2^(1:Int).toNat%2=1)
def renw (j:Int):Bool:=decide (j/2^(2:Int).toNat%2=1)
def useAt (u:Unt) (d born:Int):Use:=⟨d-born,u.tn,u.cl,false,0,0⟩
noncomputable def bydB (p:Part) (l:List Use):Bool:=!decide ((dE p l Prod.snd).2=0)||decide (0≤(dE p l Prod.snd).1)
def seenN (s:LSt) (j:Int) (d:Nat):Int:=if insp j=true then (d:Int) else s.seen
def certN (u:Unt) (s:LSt) (j:Int) (d:Nat):Bool:=decide ((d:Int)-seenN s j d≤u.every)
noncomputable def runN (u:Unt) (s:LSt) (j:Int) (d:Nat):Bool:=(decide (j=0)&&certN u s j d)&&!bydB u.part (s.uses++[useAt u d s.born])
noncomputable def stepL (u:Unt) (s:LSt) (j:Int) (d:Nat):LSt:=⟨if renw j=true then [] else if runN u s j d=true then s.uses++[useAt u d s.born] else s.uses,if renw j=true then (d:Int) else s.born,seenN s j d⟩
noncomputable def lifeS (u:Unt) (J:Nat→Int):Nat→LSt
  | 0=>⟨u.uses,-u.old,u.seen⟩
  | d+1=>stepL u (lifeS u J d) (J d) d
noncomputable def certB (u:Unt) (J:Nat→Int) (d:Nat):Bool:=certN u (lifeS u J d) (J d) d
noncomputable def runB' (u:Unt) (J:Nat→Int) (d:Nat):Bool:=runN u (lifeS u J d) (J d) d
section
variable {u:Unt} {J J':Nat→Int} {d n:Nat}
theorem Es:∀ d,(lifeS u J d).uses.length≤u.uses.length+d:=by
  intro d
  induction d with
  | zero=>exact Nat.le_refl _
  | succ d ih=>
    show (stepL u (lifeS u J d) (J d) d).uses.length≤_
    unfold stepL
    dsimp only
    split
    · simp
    · split
      · rw [List.length_append];show _+1≤_;omega
      · omega
theorem Am (ho:0≤u.old∧u.old≤99980):∀ d,-99980≤(lifeS u J d).born∧(lifeS u J d).born≤d:=by
  intro d
  induction d with
  | zero=>exact ⟨by show -99980 ≤ -u.old;omega,by show -u.old≤((0:Nat):Int);omega⟩
  | succ d ih=>
    show -99980≤(stepL u (lifeS u J d) (J d) d).born∧(stepL u (lifeS u J d) (J d) d).born≤((d+1:Nat):Int)
    unfold stepL
    dsimp only
    split <;> omega
theorem yK {s:LSt} {j:Int} (h : -20≤s.seen∧s.seen≤d) : -20≤seenN s j d∧seenN s j d≤d:=by
  unfold seenN
  split <;> omega
theorem An (ho : -20≤u.seen∧u.seen≤0):∀ d:Nat,-20≤(lifeS u J d).seen∧(lifeS u J d).seen≤d:=by
  intro d
  induction d with
  | zero=>exact ⟨ho.1,ho.2⟩
  | succ d ih=>
    have h:=yK (j:=J d) ih
    show -20≤seenN (lifeS u J d) (J d) d∧seenN (lifeS u J d) (J d) d≤((d+1:Nat):Int)
    omega
theorem pI:∀ d,(∀ i,i<d→J i=J' i)→lifeS u J d=lifeS u J' d:=by
  intro d
  induction d with
  | zero=>intro _;rfl
  | succ d ih=>intro h;rw [lifeS,lifeS,ih fun i hi=>h i (by omega),h d (by omega)]
theorem Ao (h:∀ i,i≤d→J i=J' i):runB' u J d=runB' u J' d:=by unfold runB';rw [pI d fun i hi=>h i (by omega),h d (Nat.le_refl d)]
theorem yL (h:∀ i,i≤d→J i=J' i):certB u J d=certB u J' d:=by unfold certB;rw [pI d fun i hi=>h i (by omega),h d (Nat.le_refl d)]
end
theorem Ne {w w0:World} {F0:Nat→Prop} {R:List Mem} {i b ty n:Nat} {f:Nat→Value} (S:St w0 F0 R w) (hi:R[i]?=some (boxM b ty ((List.range n).map f))) (hn:n≤maxLen):St w0 F0 (R.set i (ownM ty 1 (some ⟨b,0,none⟩) n n (fun k _=>f k))) w:=by
  refine S.imp hi (fun h => .inr ⟨b,_,rfl,h,Nat.le_refl _,hn,by simp,fun k j hk hj=>?_⟩) (fun k hk=>by obtain ⟨a,e,h⟩:=hk;cases e;exact h.symm)
  have:j=0:=by omega
  subst this
  simp [hk]
theorem Cj (u:Unt) (J:Nat→Int) (d:Nat) (x:Int) (h:x=seenN (lifeS u J d) (J d) d):((decide (J d=0)&&decide ((d:Int)-x≤u.every))&&!bydB u.part ((lifeS u J d).uses++[⟨(d:Int)-(lifeS u J d).born,u.tn,u.cl,false,0,0⟩]))=runB' u J d:=by subst h;rfl
theorem yM (u:Unt) (J:Nat→Int) (d:Nat) (x:Int) (h:x=seenN (lifeS u J d) (J d) d):decide ((d:Int)-x≤u.every)=certB u J d:=by subst h;rfl
noncomputable def usesN (u:Unt) (J:Nat→Int) (d:Nat):List Use:=if runB' u J d=true then (lifeS u J d).uses++[useAt u d (lifeS u J d).born] else (lifeS u J d).uses
theorem Rv {u:Unt} {J:Nat→Int} {d:Nat} {x:Int} (h:renw (J d)=true) (hx:x=seenN (lifeS u J d) (J d) d):(⟨[],(d:Int),x⟩:LSt)=lifeS u J (d+1):=by
  subst hx
  show _=stepL u (lifeS u J d) (J d) d
  unfold stepL
  simp only [h,if_true]
theorem Rw {u:Unt} {J:Nat→Int} {d:Nat} {x:Int} (h:renw (J d)=false) (hx:x=seenN (lifeS u J d) (J d) d):(⟨usesN u J d,(lifeS u J d).born,x⟩:LSt)=lifeS u J (d+1):=by
  subst hx
  show _=stepL u (lifeS u J d) (J d) d
  unfold stepL usesN
  simp only [h,Bool.false_eq_true,if_false]
  rfl
theorem Ck {u:Unt} {J:Nat→Int} {d:Nat} (h:runB' u J d=true):usesN u J d=(lifeS u J d).uses++[useAt u d (lifeS u J d).born]:=if_pos h
theorem vZ {u:Unt} {J:Nat→Int} {d:Nat} (h:runB' u J d=false):usesN u J d=(lifeS u J d).uses:=if_neg (by rw [h];simp)
def hasT (l:List Tsk) (d u k:Int):Bool:=l.any fun t=>decide (t.day=d∧t.unit=u∧t.kind=k)
def jobV (l:List Tsk) (u d:Int):Int:=(if hasT l d u 1=true then 2 else 0)+(if hasT l d u 2=true then 4 else 0)
theorem Et {l:List Tsk} {u d:Int}:renw (jobV l u d)=hasT l d u 2:=by
  unfold renw jobV
  cases hasT l d u 1 <;> cases hasT l d u 2 <;> decide
theorem Eu {l:List Tsk} {u d:Int}:decide (jobV l u d=0)=(!hasT l d u 1&&!hasT l d u 2):=by
  unfold jobV
  cases hasT l d u 1 <;> cases hasT l d u 2 <;> decide
theorem Nf (l:List Tsk) (u d:Int):0≤jobV l u d∧jobV l u d≤6:=by
  unfold jobV
  cases hasT l d u 1 <;> cases hasT l d u 2 <;> decide
theorem yN (l m:List Tsk) (d u k:Int):hasT (l++m) d u k=(hasT l d u k||hasT m d u k):=by unfold hasT;rw [List.any_append]
def jobF (l:List Tsk) (u:Nat):Nat→Int:=fun d=>jobV l u d
noncomputable def runsY (y:Yr) (l:List Tsk) (i d:Nat):Bool:=runB' (y.us.getD i Unt.zero) (jobF l i) d
noncomputable def outY (y:Yr) (l:List Tsk) (d:Nat):Nat→Int
  | 0=>0
  | i+1=>outY y l d i+if runsY y l i d=true then 0 else 2^(y.us.getD i Unt.zero).mach.toNat
def frzM (B:Nat→Prop) (wz:World):Mem where
  fp:=B
  holds:=fun w=>∀ k,B k→w.heap[k]?=wz.heap[k]?
  stable:=fun _ _ h h' k hk=>(h k hk).trans (h' k hk)
def RdF (w0:World) (F0 B:Nat→Prop) (wz:World) (sz:Nat) (A:Option Addr) (n:Nat) (cell:Nat→Nat→Value):Prop:=
  0<n→∃ b o,A=some ⟨b,o,none⟩∧((b<w0.heap.size∧¬ F0 b∧∀ k j,k<n→j<sz→w0.cell? ⟨b,o+k*sz+j,none⟩=some (cell k j))∨(B b∧b<wz.heap.size∧∀ k j,k<n→j<sz→wz.cell? ⟨b,o+k*sz+j,none⟩=some (cell k j)))
section
variable {w w0 wz:World} {F0 B:Nat→Prop} {R:List Mem} {sz n c i:Nat} {A:Option Addr} {cell:Nat→Nat→Value} {e:TypeId}
theorem RdF.base (h:InS w0 F0 sz A n cell):RdF w0 F0 B wz sz A n cell:=fun hn=>by
  obtain ⟨b,o,e,h1,h2,h3⟩:=h hn
  exact ⟨b,o,e,.inl ⟨h1,h2,h3⟩⟩
theorem RdF.nil:RdF w0 F0 B wz sz A 0 cell:=fun hn=>absurd hn (Nat.lt_irrefl 0)
theorem RdF.now (h:RdF w0 F0 B wz sz A n cell) (S:St w0 F0 R w) (hi:R[i]?=some (frzM B wz)):InS w noF sz A n cell:=fun hn=>by
  obtain ⟨b,o,e,h⟩:=h hn
  rcases h with ⟨h1,h2,h3⟩|⟨h1,h2,h3⟩
  · refine ⟨b,o,e,Nat.lt_of_lt_of_le h1 S.size,fun h=>h,fun k j hk hj=>?_⟩
    rw [←h3 k j hk hj]
    exact World.cell?_of_block (w:=w0) (S.ro b h1 h2)
  · refine ⟨b,o,e,(S.inn _ (List.mem_of_getElem? hi) b h1).1,fun h=>h,fun k j hk hj=>?_⟩
    rw [←h3 k j hk hj]
    exact World.cell?_of_block (w:=wz) (S.holds hi b h1)
theorem RdF.nowR {R':List Mem} (h:RdF w0 F0 B wz sz A n cell) (S:St w0 F0 R w) (hi:R[i]?=some (frzM B wz)) (hR:∀ m ∈ R',∃ j,j≠i∧R[j]?=some m):InS w (fps R') sz A n cell:=fun hn=>by
  obtain ⟨b,o,e,h⟩:=h hn
  rcases h with ⟨h1,h2,h3⟩|⟨h1,h2,h3⟩
  · refine ⟨b,o,e,Nat.lt_of_lt_of_le h1 S.size,fun ⟨m,hm,hmb⟩=>?_,fun k j hk hj=>?_⟩
    · obtain ⟨j,_,hj⟩:=hR m hm
      exact h2 ((S.inn m (List.mem_of_getElem? hj) b hmb).2 h1)
    · rw [←h3 k j hk hj]
      exact World.cell?_of_block (w:=w0) (S.ro b h1 h2)
  · refine ⟨b,o,e,(S.inn _ (List.mem_of_getElem? hi) b h1).1,fun ⟨m,hm,hmb⟩=>?_,fun k j hk hj=>?_⟩
    · obtain ⟨j,hji,hj⟩:=hR m hm
      exact S.disj j i m _ hj hi hji b hmb h1
    · rw [←h3 k j hk hj]
      exact World.cell?_of_block (w:=wz) (S.holds hi b h1)
theorem RdF.adr (h:RdF w0 F0 B wz sz A n cell) (hn:0<n):A=some ⟨(Go.Proofs.YtinghmelkmblmaaGreat.adr A).block,(Go.Proofs.YtinghmelkmblmaaGreat.adr A).off,none⟩:=by
  obtain ⟨b,o,rfl,_⟩:=h hn
  rfl
theorem RdF.rd (h:RdF w0 F0 B wz sz A n cell) (S:St w0 F0 R w) (hi:R[i]?=some (frzM B wz)) {k j:Nat} (hk:k<n) (hj:j<sz):w.cell? (pt A sz k j)=some (cell k j):=(h.now S hi).rd (St.start w) hk hj
theorem RdF.congr {cell':Nat→Nat→Value} (h:RdF w0 F0 B wz sz A n cell) (hc:∀ k j,k<n→j<sz→cell k j=cell' k j):RdF w0 F0 B wz sz A n cell':=fun hn=>by
  obtain ⟨b,o,e,h⟩:=h hn
  rcases h with ⟨h1,h2,h3⟩|⟨h1,h2,h3⟩
  · exact ⟨b,o,e,.inl ⟨h1,h2,fun k j hk hj=>by rw [h3 k j hk hj,hc k j hk hj]⟩⟩
  · exact ⟨b,o,e,.inr ⟨h1,h2,fun k j hk hj=>by rw [h3 k j hk hj,hc k j hk hj]⟩⟩
theorem St.frz0 (S:St w0 F0 R w):St w0 F0 (frzM noF w::R) w:=S.new (Keeps.refl _ _) (fun _ h=>h.elim) (fun _ h=>h.elim)
theorem RdF.grow {B':Nat→Prop} (h:RdF w0 F0 B wz sz A n cell) (S:St w0 F0 R w) (hi:R[i]?=some (frzM B wz)) (hB:∀ k,B k→B' k):RdF w0 F0 B' w sz A n cell:=fun hn=>by
  obtain ⟨b,o,e,h⟩:=h hn
  rcases h with h|⟨h1,h2,h3⟩
  · exact ⟨b,o,e,.inl h⟩
  · refine ⟨b,o,e,.inr ⟨hB b h1,(S.inn _ (List.mem_of_getElem? hi) b h1).1,fun k j hk hj=>?_⟩⟩
    rw [←h3 k j hk hj]
    exact World.cell?_of_block (w:=wz) (S.holds hi b h1)
theorem St.freeze (S:St w0 F0 (ownM e sz A n c cell::R) w) (hi:R[i]?=some (frzM B wz)) :
    ∃ B',St w0 F0 (R.set i (frzM B' w)) w∧RdF w0 F0 B' w sz A n cell∧∀ sz' A' n' cell',RdF w0 F0 B wz sz' A' n' cell'→RdF w0 F0 B' w sz' A' n' cell':=by
  refine ⟨fun k=>B k∨(ownM e sz A n c cell).fp k,S.merge (i:=i) hi (fun _ _=>rfl) (fun k h=>h.symm),fun hn=>?_,fun sz' A' n' cell' h=>h.grow S (i:=i+1) (by simpa using hi) fun _ h => .inl h⟩
  have hown:=S.holds (i:=0) rfl
  rcases hown with ⟨_,h,_⟩|⟨b,cs,rfl,hb,h1,h2,h3,h4⟩
  · omega
  · refine ⟨b,0,rfl,.inr ⟨.inr ⟨_,rfl,rfl⟩,dT hb,fun k j hk hj=>?_⟩⟩
    rw [←h4 k j hk hj,Nat.zero_add]
    exact cell_of_row w b (k*sz+j) cs e (0,0) hb
end
section
variable {P:Program} {ops:Array Oper} {w w0:World} {F0:Nat→Prop} {R:List Mem} {Q:Exit→Act→World→Prop} {rest:List Oper} {N:FN} {L:List (Nat×Value)} {a:Act} {ty:TypeId} {pos:String} {af:Array Edge}
theorem oB {d t e sz by_ n c m c':Nat} {x y:Operand} {zs:List Value} {A B:Option Addr} {cell cell':Nat→Nat→Value} (H:Fr N L a) (hd:Nat.blt d N.n=true) (S:St w0 F0 R w) (ht:SlT P t e) (hs:Sz P e sz) (hz:Zero P e zs) (hby:Bytes P e by_) (hzs:Nat.beq zs.length sz=true) (hpos:Nat.blt 0 sz=true)
    (hx:ev L x=some (.slice A n c)) (hy:ev L y=some (.slice B m c')) (hA:InS w noF sz A n cell) (hn:A=none→n=0∧c=0) (hfull:c<n+m) (hm:0<m) (hB:InS w noF sz B m cell') (hone:∀ k j,k<m→j<sz→(cell' k j).oneCell'=true)
    (hlen:(n+m)*by_≤140737488355328) (hlen2:n+m≤9223372036854775807)
    (k:∀ A' c1 w' a',St w0 F0 (ownM e sz A' (n+m) c1 (capp n cell cell')::R) w'→Fr N ((d,.slice A' (n+m) c1)::L) a'→wpList P ops Q rest a' w') :
    wpList P ops Q (⟨some d,.call ⟨.builtin .append,#[x,y],#[t,t]⟩,ty,pos,af,none⟩::rest) a w:=by
  have hpos':0<sz:=by simpa using hpos
  have hzs':zs.length=sz:=Nat.eq_of_beq_eq_true hzs
  have hflat:∀ (q:Nat) (C:Option Addr) (cl:Nat→Nat→Value),InS w noF sz C q cl→∀ b,C=some b→∀ (j:Nat) u,(flat sz q cl)[j]?=some u→w.cell? (b.add j)=some u:=by
    intro q C cl h b hb j u hu
    have hjl:j<q*sz:=by
      have:=(List.getElem?_eq_some_iff.1 hu).1
      simpa [flat] using this
    have hq0:0<q:=by
      rcases Nat.eq_zero_or_pos q with h0|h0
      · subst h0;omega
      · exact h0
    obtain ⟨b',o,hC,_,_,hc⟩:=h hq0
    rw [hb] at hC
    injection hC with hC
    subst hC
    rw [iI]
    have hk:j/sz<q:=(Nat.div_lt_iff_lt_mul hpos').2 hjl
    have hj:j%sz<sz:=Nat.mod_lt _ hpos'
    have he:j/sz*sz+j%sz=j:=by rw [Nat.mul_comm];exact Nat.div_add_mod j sz
    have h1:=hc _ _ hk hj
    have h2:=iR (cell:=cl) hk hj
    rw [he,hu,Option.some.injEq] at h2
    rw [Nat.add_assoc,he] at h1
    rw [h1,h2]
  unfold Zero at hz
  unfold Sz at hs
  unfold Bytes at hby
  cases hi:P.info? e with
  | none=>rw [hi] at hz;simp at hz
  | some i=>
    rw [hi] at hz hs hby
    simp at hz hs hby
    obtain ⟨z,hz1,hz2⟩:=hz
    have hzsz:z.cells.size=sz:=by rw [←hzs',←hz2];simp
    obtain ⟨bb,bo,hBe,_⟩:=hB hm
    have hone':∀ u ∈ flat sz m cell',u.oneCell'=true:=by
      intro u hu
      simp only [flat,List.mem_map,List.mem_range] at hu
      obtain ⟨q,hq,rfl⟩:=hu
      exact hone _ _ ((Nat.div_lt_iff_lt_mul hpos').2 hq) (Nat.mod_lt _ hpos')
    refine wpList_append_grows (w:=w) rfl x y t rfl e i z sz by_ ht hi hz1 hs hby hzsz hpos' A n c (flat sz n cell) (H.eval hx) hn (by simp [flat]) (hflat n A cell hA) ⟨bb,bo,none⟩ m c' (flat sz m cell') (by rw [H.eval hy,hBe]) (by simp [flat]) (fun j u hu=>hflat m B cell' hB ⟨bb,bo,none⟩ hBe j u hu) hone' hfull (by simp only [maxLen];omega) hlen ?_
    intro v' w' hown hgrow
    have hfl:∀ k j,k<n+m→j<sz→(flat sz n cell++flat sz m cell')[k*sz+j]?=some (capp n cell cell' k j):=by
      intro k j hk hj
      have hl:(flat sz n cell).length=n*sz:=by simp [flat]
      unfold capp
      by_cases hkn:k<n
      · rw [if_pos hkn]
        have hlt:k*sz+j<n*sz:=by
          have:(k+1)*sz≤n*sz:=Nat.mul_le_mul_right _ (by omega)
          rw [Nat.add_mul] at this
          omega
        rw [List.getElem?_append_left (by omega)]
        exact iR hkn hj
      · rw [if_neg hkn]
        have hge:n*sz≤k*sz:=Nat.mul_le_mul_right _ (by omega)
        rw [List.getElem?_append_right (by omega),hl]
        have:k*sz+j-n*sz=(k-n)*sz+j:=by rw [Nat.sub_mul];omega
        rw [this]
        exact iR (by omega) hj
    have hown0:w'.ownsRow 0 e sz v' (n+m) (flat sz n cell++flat sz m cell'):=⟨hown.1,hown.2.imp (fun h=>h) fun ⟨g,cap,cur,h1,h2,h3⟩=>⟨g,cap,cur,h1,Nat.zero_le _,h3⟩⟩
    obtain ⟨A',c1,rfl,h6,h7⟩:=Be (cell:=capp n cell cell') hown0 hfl
    refine k A' c1 w' _ (S.new ((Keeps.of_grown hgrow).mono fun k hk=>by cases hk) h6 ?_) (H.put _ hd)
    rintro q ⟨aa,rfl,rfl⟩
    rcases hown.2 with ⟨h,_⟩|⟨g,cap,cur,h,h1,h2,_⟩
    · cases h
    · injection h with h _ _
      injection h with h
      subst h
      exact ⟨h1,dT h2⟩
end
theorem pJ {P:Program} {L:List (Nat×Value)} {w:World} {d:Option Nat} {ty:TypeId} {pos:String} {af:Array Edge} {g:Option (Nat×Bool)} {t e sz:Nat} {x y z:Operand} {A:Option Addr} {n c hi:Nat} {k1 k2:IntKind} (ht:SlT P t e) (hs:Sz P e sz) (hx:ev L x=some (.slice A n c)) (hy:ev L y=some (.int k1 (hi:Int))) (hz:ev L z=some (.int k2 (hi:Int))) (h:hi≤c) :
    Does P L ⟨d,.slice t x none (some y) (some z),ty,pos,af,g⟩ w (.slice A hi hi):=fun ρ hρ=>by
  have hb:(Instr.sliceBounds true n c none (some (.int k1 (hi:Int))) (some (.int k2 (hi:Int)))).run P w = .ok (0,hi,hi) w:=by
    simp [Instr.sliceBounds,Instr.sliceBound,asIntOf,h]
  have e1:(Instr.sliceAt t (.slice A n c) none (some (.int k1 (hi:Int))) (some (.int k2 (hi:Int)))).run P w = .ok (.slice A hi hi) w:=by
    unfold Instr.sliceAt
    simp only [Sem.run_bind,bT ht,Result.andThen_ok,Instr.slice,hb,hs.run,Sem.run_pure]
    have e0:(if hi=0 then A else A.map (·.add (0*sz)))=A:=by
      split
      · rfl
      · cases A with
        | none=>rfl
        | some ad=>simp [Addr.add]
    rw [e0]
    rfl
  simp [execOp,hρ _ _ hx,hρ _ _ hy,hρ _ _ hz,e1]
section
variable {w w0:World} {F0:Nat→Prop} {R:List Mem} {i b:Nat} {κ:Type} [DecidableEq κ] {enc:κ→Value} {Φ Φ':(κ→Option Value)→Prop}
theorem mapK.fix (S:St w0 F0 R w) (hi:R[i]?=some (mapK enc b Φ)):∃ h0,Φ h0∧St w0 F0 (R.set i (mapK enc b (fun h=>h=h0))) w:=by
  obtain ⟨es,ck,l,h1,h2,h3,h4,h5⟩:=S.holds hi
  exact ⟨getL l,h5,S.imp hi (fun _=>⟨es,ck,l,h1,h2,h3,h4,rfl⟩) (fun _ h=>h)⟩
theorem mapK.weak (S:St w0 F0 R w) (hi:R[i]?=some (mapK enc b Φ)) (h:∀ g,Φ g→Φ' g):St w0 F0 (R.set i (mapK enc b Φ')) w:=
  S.imp hi (fun ⟨es,ck,l,h1,h2,h3,h4,h5⟩=>⟨es,ck,l,h1,h2,h3,h4,h _ h5⟩) (fun _ h=>h)
theorem Jh {ty:TypeId} {cs:List Value} (S:St w0 F0 R w) (hi:R[i]?=some (boxM b ty cs)) (hn:cs.length≤maxLen):St w0 F0 (R.set i (ownM ty 1 (some ⟨b,0,none⟩) cs.length cs.length (fun k _=>cs.getD k undef))) w:=by
  refine S.imp hi (fun h => .inr ⟨b,_,rfl,h,Nat.le_refl _,hn,by simp,fun k j hk hj=>?_⟩) (fun k hk=>by obtain ⟨a,e,h⟩:=hk;cases e;exact h.symm)
  have:j=0:=by omega
  subst this
  simp [hk]
theorem Ng {ty:TypeId} {n:Nat} {cell:Nat→Nat→Value} (S:St w0 F0 R w) (hi:R[i]?=some (ownM ty 1 (some ⟨b,0,none⟩) n n cell)):St w0 F0 (R.set i (boxM b ty ((List.range n).map fun k=>cell k 0))) w:=by
  refine S.imp hi (fun h=>?_) (fun k hk=>⟨_,rfl,hk.symm⟩)
  rcases h with ⟨h,_⟩|⟨b',cs,hA,hb,h1,h2,h3,h4⟩
  · cases h
  · injection hA with hA
    injection hA with hA
    subst hA
    show w.heap[b]?=_
    rw [hb]
    have e:cs=((List.range n).map fun k=>cell k 0).toArray:=by
      apply Array.ext
      · simp;omega
      · intro k hk1 hk2
        have hk:k<n:=by simpa using hk2
        have:=h4 k 0 hk (by omega)
        rw [Nat.mul_one,Nat.add_zero,Array.getElem?_eq_getElem hk1,Option.some.injEq] at this
        rw [this];simp
    rw [e]
end
def orJ (j k:Int):Int:=if k=1 then (if j/2%2=1 then j else j+2) else (if j/4%2=1 then j else j+4)
theorem Ji {P:Program} {L:List (Nat×Value)} {w:World} {d:Option Nat} {ty:TypeId} {pos:String} {af:Array Edge} {g:Option (Nat×Bool)} {x y:Operand} {xt yt:TypeId} {j k:Int} (hx:ev L x=some (.int .i64 j)) (hy:ev L y=some (.int .i64 (1*2^k.toNat))) (hj:j=0∨j=2∨j=4∨j=6) (hk:1≤k∧k≤2) :
    Does P L ⟨d,.binOp .or xt x y yt,ty,pos,af,g⟩ w (.int .i64 (orJ j k)):=fun ρ hρ=>by
  have hk':k=1∨k=2:=by omega
  have e:Op.intBits .or .i64 j (1*2^k.toNat)=pure (.int .i64 (orJ j k)):=by
    rcases hk' with rfl|rfl <;> rcases hj with rfl|rfl|rfl|rfl <;> rfl
  simp only [execOp,hρ _ _ hx,hρ _ _ hy]
  rw [Int.one_mul] at e
  simp [eqGuard,binOp,e]
theorem Ev (l:List Tsk) (u d:Int):jobV l u d=0∨jobV l u d=2∨jobV l u d=4∨jobV l u d=6:=by
  unfold jobV
  cases hasT l d u 1 <;> cases hasT l d u 2 <;> decide
theorem Jj (t:Tsk) (d u k:Int):hasT [t] d u k=decide (t.day=d∧t.unit=u∧t.kind=k):=by
  unfold hasT;simp
theorem rY {l:List Tsk} {t:Tsk} {u d:Int} (hk:1≤t.kind∧t.kind≤2):jobV (l++[t]) u d=if t.unit=u∧t.day=d then orJ (jobV l u d) t.kind else jobV l u d:=by
  have h1:=yN l [t] d u 1
  have h2:=yN l [t] d u 2
  rw [Jj] at h1 h2
  by_cases h:t.unit=u∧t.day=d
  · rw [if_pos h]
    have hk':t.kind=1∨t.kind=2:=by omega
    unfold jobV
    rw [h1,h2]
    rcases hk' with e|e
    · rw [e,decide_eq_true (show t.day=d∧t.unit=u∧(1:Int)=1 from ⟨h.2,h.1,rfl⟩),decide_eq_false (show ¬ (t.day=d∧t.unit=u∧(1:Int)=2) from fun h=>by omega)]
      cases hasT l d u 1 <;> cases hasT l d u 2 <;> decide
    · rw [e,decide_eq_false (show ¬ (t.day=d∧t.unit=u∧(2:Int)=1) from fun h=>by omega),decide_eq_true (show t.day=d∧t.unit=u∧(2:Int)=2 from ⟨h.2,h.1,rfl⟩)]
      cases hasT l d u 1 <;> cases hasT l d u 2 <;> decide
  · rw [if_neg h]
    unfold jobV
    rw [h1,h2,decide_eq_false (fun h9=>h ⟨h9.2.1,h9.1⟩),decide_eq_false (fun h9=>h ⟨h9.2.1,h9.1⟩),Bool.or_false,Bool.or_false]
theorem tZ {l:List Tsk} {k:Nat} (hk:k<l.length):l.take (k+1)=l.take k++[l.getD k Tsk.zero]:=by
  rw [List.take_succ_eq_append_getElem hk,List.getD_eq_getElem?_getD,List.getElem?_eq_getElem hk]
  rfl
def kcl (i:Nat) (J:Nat→Int) (k _j:Nat):Value:=if k=0 then .int .i64 i else .int .i64 (J (k-1))
def jobP (l:List Tsk) (n i:Nat):Nat→Int:=fun d=>jobV (l.take n) i d
theorem Jk (l:List Tsk) (i:Nat):jobP l l.length i=jobF l i:=by
  funext d;unfold jobP jobF;rw [List.take_length]
theorem Ew (l:List Tsk) (i:Nat):jobP l 0 i=fun _=>0:=by funext d;rfl
theorem Jl {l:List Tsk} {i k j:Nat} (hk:k<21) (hj:j<1):(([.int .i64 (i:Int),.int .i64 0,.int .i64 0,.int .i64 0,.int .i64 0,.int .i64 0,.int .i64 0,.int .i64 0,.int .i64 0,.int .i64 0,.int .i64 0,.int .i64 0,.int .i64 0,.int .i64 0,.int .i64 0,.int .i64 0,.int .i64 0,.int .i64 0,.int .i64 0,.int .i64 0,.int .i64 0]:List Value).getD k undef)=kcl i (jobP l 0 i) k j:=by
  rw [Ew]
  unfold kcl
  rcases Nat.eq_zero_or_pos k with e|e
  · subst e;rfl
  · rw [if_neg (by omega)]
    obtain ⟨q,rfl⟩:∃ q,k=q+1:=⟨k-1,by omega⟩
    have hq:q<20:=by omega
    show ((List.replicate 20 (Value.int .i64 0)).getD q undef)=_
    rw [List.getD_eq_getElem?_getD,List.getElem?_replicate,if_pos hq]
    rfl
theorem Nh {k:Int} (h:1≤k∧k≤2):i64ok (1*2^k.toNat):=by
  have hk':k=1∨k=2:=by omega
  rcases hk' with rfl|rfl <;> (unfold i64ok;decide)
theorem Ni {l:List Tsk} {n i:Nat} (hn:n<l.length) (hk:1≤(l.getD n Tsk.zero).kind∧(l.getD n Tsk.zero).kind≤2) (h:¬ (l.getD n Tsk.zero).unit=(i:Int)):jobP l (n+1) i=jobP l n i:=by
  funext d
  unfold jobP
  rw [tZ hn,rY hk,if_neg (fun h9=>h h9.1)]
theorem Nj {l:List Tsk} {n i d:Nat} (hn:n<l.length) (hk:1≤(l.getD n Tsk.zero).kind∧(l.getD n Tsk.zero).kind≤2) (h:(l.getD n Tsk.zero).unit=(i:Int)) (hd:(l.getD n Tsk.zero).day=(d:Int)) :
    ∀ k j,j<1→cput (kcl i (jobP l n i)) (d+1) 0 (.int .i64 (orJ (jobP l n i d) (l.getD n Tsk.zero).kind)) k j=kcl i (jobP l (n+1) i) k j:=by
  intro k j hj
  have hj0:j=0:=by omega
  subst hj0
  unfold cput kcl jobP
  rw [tZ hn]
  by_cases e:k=d+1
  · subst e
    rw [if_pos ⟨rfl,rfl⟩,if_neg (by omega),Nat.add_sub_cancel,rY hk,if_pos ⟨h,hd⟩]
  · rw [if_neg (fun h9=>e h9.1)]
    by_cases e0:k=0
    · rw [if_pos e0,if_pos e0]
    · rw [if_neg e0,if_neg e0,rY hk,if_neg (fun h9=>by omega)]
def keyOf (i:Nat) (J:Nat→Int):KeyN 21:=⟨(i:Int)::(List.range 20).map J,by simp⟩
noncomputable def lifeV (u:Unt) (J:Nat→Int) (n:Nat):Value := .agg [.int .i64 (bsum (runB' u J) n),.int .i64 (bsum (certB u J) n)].toArray
theorem yO {u:Unt} {J J':Nat→Int} {n:Nat} (h:∀ d,d<n→J d=J' d):lifeV u J n=lifeV u J' n:=by
  unfold lifeV
  rw [mV (f:=runB' u J) (g:=runB' u J') fun d hd=>Ao fun i hi=>h i (by omega),mV (f:=certB u J) (g:=certB u J') fun d hd=>yL fun i hi=>h i (by omega)]
theorem Ex {i i':Nat} {J J':Nat→Int} (h:keyOf i J=keyOf i' J'):i=i'∧∀ d,d<20→J d=J' d:=by
  have h1:(i:Int)::(List.range 20).map J=(i':Int)::(List.range 20).map J':=congrArg Subtype.val h
  injection h1 with h2 h3
  refine ⟨by omega,fun d hd=>?_⟩
  have h4:=congrArg (fun l=>l[d]?) h3
  simp only [List.getElem?_map,List.getElem?_range hd,Option.map_some,Option.some.injEq] at h4
  exact h4
def livP (y:Yr) (h:KeyN 21→Option Value):Prop:=∀ i J v,i<y.us.length→h (keyOf i J)=some v→v=lifeV (y.us.getD i Unt.zero) J y.days.toNat
theorem Ey {y:Yr}:livP y (fun _=>none):=fun _ _ _ _ h=>by cases h
theorem Jm {y:Yr} {i:Nat} {J:Nat→Int} {v:Value} (hd:y.days.toNat≤20) (hv:v=lifeV (y.us.getD i Unt.zero) J y.days.toNat):∀ h,livP y h→livP y (fun k'=>if k'=keyOf i J then some v else h k'):=fun h hh i' J' v' hi' hv'=>by
  dsimp only at hv'
  split at hv'
  · rename_i e
    obtain ⟨e1,e2⟩:=Ex e
    subst e1
    rw [Option.some.injEq] at hv'
    rw [←hv',hv]
    exact yO fun d hd'=>(e2 d (by omega)).symm
  · exact hh i' J' v' hi' hv'
noncomputable def leavB (y:Yr) (out:Int):Bool:=decide (mfv y.pl.toNat y.limit.toNat y.pe y.xs (hds out y.xs y.ps)=sumI y.pe y.pe.length)
def safP (y:Yr) (h:Int→Option Value):Prop:=∀ o v,(0≤o∧o≤4095)→h o=some v→v = .bool (leavB y o)
theorem Ez {y:Yr}:safP y (fun _=>none):=fun _ _ _ h=>by cases h
noncomputable def prmB (y:Yr) (d out:Int) (k:Nat):Bool:=!(decide ((y.prs.getD k Prm.zero).first≤d)&&decide (d≤(y.prs.getD k Prm.zero).last))||decide (0≤dst y.pl.toNat y.ps out (y.help&&(y.prs.getD k Prm.zero).helped) (y.prs.getD k Prm.zero).to.toNat (y.prs.getD k Prm.zero).fr.toNat)
noncomputable def keepB (y:Yr) (d out:Int):Bool:=allN (prmB y d out) y.prs.length
def kepP (y:Yr) (h:Int×Int→Option Value):Prop:=∀ d o v,(0≤o∧o≤4095)→h (d,o)=some v→v = .bool (keepB y d o)
theorem Fa {y:Yr}:kepP y (fun _=>none):=fun _ _ _ _ h=>by cases h
theorem Jo {f g:Nat→Bool} {n:Nat} (h1:f n=false) (h2:g n=true) (h3:∀ i,i≠n→g i=f i):∀ N,bsum g N=bsum f N+if n<N then 2^n else 0:=by
  intro N
  induction N with
  | zero=>rw [if_neg (by omega)];rfl
  | succ N ih=>
    rw [bsum,bsum,ih]
    by_cases e:N=n
    · subst e
      rw [h1,h2,if_neg (Nat.lt_irrefl N),if_pos (c:=N<N+1) (by omega)]
      simp
    · rw [h3 N e]
      generalize (if f N=true then (2:Int)^N else 0)=z
      by_cases h4:n<N
      · rw [if_pos h4,if_pos (c:=n<N+1) (by omega)];omega
      · rw [if_neg h4,if_neg (c:=n<N+1) (by omega)];omega
noncomputable def outM (y:Yr) (l:List Tsk) (d k m:Nat):Bool:=!allN (fun i=>!(decide ((y.us.getD i Unt.zero).mach=(m:Int))&&!runsY y l i d)) k
section
variable {y:Yr} {l:List Tsk} {d k m:Nat}
theorem pA:outM y l d (k+1) m=(outM y l d k m||(decide ((y.us.getD k Unt.zero).mach=(m:Int))&&!runsY y l k d)):=by
  unfold outM
  simp only [allN,Bool.not_and,Bool.not_not,Bool.not_or]
theorem rZ:outM y l d k m=true↔∃ i,i<k∧(y.us.getD i Unt.zero).mach=(m:Int)∧runsY y l i d=false:=by
  unfold outM
  rw [Bool.not_eq_true',←Bool.not_eq_true,bI]
  constructor
  · intro h
    refine Classical.byContradiction fun h2=>h fun i hi=>?_
    rw [Bool.not_eq_true',←Bool.not_eq_true,Bool.and_eq_true,decide_eq_true_eq,Bool.not_eq_true']
    exact fun h3=>h2 ⟨i,hi,h3⟩
  · rintro ⟨i,hi,h1,h2⟩ h
    have:=h i hi
    rw [h1,h2] at this
    simp at this
theorem gW {ps:List Psg} {us:List Unt} {P:Int} {xs:List Int} (V:StV P ps xs) {u:Unt} {i:Nat} (h:UntOk ps us u i):(0≤u.mach∧u.mach≤11)∧∀ j,j<i→(us.getD j Unt.zero).mach≠u.mach:=by
  obtain ⟨⟨k,hk,h1,h2⟩,h3⟩:=Ep.1 h.free
  have h4:=eE.1 (V.pas k hk)
  exact ⟨by omega,h3⟩
theorem YOk.V (h:YOk y):StV y.pl y.ps y.xs:=nT (vS (xY h.kept).1).1
theorem sA (h:YOk y) (hk:k<y.us.length):outM y l d k (y.us.getD k Unt.zero).mach.toNat=false:=by
  have h1:=gW h.V (gI.1 (h.un k hk))
  rw [←Bool.not_eq_true,rZ]
  rintro ⟨i,hi,h2,_⟩
  have:=h1.2 i hi
  omega
theorem uA (h:YOk y):∀ k,k≤y.us.length→outY y l d k=bsum (outM y l d k) 12:=by
  intro k
  induction k with
  | zero=>
    intro _
    have:∀ N,bsum (outM y l d 0) N=0:=fun N=>by
      induction N with
      | zero=>rfl
      | succ N ih=>rw [bsum,ih];rfl
    rw [this];rfl
  | succ k ih=>
    intro hk
    have h1:=gW h.V (gI.1 (h.un k (by omega)))
    have hf:=sA (l:=l) (d:=d) h (show k<y.us.length by omega)
    rw [outY,ih (by omega)]
    by_cases hr:runsY y l k d=true
    · rw [if_pos hr,Int.add_zero]
      refine mV fun i _=>?_
      rw [pA,hr]
      simp
    · rw [if_neg hr]
      rw [Bool.not_eq_true] at hr
      rw [Jo (g:=outM y l d (k+1)) (n:=(y.us.getD k Unt.zero).mach.toNat) hf (by rw [pA,hr,decide_eq_true (by omega)];simp) (fun i hi=>by rw [pA,decide_eq_false (by omega)];simp),if_pos (by omega)]
theorem wA (h:YOk y) (hk:k≤y.us.length):0≤outY y l d k∧outY y l d k≤4095:=by
  rw [uA h k hk]
  have:=qG (outM y l d k) 12
  have e:(2:Int)^12=4096:=by decide
  omega
theorem sB (h:YOk y) (hk:k≤y.us.length) (hm:m<12):outY y l d k/2^m%2=if outM y l d k m=true then 1 else 0:=by
  rw [uA h k hk];exact lO hm
theorem Ap (h:YOk y) (hk:k<y.us.length):outY y l d k/2^(y.us.getD k Unt.zero).mach.toNat%2=0:=by
  have h1:=gW h.V (gI.1 (h.un k hk))
  rw [sB h (by omega) (by omega),sA h hk];rfl
theorem Jp (hr:runsY y l k d=true):outY y l d (k+1)=outY y l d k:=by rw [outY,if_pos hr,Int.add_zero]
theorem Jr (hr:runsY y l k d=false):outY y l d (k+1)=outY y l d k+2^(y.us.getD k Unt.zero).mach.toNat:=by rw [outY,if_neg (by rw [hr];simp)]
noncomputable def setsQ (y:Yr) (l:List Tsk) (k q:Nat) (d _j:Nat):Value := .int .i64 (if d<q then outY y l d (k+1) else outY y l d k)
noncomputable def setsV (y:Yr) (l:List Tsk) (k:Nat) (d _j:Nat):Value := .int .i64 (outY y l d k)
theorem Aq:setsQ y l k 0=setsV y l k:=by
  funext d j;unfold setsQ setsV;rw [if_neg (by omega)]
theorem Fb {n:Nat}:∀ d j,d<n→j<1→setsQ y l k n d j=setsV y l (k+1) d j:=fun d j hd _=>by
  unfold setsQ setsV;rw [if_pos hd]
theorem Fc {q:Nat} (hr:runsY y l k q=true):setsQ y l k q=setsQ y l k (q+1):=by
  funext d j
  unfold setsQ
  by_cases e:d=q
  · subst e;rw [if_neg (by omega),if_pos (by omega),Jp hr]
  · by_cases h:d<q
    · rw [if_pos h,if_pos (by omega)]
    · rw [if_neg h,if_neg (by omega)]
theorem Fd {q:Nat} {v:Int} (hr:runsY y l k q=false) (hv:v=outY y l q k+2^(y.us.getD k Unt.zero).mach.toNat):∀ d j,j<1→cput (setsQ y l k q) q 0 (.int .i64 v) d j=setsQ y l k (q+1) d j:=fun d j hj=>by
  subst hv
  have:j=0:=by omega
  subst this
  unfold cput setsQ
  by_cases e:d=q
  · subst e;rw [if_pos ⟨rfl,rfl⟩,if_pos (by omega),Jr hr]
  · rw [if_neg (fun h=>e h.1)]
    by_cases h:d<q
    · rw [if_pos h,if_pos (by omega)]
    · rw [if_neg h,if_neg (by omega)]
theorem Ui {n q:Nat} (hq:q<n) (h:bsum (runB' (y.us.getD k Unt.zero) (jobF l k)) n/2^((q:Nat):Int).toNat%2=0):runsY y l k q=false:=by
  rw [Int.toNat_natCast,lO hq] at h
  rw [←Bool.not_eq_true]
  intro h2
  have h3:runB' (y.us.getD k Unt.zero) (jobF l k) q=true:=h2
  rw [if_pos h3] at h
  cases h
theorem Uj {n q:Nat} (hq:q<n) (h:¬ bsum (runB' (y.us.getD k Unt.zero) (jobF l k)) n/2^((q:Nat):Int).toNat%2=0):runsY y l k q=true:=by
  rw [Int.toNat_natCast,lO hq] at h
  refine Classical.byContradiction fun h2=>h ?_
  rw [if_neg (show ¬ runB' (y.us.getD k Unt.zero) (jobF l k) q=true from h2)]
end
section
variable {y:Yr} {l:List Tsk} {d k n m:Nat}
end
def filtN (f:Nat→Bool):Nat→List Nat
  | 0=>[]
  | n+1=>if f n=true then filtN f n++[n] else filtN f n
noncomputable def askdE (y:Yr) (l:List Tsk) (u:Int):Int:=if taskE y l≠0 then taskE y l else if 0≤u∧u≤(y.us.length:Int)-1 then 0 else 1
noncomputable def runsL (y:Yr) (l:List Tsk) (u:Int):List Nat:=if askdE y l u≠0 then [] else filtN (runsY y l u.toNat) y.days.toNat
section
variable {y:Yr} {l:List Tsk} {u:Int} {f:Nat→Bool} {n:Nat}
theorem uB (h:taskE y l≠0):askdE y l u=taskE y l:=by unfold askdE;rw [if_pos h]
theorem yP (h:taskE y l=0) (h1:¬ (0≤u∧u≤(y.us.length:Int)-1)):askdE y l u=1:=by unfold askdE;rw [if_neg (by omega),if_neg h1]
theorem Cl (h:taskE y l=0) (h1:0≤u∧u≤(y.us.length:Int)-1):askdE y l u=0:=by unfold askdE;rw [if_neg (by omega),if_pos h1]
theorem Fe (h:askdE y l u=0):taskE y l=0∧0≤u∧u≤(y.us.length:Int)-1:=by
  unfold askdE at h
  split at h
  · omega
  · split at h
    · exact ⟨by omega,by omega⟩
    · cases h
theorem uC:∀ n,(filtN f n).length≤n:=by
  intro n
  induction n with
  | zero=>exact Nat.le_refl _
  | succ n ih=>
    rw [filtN]
    split
    · rw [List.length_append];show _+1≤_;omega
    · omega
theorem Rx (h:f n=true):filtN f n++[n]=filtN f (n+1):=by rw [filtN,if_pos h]
theorem Ry (h:f n=false):filtN f n=filtN f (n+1):=by rw [filtN,if_neg (by rw [h];simp)]
theorem Rz {n q:Nat} (hq:q<n) (h:bsum f n/2^((q:Nat):Int).toNat%2=1):f q=true:=by
  rw [Int.toNat_natCast,lO hq] at h
  refine Classical.byContradiction fun h2=>?_
  rw [if_neg h2] at h
  cases h
theorem Sa {n q:Nat} (hq:q<n) (h:¬ bsum f n/2^((q:Nat):Int).toNat%2=1):f q=false:=by
  rw [Int.toNat_natCast,lO hq] at h
  rw [←Bool.not_eq_true]
  intro h2
  rw [if_pos h2] at h
  exact h rfl
end
section
variable {y:Yr} {l:List Tsk} {i d k:Nat} {f:Nat→Bool}
theorem Cm {g:Nat→Bool}:∀ {n q},q<fstB g n→g q=false:=by
  intro n
  induction n with
  | zero=>intro q hq;exact absurd hq (Nat.not_lt_zero q)
  | succ n ih=>
    intro q hq
    rw [fstB] at hq
    split at hq
    · exact ih hq
    · rename_i h1
      have h2:=Ie (f:=g) n
      split at hq
      · exact ih (by omega)
      · rename_i h3
        by_cases e:q=n
        · subst e;simpa using h3
        · exact ih (by omega)
theorem Nk {g:Nat→Bool}:∀ {n},fstB g n<n→g (fstB g n)=true:=by
  intro n
  induction n with
  | zero=>intro h;exact absurd h (Nat.not_lt_zero _)
  | succ n ih=>
    intro h
    rw [fstB] at h ⊢
    split
    · rename_i h1;exact ih h1
    · rename_i h1
      rw [if_neg h1] at h
      split
      · rename_i h2;exact h2
      · rename_i h2;rw [if_neg h2] at h;omega
end
end
section
theorem iB {l:List Use} {m k:Nat} (hk:k<m):(l.take m).getD k Use.zero=l.getD k Use.zero:=by
  rw [List.getD_eq_getElem?_getD,List.getD_eq_getElem?_getD,List.getElem?_take_of_lt hk]
theorem oC {p:Part} {l:List Use} {m:Nat}:∀ k,k≤m→fwd p (l.take m) k=fwd p l k:=by
  intro k
  induction k with
  | zero=>intro _;rfl
  | succ k ih=>
    intro hk
    rw [fwd,fwd,iB (show k<m by omega),ih (by omega)]
theorem uD {l:List Use} {m:Nat}:∀ k,k≤m→sumT (l.take m) k=sumT l k:=by
  intro k
  induction k with
  | zero=>intro _;rfl
  | succ k ih=>
    intro hk
    rw [sumT,sumT,iB (show k<m by omega),ih (by omega)]
theorem mW {l:List Use} {m k:Nat} (hk:k≤m):prevD (l.take m) k=prevD l k:=by
  cases k with
  | zero=>rfl
  | succ k=>show ((l.take m).getD k Use.zero).day=_;rw [iB (by omega)];rfl
theorem yQ {n:Nat} {l:List Use} {m k:Nat} (hk:k≤m) (h:dJ n l k=true):dJ n (l.take m) k=true:=by
  unfold dJ at *
  rw [List.all_eq_true] at *
  intro i hi
  have hi':=List.mem_range.1 hi
  rw [mW (by omega),iB (by omega)]
  exact h i hi
theorem Ff {n:Nat} {l:List Use} {k j:Nat} (hj:j≤k) (h:dJ n l k=true):dJ n l j=true:=by
  unfold dJ at *
  rw [List.all_eq_true] at *
  intro i hi
  have hi':=List.mem_range.1 hi
  exact h i (List.mem_range.2 (by omega))
theorem uE {p:Part} {l:List Use} (h:PartOk p l):bX p l=0:=by
  unfold bX
  rw [if_pos h.hdr,if_pos h.rates,if_pos h.len,if_pos h.uses]
theorem Nl {p:Part} {l:List Use} (h:PartOk p l) {m:Nat} (hm:m≤l.length):PartOk p (l.take m):=by
  have e:(l.take m).length=m:=by rw [List.length_take];omega
  refine ⟨h.hdr,h.rates,?_,?_⟩
  · have:=h.len;omega
  · rw [e];exact yQ (Nat.le_refl _) (Ff hm h.uses)
theorem Js {p:Part} {l:List Use} (h:PartOk p l) {k:Nat} (hk:k<l.length):(cF p (l.getD k Use.zero)).1≤(cF p (l.getD k Use.zero)).2:=by
  have hu:=h.use hk
  unfold useOk at hu
  simp only [decide_eq_true_eq] at hu
  have hr:=h.rate (k:=(l.getD k Use.zero).cls.toNat) (by omega)
  unfold gH at hr
  simp only [decide_eq_true_eq] at hr
  unfold cF
  exact Int.mul_le_mul_of_nonneg_left hr.2.1 (by omega)
theorem uF {p:Part} {l:List Use} (h:PartOk p l) {k:Nat} (hk:k<l.length) (hf:∀ j,k<j→j<l.length→(l.getD j Use.zero).meas=false):bJ p l k=fwd p l (k+1):=by
  have key:∀ d,d<l.length→(∀ j,l.length-1-d<j→j<l.length→(l.getD j Use.zero).meas=false)→bkw p l d=fwd p l (l.length-d):=by
    intro d
    induction d with
    | zero=>intro _ _;rfl
    | succ d ih=>
      intro hd hf
      have h1:=ih (by omega) fun j h1 h2=>hf j (by omega) h2
      have h2:(l.getD (l.length-1-d) Use.zero).meas=false:=hf _ (by omega) (by omega)
      have h3:=Js h (show l.length-1-d<l.length by omega)
      have e1:l.length-d=(l.length-1-d)+1:=by omega
      have e2:l.length-(d+1)=l.length-1-d:=by omega
      rw [bkw,h1,e1,e2,qC h2]
      unfold meetS addS
      refine Prod.ext ?_ ?_
      · dsimp only;omega
      · dsimp only;omega
  unfold bJ
  rw [key (l.length-1-k) (by omega) (fun j h1 h2=>hf j (by omega) h2)]
  congr 1
  omega
theorem Fg {p:Part} {l:List Use} (h:PartOk p l) {m:Nat} (hm:m≤l.length) (hf:∀ j,m≤j→j<l.length→(l.getD j Use.zero).meas=false):∀ d k,k+d+1=m→bJ p (l.take m) k=bJ p l k:=by
  have e:(l.take m).length=m:=by rw [List.length_take];omega
  intro d
  induction d with
  | zero=>
    intro k hk
    rw [uF h (by omega) (fun j h1 h2=>hf j (by omega) h2),uF (Nl h hm) (by omega) (fun j h1 h2=>by omega),oC _ (by omega)]
  | succ d ih=>
    intro k hk
    have h1:=ih (k+1) (by omega)
    rw [dS (l:=l.take m) (by omega),dS (l:=l) (by omega),h1,oC _ (by omega),iB (by omega)]
theorem Fh {p:Part} {l:List Use} {m k:Nat} (hk:k<m) (a:Int):wornB p (l.take m) k a=wornB p l k a:=by
  unfold wornB
  rw [uD _ (by omega),iB hk]
end
section
def NoW (x:Use):Prop:=x.turns=0∧x.cls=0∧x.meas=false∧x.lo=0∧x.hi=0
section
variable {p:Part} {l:List Use}
theorem sC {x:Use} (h2:p.rates=[(0,0)]) (h:NoW x):cF p x=(0,0):=by
  unfold cF
  rw [h.1,h2,Int.zero_mul,Int.zero_mul]
theorem uG (h2:p.rates=[(0,0)]) (hu:∀ k,k<l.length→NoW (l.getD k Use.zero)):∀ k,k≤l.length→fwd p l k=(0,0):=by
  intro k
  induction k with
  | zero=>intro _;rfl
  | succ k ih=>
    intro hk
    have h:=hu k (by omega)
    rw [fwd,ih (by omega),sC h2 h,if_neg (by rw [h.2.2.1];simp)]
    rfl
theorem Fi (h2:p.rates=[(0,0)]) (hu:∀ k,k<l.length→NoW (l.getD k Use.zero)):∀ d,d<l.length→bkw p l d=(0,0):=by
  intro d
  induction d with
  | zero=>intro _;exact uG h2 hu _ (Nat.le_refl _)
  | succ d ih=>
    intro hd
    rw [bkw,ih (by omega),sC h2 (hu _ (by omega)),uG h2 hu _ (by omega)]
    rfl
theorem Fj (hu:∀ k,k<l.length→NoW (l.getD k Use.zero)):∀ k,k≤l.length→sumT l k=0:=by
  intro k
  induction k with
  | zero=>intro _;rfl
  | succ k ih=>intro hk;rw [sumT,ih (by omega),(hu k (by omega)).1];rfl
theorem Fk (h1:eZ p=true) (h2:p.rates=[(0,0)]) (ha:p.age=100000) (hl:l.length≤40) (hu:∀ k,k<l.length→NoW (l.getD k Use.zero)) (hd:∀ k,k<l.length→prevD l k≤(l.getD k Use.zero).day∧(l.getD k Use.zero).day≤100000):bydB p l=false:=by
  have hP:PartOk p l:=⟨h1,by rw [h2];rfl,hl,by
    unfold dJ
    rw [List.all_eq_true]
    intro k hk
    rw [List.mem_range] at hk
    have h:=hu k hk
    have h3:=hd k hk
    unfold useOk
    rw [decide_eq_true_eq,h.1,h.2.1,h.2.2.2.1,h.2.2.2.2,h2]
    refine ⟨⟨h3.1,h3.2,by decide,by decide,by decide,by show (0:Int)≤((1:Nat):Int)-1;decide⟩,by decide,by decide,by decide,fun _=>⟨rfl,rfl⟩⟩⟩
  have hA:IsAt p l l.length:=⟨Nat.le_refl _,fun k hk h=>(by rw [(hu k hk).2.2.1] at h;cases h),fun h=>absurd h (Nat.lt_irrefl _)⟩
  have hb:dE p l Prod.snd=(-1,0):=by
    rw [Pw _ (nX (uE hP) hA)]
    have h4:iE (fun k=>wornB p l k (Prod.snd (bJ p l k))) l.length = -1:=lM fun k hk=>by
      have h5:=h1
      unfold eZ at h5
      rw [decide_eq_true_eq] at h5
      have h6:=hd k hk
      unfold wornB bJ
      rw [Fi h2 hu _ (by omega),Fj hu _ (by omega),ha,Bool.or_eq_false_iff,Bool.or_eq_false_iff,decide_eq_false_iff_not,decide_eq_false_iff_not,decide_eq_false_iff_not]
      refine ⟨⟨by omega,by omega⟩,?_⟩
      show ¬ p.worn*1000000<0
      omega
    rw [h4]
  unfold bydB
  rw [hb]
  decide
end
def calU (m:Int) (A:Option Addr) (c:Nat):Unt:=⟨m,20,0,[(0,0)],A,c,0,0,100000,[],none,0,0,0,0,0⟩
def calUs (ms:List Int) (RA:Nat→Option Addr) (rc:Nat→Nat):List Unt:=(List.range ms.length).map fun k=>calU (ms.getD k 0) (RA k) (rc k)
section
variable {ms:List Int} {RA:Nat→Option Addr} {rc:Nat→Nat} {i k d:Nat} {J:Nat→Int} {m:Int} {A:Option Addr} {c:Nat}
theorem calUs_len:(calUs ms RA rc).length=ms.length:=by unfold calUs;rw [List.length_map,List.length_range]
theorem fU (h:k<ms.length):(calUs ms RA rc).getD k Unt.zero=calU (ms.getD k 0) (RA k) (rc k):=by
  unfold calUs
  rw [List.getD_eq_getElem?_getD,List.getElem?_map,List.getElem?_range h];rfl
theorem Jt (hJ:∀ q,q<21→renw (J q)=false):∀ d:Nat,d≤20→(lifeS (calU m A c) J d).born=0∧0≤(lifeS (calU m A c) J d).seen∧(lifeS (calU m A c) J d).uses.length≤d∧(∀ k,k<(lifeS (calU m A c) J d).uses.length→NoW ((lifeS (calU m A c) J d).uses.getD k Use.zero)∧prevD (lifeS (calU m A c) J d).uses k≤((lifeS (calU m A c) J d).uses.getD k Use.zero).day∧((lifeS (calU m A c) J d).uses.getD k Use.zero).day<d):=by
  intro d
  induction d with
  | zero=>intro _;exact ⟨rfl,Int.le_refl 0,Nat.zero_le _,fun k hk=>absurd hk (Nat.not_lt_zero k)⟩
  | succ d ih =>
    intro hd
    obtain ⟨h1,h2,h3,h4⟩:=ih (by omega)
    have e:lifeS (calU m A c) J (d+1)=stepL (calU m A c) (lifeS (calU m A c) J d) (J d) d:=rfl
    rw [e]
    unfold stepL
    rw [hJ d (by omega),if_neg (c:=false=true) (by simp),if_neg (c:=false=true) (by simp)]
    refine ⟨h1,?_,?_,?_⟩
    · show 0≤seenN _ _ _
      unfold seenN
      split <;> omega
    · dsimp only
      split
      · rw [List.length_append];show _+1≤_;omega
      · omega
    · dsimp only
      intro k hk
      by_cases hr:runN (calU m A c) (lifeS (calU m A c) J d) (J d) d=true
      · rw [if_pos hr] at hk ⊢
        rw [List.length_append] at hk
        have hk':k<(lifeS (calU m A c) J d).uses.length+1:=hk
        by_cases e2:k<(lifeS (calU m A c) J d).uses.length
        · have eg:((lifeS (calU m A c) J d).uses++[useAt (calU m A c) d (lifeS (calU m A c) J d).born]).getD k Use.zero=(lifeS (calU m A c) J d).uses.getD k Use.zero:=by
            rw [List.getD_eq_getElem?_getD,List.getElem?_append_left e2,←List.getD_eq_getElem?_getD]
          have ep:prevD ((lifeS (calU m A c) J d).uses++[useAt (calU m A c) d (lifeS (calU m A c) J d).born]) k=prevD (lifeS (calU m A c) J d).uses k:=by
            match k,e2 with
            | 0,_=>rfl
            | k+1,e2=>
              show (List.getD _ k Use.zero).day=(List.getD _ k Use.zero).day
              rw [List.getD_eq_getElem?_getD,List.getElem?_append_left (by omega),←List.getD_eq_getElem?_getD]
          rw [eg,ep]
          have:=h4 k e2
          exact ⟨this.1,this.2.1,by have:=this.2.2;omega⟩
        · have e3:k=(lifeS (calU m A c) J d).uses.length:=by omega
          have eg:((lifeS (calU m A c) J d).uses++[useAt (calU m A c) d (lifeS (calU m A c) J d).born]).getD k Use.zero=useAt (calU m A c) d (lifeS (calU m A c) J d).born:=by
            rw [List.getD_eq_getElem?_getD,List.getElem?_append_right (by omega),e3,Nat.sub_self];rfl
          have ed:(useAt (calU m A c) d (lifeS (calU m A c) J d).born).day=(d:Int):=by
            show (d:Int)-_=_
            rw [h1];omega
          rw [eg,ed]
          refine ⟨⟨rfl,rfl,rfl,rfl,rfl⟩,?_,by omega⟩
          match k,e3 with
          | 0,_=>exact Int.natCast_nonneg d
          | k+1,e3=>
            show (List.getD _ k Use.zero).day≤_
            rw [List.getD_eq_getElem?_getD,List.getElem?_append_left (by omega),←List.getD_eq_getElem?_getD]
            have:=(h4 k (by omega)).2.2
            omega
      · rw [if_neg hr] at hk ⊢
        have:=h4 k hk
        exact ⟨this.1,this.2.1,by have:=this.2.2;omega⟩
theorem Ju (hJ:∀ q,q<21→renw (J q)=false) (hd:d<20):runB' (calU m A c) J d=decide (J d=0):=by
  obtain ⟨h1,h2,h3,h4⟩:=Jt (m:=m) (A:=A) (c:=c) hJ d (by omega)
  unfold runB' runN
  have hc:certN (calU m A c) (lifeS (calU m A c) J d) (J d) d=true:=by
    unfold certN seenN
    rw [decide_eq_true_eq]
    show (d:Int)-_≤20
    split <;> omega
  have hb : bydB (calU m A c).part ((lifeS (calU m A c) J d).uses++[useAt (calU m A c) d (lifeS (calU m A c) J d).born])=false:=by
    have hget:∀ k,k<((lifeS (calU m A c) J d).uses++[useAt (calU m A c) d (lifeS (calU m A c) J d).born]).length→k<(lifeS (calU m A c) J d).uses.length∧((lifeS (calU m A c) J d).uses++[useAt (calU m A c) d (lifeS (calU m A c) J d).born]).getD k Use.zero=(lifeS (calU m A c) J d).uses.getD k Use.zero∨k=(lifeS (calU m A c) J d).uses.length∧((lifeS (calU m A c) J d).uses++[useAt (calU m A c) d (lifeS (calU m A c) J d).born]).getD k Use.zero=useAt (calU m A c) d (lifeS (calU m A c) J d).born:=by
      intro k hk
      rw [List.length_append] at hk
      have hk':k<(lifeS (calU m A c) J d).uses.length+1:=hk
      by_cases e:k<(lifeS (calU m A c) J d).uses.length
      · exact .inl ⟨e,by rw [List.getD_eq_getElem?_getD,List.getElem?_append_left e,←List.getD_eq_getElem?_getD]⟩
      · have e3:k=(lifeS (calU m A c) J d).uses.length:=by omega
        exact .inr ⟨e3,by rw [List.getD_eq_getElem?_getD,List.getElem?_append_right (by omega),e3,Nat.sub_self];rfl⟩
    have ed:(useAt (calU m A c) d (lifeS (calU m A c) J d).born).day=(d:Int):=by
      show (d:Int)-_=_
      rw [h1];omega
    refine Fk (by show eZ ⟨[(0,0)],0,0,100000⟩=true;decide) G G (by rw [List.length_append];show _+1≤40;omega) (fun k hk=>?_) (fun k hk=>?_)
    · rcases hget k hk with ⟨h,e⟩|⟨_,e⟩
      · rw [e];exact (h4 k h).1
      · rw [e];exact ⟨rfl,rfl,rfl,rfl,rfl⟩
    · have hpv:k≤(lifeS (calU m A c) J d).uses.length→prevD ((lifeS (calU m A c) J d).uses++[useAt (calU m A c) d (lifeS (calU m A c) J d).born]) k=prevD (lifeS (calU m A c) J d).uses k:=fun hk=>by
        match k,hk with
        | 0,_=>rfl
        | k+1,hk=>
          show (List.getD _ k Use.zero).day=(List.getD _ k Use.zero).day
          rw [List.getD_eq_getElem?_getD,List.getElem?_append_left (by omega),←List.getD_eq_getElem?_getD]
      rcases hget k hk with ⟨h,e⟩|⟨h,e⟩
      · rw [e,hpv (by omega)]
        have:=h4 k h
        exact ⟨this.2.1,by have:=this.2.2;omega⟩
      · rw [e,ed,hpv (by omega)]
        refine ⟨?_,by omega⟩
        match k,h with
        | 0,_=>exact Int.natCast_nonneg d
        | k+1,h=>
          show (List.getD _ k Use.zero).day≤_
          have:=(h4 k (by omega)).2.2
          omega
  rw [hc,hb,Bool.and_true,Bool.not_false,Bool.and_true]
end
def posI (ms:List Int) (m:Int):Int:=if fstB (fun k=>decide (ms.getD k 0=m)) ms.length<ms.length then ((fstB (fun k=>decide (ms.getD k 0=m)) ms.length:Nat):Int) else -1
def calM (js:List Jq):Nat→List Int
  | 0=>[]
  | n+1=>if posI (calM js n) (js.getD n Jq.zero).mach<0 then calM js n++[(js.getD n Jq.zero).mach] else calM js n
section
variable {ms:List Int} {m x:Int} {js:List Jq} {k n q:Nat}
theorem kT:(posI ms m = -1∧∀ k,k<ms.length→ms.getD k 0≠m)∨∃ k,k<ms.length∧posI ms m=(k:Int)∧ms.getD k 0=m:=by
  unfold posI
  by_cases h:fstB (fun k=>decide (ms.getD k 0=m)) ms.length<ms.length
  · rw [if_pos h]
    exact .inr ⟨_,h,rfl,of_decide_eq_true (Nk h)⟩
  · rw [if_neg h]
    refine .inl ⟨rfl,fun k hk e=>?_⟩
    have h2:fstB (fun k=>decide (ms.getD k 0=m)) ms.length=ms.length:=by have:=Ie (f:=fun k=>decide (ms.getD k 0=m)) ms.length;omega
    have h3:=Cm (g:=fun k=>decide (ms.getD k 0=m)) (n:=ms.length) (q:=k) (by omega)
    rw [decide_eq_true e] at h3
    cases h3
theorem Nm : -1≤posI ms m∧posI ms m<ms.length:=by
  rcases kT (ms:=ms) (m:=m) with ⟨h,_⟩|⟨k,h1,h2,_⟩ <;> omega
theorem lP (h:k<ms.length):(ms++[x]).getD k 0=ms.getD k 0:=by rw [List.getD_eq_getElem?_getD,List.getElem?_append_left h,←List.getD_eq_getElem?_getD]
theorem sG:(ms++[x]).getD ms.length 0=x:=by rw [List.getD_eq_getElem?_getD,List.getElem?_append_right (Nat.le_refl _),Nat.sub_self];rfl
theorem uH (h:posI ms x<0):posI (ms++[x]) m=if m=x then (ms.length:Int) else posI ms m:=by
  have hx:∀ k,k<ms.length→ms.getD k 0≠x:=by
    rcases kT (ms:=ms) (m:=x) with ⟨_,h2⟩|⟨k,_,h2,_⟩
    · exact h2
    · omega
  have hlen:(ms++[x]).length=ms.length+1:=by rw [List.length_append];rfl
  by_cases e:m=x
  · rw [if_pos e]
    subst e
    have h2:fstB (fun k=>decide ((ms++[m]).getD k 0=m)) (ms++[m]).length=ms.length:=vN (f:=fun k=>decide ((ms++[m]).getD k 0=m)) (t:=ms.length) (fun q hq=>decide_eq_false (by rw [lP hq];exact hx q hq)) (decide_eq_true (sG (ms:=ms) (x:=m))) (by omega)
    unfold posI
    rw [h2,if_pos (by omega)]
  · rw [if_neg e]
    rcases kT (ms:=ms) (m:=m) with ⟨h1,h2⟩|⟨k,h1,h2,h3⟩
    · rw [h1]
      have h4:fstB (fun k=>decide ((ms++[x]).getD k 0=m)) (ms++[x]).length=(ms++[x]).length:=jZ fun q hq=>decide_eq_false (by
        by_cases hq2:q<ms.length
        · rw [lP hq2];exact h2 q hq2
        · have:q=ms.length:=by omega
          subst this
          rw [sG];exact fun h=>e h.symm)
      unfold posI
      rw [h4,if_neg (by omega)]
    · have hf:fstB (fun k=>decide (ms.getD k 0=m)) ms.length=k:=by
        unfold posI at h2
        by_cases h5:fstB (fun k=>decide (ms.getD k 0=m)) ms.length<ms.length
        · rw [if_pos h5] at h2;omega
        · rw [if_neg h5] at h2;omega
      have h4:fstB (fun k=>decide ((ms++[x]).getD k 0=m)) (ms++[x]).length=k:=vN (fun q hq=>by
        rw [lP (by omega)]
        exact Cm (g:=fun k=>decide (ms.getD k 0=m)) (n:=ms.length) (by omega)) (decide_eq_true (by rw [lP h1];exact h3)) (by omega)
      unfold posI
      rw [h4,if_pos (by omega),hf,if_pos h1]
theorem sH:∀ n,(calM js n).length≤n:=by
  intro n
  induction n with
  | zero=>exact Nat.le_refl _
  | succ n ih=>
    rw [calM]
    split
    · rw [List.length_append];show _+1≤_;omega
    · omega
theorem yR:∀ n,∀ q,q<n→∃ k,k<(calM js n).length∧posI (calM js n) (js.getD q Jq.zero).mach=(k:Int)∧(calM js n).getD k 0=(js.getD q Jq.zero).mach:=by
  intro n
  induction n with
  | zero=>intro q hq;exact absurd hq (Nat.not_lt_zero q)
  | succ n ih=>
    intro q hq
    have hne:0≤posI (calM js (n+1)) (js.getD q Jq.zero).mach:=by
      rw [calM]
      by_cases h:posI (calM js n) (js.getD n Jq.zero).mach<0
      · rw [if_pos h,uH h]
        by_cases e:(js.getD q Jq.zero).mach=(js.getD n Jq.zero).mach
        · rw [if_pos e];omega
        · rw [if_neg e]
          have hqn:q<n:=by
            have:q≠n:=fun h9=>e (by rw [h9])
            omega
          obtain ⟨k,_,h3,_⟩:=ih q hqn
          omega
      · rw [if_neg h]
        by_cases e:q=n
        · subst e;omega
        · obtain ⟨k,_,h3,_⟩:=ih q (by omega)
          omega
    rcases kT (ms:=calM js (n+1)) (m:=(js.getD q Jq.zero).mach) with ⟨h1,_⟩|⟨k,h1,h2,h3⟩
    · omega
    · exact ⟨k,h1,h2,h3⟩
end
section
variable (ms:List Int) (js:List Jq) (st:List Int)
def calB (d u i:Nat):Bool:=decide (posI ms (js.getD i Jq.zero).mach=(u:Int))&&atB js st (d:Int) i
def calI (d u:Nat):Nat→List Tsk
  | 0=>[]
  | i+1=>if calB ms js st d u i=true then calI d u i++[⟨(d:Int),(u:Int),1⟩] else calI d u i
def calV (d:Nat):Nat→List Tsk
  | 0=>[]
  | u+1=>calV d u++calI ms js st d u js.length
def calL:Nat→List Tsk
  | 0=>[]
  | d+1=>calL d++calV ms js st d ms.length
end
section
variable {ms:List Int} {js:List Jq} {st:List Int} {t:Tsk} {d u i n:Nat}
theorem yS:∀ i,(calI ms js st d u i).length≤i:=by
  intro i
  induction i with
  | zero=>exact Nat.le_refl _
  | succ i ih=>
    rw [calI]
    split
    · rw [List.length_append];show _+1≤_;omega
    · omega
theorem yT:∀ u,(calV ms js st d u).length≤u*js.length:=by
  intro u
  induction u with
  | zero=>exact Nat.zero_le _
  | succ u ih=>
    rw [calV,List.length_append,Nat.add_mul]
    have:=yS (ms:=ms) (js:=js) (st:=st) (d:=d) (u:=u) js.length
    omega
theorem Jv:∀ d,(calL ms js st d).length≤d*(ms.length*js.length):=by
  intro d
  induction d with
  | zero=>exact Nat.zero_le _
  | succ d ih=>
    rw [calL,List.length_append,Nat.add_mul]
    have:=yT (ms:=ms) (js:=js) (st:=st) (d:=d) ms.length
    omega
theorem Jw:∀ i,t ∈ calI ms js st d u i↔t=⟨(d:Int),(u:Int),1⟩∧∃ q,q<i∧calB ms js st d u q=true:=by
  intro i
  induction i with
  | zero=>exact ⟨(fun h=>by cases h),fun ⟨_,q,h,_⟩=>absurd h (Nat.not_lt_zero q)⟩
  | succ i ih=>
    rw [calI]
    by_cases h:calB ms js st d u i=true
    · rw [if_pos h,List.mem_append,ih,List.mem_singleton]
      constructor
      · rintro (⟨h1,q,h2,h3⟩|h1)
        · exact ⟨h1,q,by omega,h3⟩
        · exact ⟨h1,i,by omega,h⟩
      · rintro ⟨h1,_⟩;exact .inr h1
    · rw [if_neg h,ih]
      constructor
      · rintro ⟨h1,q,h2,h3⟩;exact ⟨h1,q,by omega,h3⟩
      · rintro ⟨h1,q,h2,h3⟩
        by_cases e:q=i
        · subst e;exact absurd h3 h
        · exact ⟨h1,q,by omega,h3⟩
theorem Jx:∀ u,t ∈ calV ms js st d u↔∃ v,v<u∧t=⟨(d:Int),(v:Int),1⟩∧∃ q,q<js.length∧calB ms js st d v q=true:=by
  intro u
  induction u with
  | zero=>exact ⟨(fun h=>by cases h),fun ⟨q,h,_⟩=>absurd h (Nat.not_lt_zero q)⟩
  | succ u ih=>
    rw [calV,List.mem_append,ih,Jw]
    constructor
    · rintro (⟨v,h1,h2⟩|h1)
      · exact ⟨v,by omega,h2⟩
      · exact ⟨u,by omega,h1⟩
    · rintro ⟨v,h1,h2⟩
      by_cases e:v=u
      · subst e;exact .inr h2
      · exact .inl ⟨v,by omega,h2⟩
theorem sJ:∀ d,t ∈ calL ms js st d↔∃ e,e<d∧∃ v,v<ms.length∧t=⟨(e:Int),(v:Int),1⟩∧∃ q,q<js.length∧calB ms js st e v q=true:=by
  intro d
  induction d with
  | zero=>exact ⟨(fun h=>by cases h),fun ⟨q,h,_⟩=>absurd h (Nat.not_lt_zero q)⟩
  | succ d ih=>
    rw [calL,List.mem_append,ih,Jx]
    constructor
    · rintro (⟨v,h1,h2⟩|h1)
      · exact ⟨v,by omega,h2⟩
      · exact ⟨d,by omega,h1⟩
    · rintro ⟨v,h1,h2⟩
      by_cases e:v=d
      · subst e;exact .inr h2
      · exact .inl ⟨v,by omega,h2⟩
end
section
variable {y:Yr} {js:List Jq} {st nv:List Int} {RA:Nat→Option Addr} {rc:Nat→Nat} {d i m N:Nat} {mm cr un:Int}
theorem yU (hd:d<N) (hi:i<(calM js js.length).length):hasT (calL (calM js js.length) js st N) (d:Int) (i:Int) 1=true↔∃ q,q<js.length∧atB js st (d:Int) q=true∧posI (calM js js.length) (js.getD q Jq.zero).mach=(i:Int):=by
  unfold hasT
  rw [List.any_eq_true]
  constructor
  · rintro ⟨t,ht,h⟩
    obtain ⟨e,he,v,hv,rfl,q,hq,hb⟩:=(sJ N).1 ht
    have h2:=of_decide_eq_true h
    have e1:e=d:=by have:(e:Int)=(d:Int):=h2.1;omega
    have e2:v=i:=by have:(v:Int)=(i:Int):=h2.2.1;omega
    subst e1;subst e2
    unfold calB at hb
    rw [Bool.and_eq_true,decide_eq_true_eq] at hb
    exact ⟨q,hq,hb.2,hb.1⟩
  · rintro ⟨q,hq,h1,h2⟩
    refine ⟨⟨(d:Int),(i:Int),1⟩,(sJ N).2 ⟨d,hd,i,hi,rfl,q,hq,?_⟩,decide_eq_true ⟨rfl,rfl,rfl⟩⟩
    unfold calB
    rw [h1,decide_eq_true h2];rfl
theorem uI {dd uu:Int}:hasT (calL (calM js js.length) js st N) dd uu 2=false:=by
  rw [←Bool.not_eq_true]
  unfold hasT
  rw [List.any_eq_true]
  rintro ⟨t,ht,h⟩
  obtain ⟨e,he,v,hv,rfl,_⟩:=(sJ N).1 ht
  have h2:=(of_decide_eq_true h).2.2
  cases h2
theorem yV (hu:y.us=calUs (calM js js.length) RA rc) (hi:i<(calM js js.length).length) (hd:d<20):runsY y (calL (calM js js.length) js st N) i d=!hasT (calL (calM js js.length) js st N) (d:Int) (i:Int) 1:=by
  unfold runsY
  rw [hu,fU hi,Ju (fun q _=>by show renw (jobV _ _ _)=false;rw [Et];exact uI) hd]
  show decide (jobV _ _ _=0)=_
  rw [Eu,uI]
  simp
theorem Jy (hu:y.us=calUs (calM js js.length) RA rc) (hd:d<N) (hd20:d<20) (hm:∀ q,q<js.length→0≤(js.getD q Jq.zero).mach):outM y (calL (calM js js.length) js st N) d y.us.length m=true↔∃ q,q<js.length∧atB js st (d:Int) q=true∧(js.getD q Jq.zero).mach.toNat=m:=by
  rw [rZ,hu,calUs_len]
  constructor
  · rintro ⟨i,hi,h1,h2⟩
    rw [fU hi] at h1
    rw [yV hu hi hd20,Bool.not_eq_false',yU hd hi] at h2
    obtain ⟨q,hq,ha,hp⟩:=h2
    obtain ⟨k,hk,h3,h4⟩:=yR (js:=js) js.length q hq
    have:k=i:=by omega
    subst this
    refine ⟨q,hq,ha,?_⟩
    have h5:(calM js js.length).getD k 0=(m:Int):=h1
    omega
  · rintro ⟨q,hq,ha,hp⟩
    obtain ⟨k,hk,h3,h4⟩:=yR (js:=js) js.length q hq
    refine ⟨k,hk,?_,?_⟩
    · rw [fU hk]
      show (calM js js.length).getD k 0=_
      have:=hm q hq
      omega
    · rw [yV hu hk hd20,Bool.not_eq_false',yU hd hk]
      exact ⟨q,hq,ha,h3⟩
theorem Jz (V:WkV mm js nv cr un) {dd:Int} {k:Nat}:∀ i,i≤js.length→((nSet js st dd i).toNat.testBit k=true↔∃ q,q<i∧atB js st dd q=true∧(js.getD q Jq.zero).mach.toNat=k):=by
  intro i
  induction i with
  | zero=>
    intro _
    show (0:Nat).testBit k=true↔_
    rw [Nat.zero_testBit]
    exact ⟨(fun h=>by cases h),fun ⟨q,h,_⟩=>absurd h (Nat.not_lt_zero q)⟩
  | succ i ih=>
    intro hi
    have ih:=ih (by omega)
    rw [nSet]
    by_cases h:atB js st dd i=true
    · rw [if_pos h]
      unfold lorW
      have e2:(1:Int)*2^(js.getD i Jq.zero).mach.toNat=((2^(js.getD i Jq.zero).mach.toNat:Nat):Int):=by rw [Int.one_mul];exact (Int.natCast_pow 2 _).symm
      rw [e2,Int.toNat_natCast,Int.toNat_natCast,Nat.testBit_or,Bool.or_eq_true,ih,Nat.testBit_two_pow,decide_eq_true_eq]
      constructor
      · rintro (⟨q,h1,h2⟩|h1)
        · exact ⟨q,by omega,h2⟩
        · exact ⟨i,by omega,h,h1⟩
      · rintro ⟨q,h1,h2,h3⟩
        by_cases e:q=i
        · subst e;exact .inr h3
        · exact .inl ⟨q,by omega,h2,h3⟩
    · rw [if_neg h,ih]
      constructor
      · rintro ⟨q,h1,h2⟩;exact ⟨q,by omega,h2⟩
      · rintro ⟨q,h1,h2,h3⟩
        by_cases e:q=i
        · subst e;exact absurd h2 h
        · exact ⟨q,by omega,h2,h3⟩
theorem Nn (hok:YOk y) (V:WkV mm js nv cr un) (hu:y.us=calUs (calM js js.length) RA rc) (hd:d<N) (hd20:d<20):outY y (calL (calM js js.length) js st N) d y.us.length=nSet js st (d:Int) js.length:=by
  have hb:=wA (l:=calL (calM js js.length) js st N) (d:=d) hok (Nat.le_refl _)
  have hs:=qB (st:=st) (d:=(d:Int)) V js.length (Nat.le_refl _)
  have hm:∀ q,q<js.length→0≤(js.getD q Jq.zero).mach:=fun q hq=>(V.job q hq).1.1
  obtain ⟨a,ha⟩:=Int.eq_ofNat_of_zero_le hb.1
  obtain ⟨b,hb'⟩:=Int.eq_ofNat_of_zero_le hs.1
  have key:a=b:=Nat.eq_of_testBit_eq fun k=>by
    have h1:b.testBit k=true↔∃ q,q<js.length∧atB js st (d:Int) q=true∧(js.getD q Jq.zero).mach.toNat=k:=by
      have:=Jz (st:=st) (dd:=(d:Int)) (k:=k) V js.length (Nat.le_refl _)
      rw [hb'] at this
      exact this
    have h2:a.testBit k=true↔∃ q,q<js.length∧atB js st (d:Int) q=true∧(js.getD q Jq.zero).mach.toNat=k:=by
      by_cases hk:k<12
      · have h3:=sB (l:=calL (calM js js.length) js st N) (d:=d) hok (Nat.le_refl _) hk
        rw [ha] at h3
        have e3:((a:Nat):Int)/2^k%2=((a/2^k%2:Nat):Int):=by push_cast;rfl
        rw [e3] at h3
        rw [Nat.testBit_eq_decide_div_mod_eq,decide_eq_true_eq,←Jy hu hd hd20 hm]
        by_cases h4:outM y (calL (calM js js.length) js st N) d y.us.length k=true
        · rw [if_pos h4] at h3
          exact ⟨fun _=>h4,fun _=>by omega⟩
        · rw [if_neg h4] at h3
          exact ⟨fun h=>by omega,fun h=>absurd h h4⟩
      · have h3:a<2^k:=by
          have h5:2^12≤2^k:=Nat.pow_le_pow_right (by decide) (by omega)
          omega
        rw [Nat.testBit_lt_two_pow h3]
        refine ⟨(fun h=>by cases h),fun ⟨q,hq,_,hk2⟩=>?_⟩
        have:=(V.job q hq).1
        have:=V.mmb
        omega
    rw [Bool.eq_iff_iff,h1,h2]
  rw [ha,hb',key]
end
def calP (un:Int) (p:Prm):Prm:=⟨p.fr,p.to,0,un-1,p.helped⟩
def calY (un pl:Int) (ps:List Psg) (PA:Option Addr) (pc:Nat) (xs:List Int) (XA:Option Addr) (xc:Nat) (pe:List Int) (BA:Option Addr) (bc:Nat) (lim:Int) (hlp:Bool) (prs:List Prm) (QA:Option Addr) (qc:Nat) (ms:List Int) (RA:Nat→Option Addr) (rc:Nat→Nat) (VA:Option Addr) (vc:Nat) (cr:Int):Yr:=
  { days:=un,pl:=pl,ps:=ps,PA:=PA,pc:=pc,xs:=xs,XA:=XA,xc:=xc,pe:=pe,BA:=BA,bc:=bc,limit:=lim,help:=hlp,prs:=prs.map (calP un),QA:=QA,qc:=qc,us:=calUs ms RA rc,VA:=VA,vc:=vc,crew:=cr,sps:=[],SA:=none,sc:=0 }
section
variable {ms:List Int} {RA:Nat→Option Addr} {rc:Nat→Nat} {prs:List Prm} {un m:Int} {k c:Nat} {A:Option Addr} {vs:List Value}
theorem Sb (hk:k<prs.length) (h:∀ j,j<5→vs.getD j undef=(calP un (prs.getD k Prm.zero)).cell j):∀ j,j<5→vs.getD j undef=fB (prs.map (calP un)) k j:=fun j hj=>by
  rw [h j hj]
  unfold fB
  have e:(prs.map (calP un)).getD k Prm.zero=calP un (prs.getD k Prm.zero):=by
    rw [List.getD_eq_getElem?_getD,List.getD_eq_getElem?_getD,List.getElem?_map,List.getElem?_eq_getElem hk];rfl
  rw [e]
theorem Np (h:∀ j,j<12→vs.getD j undef=(calU m A c).cell j):∀ k j,k<ms.length+1→j<12→capp ms.length (vcell (calUs ms RA rc)) (fun k' j=>([vs].getD k' []).getD j undef) k j=vcell (calUs (ms++[m]) (upd RA ms.length A) (upd rc ms.length c)) k j:=fun k j hk hj=>by
  have hl:(ms++[m]).length=ms.length+1:=by rw [List.length_append];rfl
  unfold capp vcell
  rw [fU (show k<(ms++[m]).length by omega)]
  by_cases e:k<ms.length
  · rw [if_pos e,fU e,lP e,eA _ _ (by omega),eA _ _ (by omega)]
  · have e2:k=ms.length:=by omega
    subst e2
    rw [if_neg e,Nat.sub_self,sG,cV,cV]
    exact h j hj
theorem Sc (h:posI ms m<0) (h0:0≤m):∀ k j,j<1→cput (fun q _ => .int .i64 (posI ms (q:Int))) m.toNat 0 (.int .i64 (ms.length:Int)) k j = .int .i64 (posI (ms++[m]) (k:Int)):=fun k j hj=>by
  have:j=0:=by omega
  subst this
  unfold cput
  rw [uH h]
  by_cases e:k=m.toNat
  · rw [if_pos ⟨e,rfl⟩,if_pos (by omega)]
  · rw [if_neg (fun h9=>e h9.1),if_neg (by omega)]
end
section
variable {w w0:World} {F0:Nat→Prop} {R:List Mem} {e k c':Nat} {RA:Nat→Option Addr} {rc:Nat→Nat} {A':Option Addr} {cell' cl:Nat→Nat→Value}
theorem Ka (S:St w0 F0 (ownM e 2 A' 1 c' cell'::ragM e 2 (fun q=>q<k) RA (fun _=>1) rc (fun _=>cl)::R) w) (hc:cell'=cl):St w0 F0 (ragM e 2 (fun q=>q<k+1) (upd RA k A') (fun _=>1) (upd rc k c') (fun _=>cl)::R) w:=by
  subst hc
  have S2:=ragM.add (i:=0) S rfl
  refine ragM.recell (i:=0) S2 rfl fun q hq=>⟨rfl,?_,rfl,?_⟩
  · by_cases e:q=k
    · subst e;exact cV _ _ _
    · exact eA _ _ e
  · by_cases e:q=k
    · subst e;exact cV _ _ _
    · exact eA _ _ e
end
section
variable {ms:List Int} {js:List Jq} {st:List Int} {d u i:Nat} {X:List Tsk}
theorem Nq (h:calB ms js st d u i=true):(X++calI ms js st d u i)++[⟨(d:Int),(u:Int),1⟩]=X++calI ms js st d u (i+1):=by rw [calI,if_pos h,List.append_assoc]
theorem Nr (h:calB ms js st d u i=false):X++calI ms js st d u i=X++calI ms js st d u (i+1):=by rw [calI,if_neg (by rw [h];simp)]
theorem Ns:(X++calV ms js st d u)++calI ms js st d u js.length=X++calV ms js st d (u+1):=by rw [calV,List.append_assoc]
theorem Cn (hd:d≤24) (hu:u≤6) (hi:i≤6) (hm:ms.length≤6) (hj:js.length≤6):((calL ms js st d++calV ms js st d u)++calI ms js st d u i).length≤1000:=by
  have h1:=Jv (ms:=ms) (js:=js) (st:=st) d
  have h2:=yT (ms:=ms) (js:=js) (st:=st) (d:=d) u
  have h3:=yS (ms:=ms) (js:=js) (st:=st) (d:=d) (u:=u) i
  have h4:ms.length*js.length≤6*6:=Nat.mul_le_mul hm hj
  have h5:d*(ms.length*js.length)≤24*(6*6):=Nat.mul_le_mul hd h4
  have h6:u*js.length≤6*6:=Nat.mul_le_mul hu hj
  rw [List.length_append,List.length_append]
  omega
theorem Sd {a:Int} (ha:a=(js.getD i Jq.zero).mach) (h:(posI ms a=(u:Int)∧st.getD i 0≤(d:Int))∧(d:Int)<st.getD i 0+(js.getD i Jq.zero).nights):calB ms js st d u i=true:=by
  subst ha
  unfold calB atB
  rw [decide_eq_true h.1.1,decide_eq_true h.1.2,decide_eq_true h.2];rfl
theorem Se {a:Int} (ha:a=(js.getD i Jq.zero).mach) (h:¬ ((posI ms a=(u:Int)∧st.getD i 0≤(d:Int))∧(d:Int)<st.getD i 0+(js.getD i Jq.zero).nights)):calB ms js st d u i=false:=by
  subst ha
  rw [←Bool.not_eq_true]
  unfold calB atB
  rw [Bool.and_eq_true,Bool.and_eq_true,decide_eq_true_eq,decide_eq_true_eq,decide_eq_true_eq]
  exact fun h9=>h ⟨⟨h9.1,h9.2.1⟩,h9.2.2⟩
theorem fiveI {p:Nat→Prop} (h0:p 0) (h1:p 1) (h2:p 2) (h3:p 3) (h4:p 4):∀ j,j<5→p j:=fun j hj=>by
  match j,hj with
  | 0,_=>exact h0
  | 1,_=>exact h1
  | 2,_=>exact h2
  | 3,_=>exact h3
  | 4,_=>exact h4
theorem Co {p:Nat→Prop} (h0:p 0) (h1:p 1) (h2:p 2) (h3:p 3) (h4:p 4) (h5:p 5) (h6:p 6) (h7:p 7) (h8:p 8) (h9:p 9) (h10:p 10) (h11:p 11):∀ j,j<12→p j:=fun j hj=>by
  match j,hj with
  | 0,_=>exact h0
  | 1,_=>exact h1
  | 2,_=>exact h2
  | 3,_=>exact h3
  | 4,_=>exact h4
  | 5,_=>exact h5
  | 6,_=>exact h6
  | 7,_=>exact h7
  | 8,_=>exact h8
  | 9,_=>exact h9
  | 10,_=>exact h10
  | 11,_=>exact h11
end
section
variable {w w0:World} {F0:Nat→Prop} {R:List Mem} {un pl:Int} {ps:List Psg} {PA:Option Addr} {pc:Nat} {xs:List Int} {XA:Option Addr} {xc:Nat} {pe:List Int} {BA:Option Addr} {bc:Nat} {lim:Int} {hlp:Bool} {prs:List Prm} {QA:Option Addr} {qc:Nat} {ms:List Int} {RA:Nat→Option Addr} {rc:Nat→Nat} {VA:Option Addr} {vc:Nat} {cr:Int} {i j k eP eU eS:Nat}
theorem wB (S:St w0 F0 R w) (hps:InS w0 F0 7 PA ps.length (pcell ps)) (hxs:InS w0 F0 1 XA xs.length (icl xs)) (hpe:InS w0 F0 1 BA pe.length (icl pe))
    (hi:R[i]?=some (ownM eP 5 QA (prs.map (calP un)).length qc (fB (prs.map (calP un))))) (hj:R[j]?=some (ownM eU 12 VA (calUs ms RA rc).length vc (vcell (calUs ms RA rc)))) (hk:R[k]?=some (ragM eS 2 (fun q=>q<(calUs ms RA rc).length) RA (fun _=>1) rc (fun _=>scell [(0,0)]))) :
    YIn w noF (calY un pl ps PA pc xs XA xc pe BA bc lim hlp prs QA qc ms RA rc VA vc cr):=
  ⟨hps.now S,hxs.now S,hpe.now S,ownM.inS S hi,ownM.inS S hj,InS.nil,fun q hq=>by
    have hq':q<ms.length:=by have:q<(calUs ms RA rc).length:=hq;rw [calUs_len] at this;exact this
    have e:((calY un pl ps PA pc xs XA xc pe BA bc lim hlp prs QA qc ms RA rc VA vc cr).us.getD q Unt.zero)=calU (ms.getD q 0) (RA q) (rc q):=fU hq'
    rw [e]
    exact ragM.inS S hk (p:=q) hq,fun q hq=>by
    have hq':q<ms.length:=by have:q<(calUs ms RA rc).length:=hq;rw [calUs_len] at this;exact this
    have e:((calY un pl ps PA pc xs XA xc pe BA bc lim hlp prs QA qc ms RA rc VA vc cr).us.getD q Unt.zero)=calU (ms.getD q 0) (RA q) (rc q):=fU hq'
    rw [e]
    exact InS.nil⟩
theorem Cp (h1:ps.length*56≤140737488351232) (h2:xs.length*8≤140737488351232) (h3:pe.length*8≤140737488351232) (h4:prs.length≤1000) (h5:ms.length≤6):YBd (calY un pl ps PA pc xs XA xc pe BA bc lim hlp prs QA qc ms RA rc VA vc cr):=by
  have hu:∀ q,q<(calUs ms RA rc).length→(calUs ms RA rc).getD q Unt.zero=calU (ms.getD q 0) (RA q) (rc q):=fun q hq=>fU (by rw [calUs_len] at hq;exact hq)
  refine ⟨h1,h2,h3,?_,?_,Nat.zero_le _,fun q hq=>?_,fun q hq=>?_,fun q hq=>?_⟩
  · show (prs.map (calP un)).length*40≤_;rw [List.length_map];omega
  · show (calUs ms RA rc).length*120≤_;rw [calUs_len];omega
  · show ((calUs ms RA rc).getD q Unt.zero).rates.length*16≤_;rw [hu q hq];show 1*16≤_;decide
  · show ((calUs ms RA rc).getD q Unt.zero).uses.length*48≤_;rw [hu q hq];show 0*48≤_;decide
  · show ((calUs ms RA rc).getD q Unt.zero).uses.length≤_;rw [hu q hq];exact Nat.zero_le _
end
end
section
theorem w8one {p:Nat→Prop} (h0:p 0):∀ j,j<1→p j:=by
  intro j hj
  have:j=0:=by omega
  subst this
  exact h0
theorem Kb {sz:Nat} {vs:List Value} (h:∀ j,j<sz→(vs.getD j undef).oneCell'=true):∀ k j,k<1→j<sz→(([vs].getD k []).getD j undef).oneCell'=true:=by
  intro k j hk hj
  have e:k=0:=by omega
  subst e
  exact h j hj
end
section
theorem PushI.same {N:Net} {L:Nat→Int} {x u:Nat} {r r1:RM} {nx nx1:Nat→Nat} {j:Nat} (I:PushI N L x u r nx 0 r1 nx1) (hu:u<N.k) (hj:j<N.n u) (h:¬ (0<r1 u j∧L (N.to u j)=L u+1)) (hr:0<r u j) (hl:L (N.to u j)=L u+1):False:=by
  have:=(I.zero rfl).1 u hu j hj
  exact h ⟨by omega,hl⟩
end
section
theorem Fl.bound {N:Net} {r r':RM} {b x:Nat} {v B:Int} (h:Fl N r r' b x v) (o:Ok N r B) (hbx:b≠x):v≤resid N r (fun v=>decide (v=b)):=by
  have h1:=qW (S:=(fun v=>decide (v=b))) (h.ok o)
  rw [h.cut] at h1
  unfold ind at h1
  have hxb:¬ x=b:=fun e=>hbx e.symm
  simp [hxb] at h1
  omega
end
section
theorem Kc {l:List Int} {x:Int} {k:Nat} (hk:k<l.length) (h:(l.take k).any (fun y=>decide (x=y))=false) (hx:¬ x=l.getD k 0):(l.take (k+1)).any (fun y=>decide (x=y))=false:=by
  rw [List.take_succ_eq_append_getElem hk,List.any_append,h]
  rw [List.getD_eq_getElem?_getD,List.getElem?_eq_getElem hk] at hx
  simpa using hx
theorem Sf {l:List Int} {x:Int} {k:Nat} (hk:k<l.length) (hx:x=l.getD k 0):hasI l x=true:=by
  rw [List.getD_eq_getElem?_getD,List.getElem?_eq_getElem hk] at hx
  unfold hasI
  rw [List.any_eq_true]
  exact ⟨l[k],List.getElem_mem hk,by simpa using hx⟩
end
section
def JG (P T:Nat) (J:List Jn) (n:Nat):Prop:=(∀ j ∈ J,JOk P T j)∧J.length≤n
theorem JG.len {P T n:Nat} {J:List Jn} (h:JG P T J n) (hn:n≤1000000):∀ i,i<(P*(T+1))+2→(joins J i).length≤1000000:=fun i _=>Nat.le_trans (Dw J (fun j hj=>(h.1 j hj).1) i) (Nat.le_trans h.2 hn)
end
section
theorem cK (n lo hi:Int) (w:World) :
    Calls Tryz.prog 104 [.int .i64 n,.int .i64 lo,.int .i64 hi].toArray w (Ret (fun v w'=>v = .bool (decide (lo≤n)&&decide (n≤hi))∧w'=w)):=by
 refine enter Tryz.func104 rfl Tryz.ntmps104 rfl (fun a H=>?_)
 have S:=St.start w
 refine sS H fun K1 k1=>sr 1 rfl<|sE ?_;clear H a;intro a H
 refine k1 _ ?_;clear k1 K1
 replace H:=H.keep [0,1,2] rfl
 refine sS H fun K2 k2=>sr 4 rfl<|sg 3 3 10 13 true G G (fun hg4=>sy hg4<|sr 1 rfl<|sy hg4<|sr 1 rfl<|sy hg4<|sr 1 rfl<|sz 3 G G G)<|sa G G G<|sr 1 rfl<|sE ?_;clear H a;intro a H
 refine k2 _ ?_;clear k2 K2
 refine wp_ret ?_
 refine ret1 (fn:=Tryz.f104) rfl H rfl ?_
 exact ⟨rfl,rfl⟩
theorem wC (p1 p2 p3 p4 p5 p6 p7 pl:Int) (w:World) (hpl : -1000≤pl∧pl≤1000) :
    Calls Tryz.prog 139 [.agg [.int .i64 p1,.int .i64 p2,.int .i64 p3,.int .i64 p4,.int .i64 p5,.int .i64 p6,.int .i64 p7].toArray,.int .i64 pl].toArray w (Ret (fun v w'=>v = .bool (psgOk pl (⟨p1,p2,p3,p4,p5,p6,p7⟩:Psg))∧St w noF [] w')):=by
 refine enter Tryz.func139 rfl Tryz.ntmps139 rfl (fun a H=>?_)
 have S:=St.start w
 refine seq_list fun K1 k1=>?_
 refine aN H rfl S G G ?_;clear H a S;intro b2 _ a hb2 hbw2 S H
 refine ls 1 H<|sr 1 rfl<|sE ?_;clear H a;intro a H
 refine k1 _ _ ?_;clear k1 K1
 refine wp_seq_k fun K2 k2=>?_
 replace H:=H.keep [1,2] rfl
 refine sS H fun K3 k3=>sf jS rfl<|sl S 0 aE G G G<|sr 1 rfl<|sd (aR G G (by unfold i64ok;omega))<|sc rfl Tryz.func104 G G (cK _ _ _ _)<|sr 2 rfl<|sg 6 6 11 17 false G G (fun hg7=>sy hg7<|sf jT rfl<|sy hg7<|sl S 0 aE G G G<|sy hg7<|sr 1 rfl<|sy hg7<|sd (aR G G (by unfold i64ok;omega))<|sy hg7<|sc rfl Tryz.func104 G G (cK _ _ _ _)<|sy hg7<|sr 1 rfl<|sz 6 G G G)<|so G G G<|sr 1 rfl<|sg 5 14 19 24 false G G (fun hg15=>sy hg15<|sf jS rfl<|sy hg15<|sl S 0 aE G G G<|sy hg15<|sf jT rfl<|sy hg15<|sl S 0 aE G G G<|sy hg15<|sr 1 rfl<|sz 5 G G G)<|so G G G<|sr 1 rfl<|sg 4 21 26 30 false G G (fun hg22=>sy hg22<|sf rA rfl<|sy hg22<|sl S 0 aE G G G<|sy hg22<|sc rfl Tryz.func104 G G (cK _ _ _ _)<|sy hg22<|sr 1 rfl<|sz 4 G G G)<|so G G G<|sr 1 rfl<|sg 4 27 32 36 false G G (fun hg28=>sy hg28<|sf xI rfl<|sy hg28<|sl S 0 aE G G G<|sy hg28<|sc rfl Tryz.func104 G G (cK _ _ _ _)<|sy hg28<|sr 1 rfl<|sz 4 G G G)<|so G G G<|sE ?_;clear H a;intro a H
 refine k3 _ ?_;clear k3 K3
 refine cond_ H rfl (fun hc1=>?_) (fun hc1=>?_)
 ·skip
  try simp only [o1,o2,o3,o4,o5,o6,o7,o8,o9,oa] at hc1
  replace H:=H.keep [] rfl
  refine sS H fun K4 k4=>sr 1 rfl<|sE ?_;clear H a;intro a H
  refine k4 _ ?_;clear k4 K4
  refine wp_ret ?_
  refine ret1 (fn:=Tryz.f139) rfl H rfl ?_
  refine ⟨congrArg Value.bool ?_,(S.sel [] G G)⟩;exact (eY (by first|omega|(dsimp only;omega))).symm
 try simp only [o1,o2,o3,o4,o5,o6,o7,o8,o9,oa] at hc1
 refine wp_skip ?_
 refine k2 _ _ ?_
 refine wp_seq_k fun K5 k5=>?_
 refine sS H fun K6 k6=>sf gB rfl<|sl S 0 aE G G G<|sE ?_;clear H a;intro a H
 refine k6 _ ?_;clear k6 K6
 refine wp_block ?_
 have SR:=(S.sel [0] G G)
 refine meet_sr (X:=Bool) [2,39] H rfl (fun q=>[(40,.bool q)]) (fun q=>[]) (fun q=>q=decide (p3=1∨p3=2∨p3=5)) SR (fun K8 k8=>?_) ?_
 ·skip
  refine sS H fun K9 k9=>sr 2 rfl<|sE ?_;clear H a;intro a H
  refine k9 _ ?_;clear k9 K9
  refine condE H rfl (fun hc2=>?_) (fun hc2=>?_)
  ·skip
   refine wp_skip ?_
   exact k8 _ a _ (decide_eq_decide.2 (by omega)) (S.sel [0] G G) (H.keep [40,2,39] rfl)
  refine sS H fun K10 k10=>sr 2 rfl<|sE ?_;clear H a;intro a H
  refine k10 _ ?_;clear k10 K10
  refine condE H rfl (fun hc3=>?_) (fun hc3=>?_)
  ·skip
   refine wp_skip ?_
   exact k8 _ a _ (decide_eq_decide.2 (by omega)) (S.sel [0] G G) (H.keep [40,2,39] rfl)
  refine sO H<|sr 2 rfl<|sE ?_;clear H a;intro a H
  exact k8 _ a _ (decide_eq_decide.2 (by omega)) (S.sel [0] G G) (H.keep [40,2,39] rfl)
 clear SR H S a
 intro xm a wm hp S H
 obtain ⟨q,rfl⟩:∃ y,y=xm:=⟨_,rfl⟩
 subst hp
 refine cond_ H rfl (fun hc4=>?_) (fun hc4=>?_)
 ·skip
  simp only [o7,o8] at hc4
  replace H:=H.keep [2] rfl
  refine sS H fun K12 k12=>sf dH rfl<|sl S 0 aE G G G<|sr 2 rfl<|sg 3 3 47 50 true G G (fun hg4=>sy hg4<|sf iY rfl<|sy hg4<|sl S 0 aE G G G<|sy hg4<|sr 1 rfl<|sz 3 G G G)<|sa G G G<|sr 1 rfl<|sE ?_;clear H a;intro a H
  refine k12 _ ?_;clear k12 K12
  refine wp_ret ?_
  refine ret1 (fn:=Tryz.f139) rfl H rfl ?_
  refine ⟨congrArg Value.bool ?_,(S.sel [] G G)⟩;unfold psgOk;rw [←Bool.decide_and];exact decide_eq_decide.2 (by first|omega|(dsimp only;omega))
 simp only [o7,o8] at hc4
 replace H:=H.keep [2,39] rfl
 refine sS H fun K13 k13=>sr 2 rfl<|sE ?_;clear H a;intro a H
 refine k13 _ ?_;clear k13 K13
 refine condE H rfl (fun hc5=>?_) (fun hc5=>?_)
 ·skip
  replace H:=H.keep [2] rfl
  refine sS H fun K14 k14=>sf dH rfl<|sl S 0 aE G G G<|sc rfl Tryz.func104 G G (cK _ _ _ _)<|sr 1 rfl<|sg 3 3 57 60 true G G (fun hg4=>sy hg4<|sf iY rfl<|sy hg4<|sl S 0 aE G G G<|sy hg4<|sc rfl Tryz.func104 G G (cK _ _ _ _)<|sz 3 G G G)<|sa G G G<|sr 1 rfl<|sE ?_;clear H a;intro a H
  refine k14 _ ?_;clear k14 K14
  refine wp_ret ?_
  refine ret1 (fn:=Tryz.f139) rfl H rfl ?_
  refine ⟨congrArg Value.bool ?_,(S.sel [] G G)⟩;unfold psgOk;simp only [←Bool.decide_and];exact decide_eq_decide.2 (by first|omega|(dsimp only;omega))
 replace H:=H.keep [2,39] rfl
 refine sS H fun K15 k15=>sr 2 rfl<|sE ?_;clear H a;intro a H
 refine k15 _ ?_;clear k15 K15
 refine condE H rfl (fun hc6=>?_) (fun hc6=>?_)
 ·skip
  replace H:=H.keep [2] rfl
  refine sS H fun K16 k16=>sf dH rfl<|sl S 0 aE G G G<|sc rfl Tryz.func104 G G (cK _ _ _ _)<|sr 1 rfl<|sg 3 3 67 70 true G G (fun hg4=>sy hg4<|sf iY rfl<|sy hg4<|sl S 0 aE G G G<|sy hg4<|sr 1 rfl<|sz 3 G G G)<|sa G G G<|sr 1 rfl<|sE ?_;clear H a;intro a H
  refine k16 _ ?_;clear k16 K16
  refine wp_ret ?_
  refine ret1 (fn:=Tryz.f139) rfl H rfl ?_
  refine ⟨congrArg Value.bool ?_,(S.sel [] G G)⟩;unfold psgOk;simp only [←Bool.decide_and];exact decide_eq_decide.2 (by first|omega|(dsimp only;omega))
 refine wp_skip ?_
 refine k5 _ _ ?_
 replace H:=H.keep [] rfl
 refine sS H fun K17 k17=>sr 1 rfl<|sE ?_;clear H a;intro a H
 refine k17 _ ?_;clear k17 K17
 refine wp_ret ?_
 refine ret1 (fn:=Tryz.f139) rfl H rfl ?_
 refine ⟨congrArg Value.bool ?_,(S.sel [] G G)⟩;exact (eY (by first|omega|(dsimp only;omega))).symm
theorem Ar (pl:Int) (ps:List Psg) (PA:Option Addr) (pc:Nat) (xs:List Int) (XA:Option Addr) (xc:Nat) (w:World) (hps:InS w noF 7 PA ps.length (pcell ps)) (hpn:ps.length≤9223372036854775807) (hxs:InS w noF 1 XA xs.length (icl xs)) (hxn:xs.length≤9223372036854775807) :
    Calls Tryz.prog 102 [.agg [.int .i64 pl,.slice PA ps.length pc,.slice XA xs.length xc].toArray].toArray w (Ret (fun v w'=>v = .int .i64 (stE pl ps xs)∧St w noF [] w')):=by
 refine enter Tryz.func102 rfl Tryz.ntmps102 rfl (fun a H=>?_)
 have S:=St.start w
 refine seq_list fun K1 k1=>?_
 refine aN H rfl S G G ?_;clear H a S;intro b1 _ a hb1 hbw1 S H
 refine ls 1 H<|sr 1 rfl<|sE ?_;clear H a;intro a H
 refine k1 _ _ ?_;clear k1 K1
 refine wp_seq_k fun K2 k2=>?_
 replace H:=H.keep [1] rfl
 refine sS H fun K3 k3=>sf eG rfl<|sl S 0 aE G G G<|sc rfl Tryz.func104 G G (cK _ _ _ _)<|sr 2 rfl<|sg 4 4 13 17 false G G (fun hg5=>sy hg5<|sf iJ rfl<|sy hg5<|sl S 0 kI G G G<|sy hg5<|sL kW rfl<|sy hg5<|sr 1 rfl<|sz 4 G G G)<|so G G G<|sE ?_;clear H a;intro a H
 refine k3 _ ?_;clear k3 K3
 refine cond_ H rfl (fun hc1=>?_) (fun hc1=>?_)
 ·skip
  try simp only [o1,o2,o3,o4,o5,o6,o7,o8,o9,oa] at hc1
  replace H:=H.keep [] rfl
  refine sS H fun K4 k4=>sr 1 rfl<|sE ?_;clear H a;intro a H
  refine k4 _ ?_;clear k4 K4
  refine wp_ret ?_
  refine ret1 (fn:=Tryz.f102) rfl H rfl ?_
  exact ⟨congrArg _ (Bu (by omega)).symm,(S.sel [] G G)⟩
 try simp only [o1,o2,o3,o4,o5,o6,o7,o8,o9,oa] at hc1
 refine wp_skip ?_
 refine k2 _ _ ?_
 refine seq_list fun K5 k5=>?_
 refine uU (fun n:Int => .int .i64 n) H rfl S ?_;clear H a S;intro b19 _ a hb19 S H
 refine ls 1 H<|sr 1 rfl<|sE ?_;clear H a;intro a H
 refine k5 _ _ ?_;clear k5 K5
 refine wp_seq_k fun K6 k6=>?_
 refine sS H fun K7 k7=>sf iJ rfl<|sl S 1 kI G G G<|sL kW rfl<|sr 1 rfl<|sE ?_;clear H a;intro a H
 refine k7 _ ?_;clear k7 K7
 refine wp_block ?_
 refine loop_st (X:=Nat×List (Int×Value)) (R0:=_) [1,3,21,22] H rfl (fun ⟨k,l⟩=>[(23,.int .i64 (k:Int))]) (fun ⟨k,l⟩=>[mapM (fun n:Int => .int .i64 n) b19 l]) (fun g ⟨k,l⟩=>k≤ps.length∧g+k=ps.length∧allN (pasOk pl ps) k=true∧CntMap ps k l) (ps.length) (0,[]) ?_ (S.sel [0,1] G G) (H.keep [23,1,3,21,22] rfl) ?_
 · exact ⟨by omega,by omega,rfl,CntMap.nil ps⟩
 clear H S a
 intro g1 x1 a w1 hp S H K8 k8
 obtain ⟨k,l⟩:=x1
 dsimp only at hp S H
 obtain ⟨hkl,hgk,hA,hM⟩:=hp
 refine sS H fun K9 k9=>sr 1 rfl<|sE ?_;clear H a;intro a H
 refine k9 _ ?_;clear k9 K9
 refine wp_seq_k fun K10 k10=>?_
 refine condL H rfl (fun hc2=>?_) (fun hc2=>?_)
 ·skip
  refine wp_skip ?_
  refine k10 _ _ ?_
  refine wp_seq_k fun K11 k11=>?_
  refine wp_block ?_
  refine seq_list fun K12 k12=>?_
  refine ls 2 H<|si kW eR G G (hps.adr (by omega)) (by omega)<|sd ((aV kJ eR rfl S hps (by omega) (by omega)))<|sE ?_;clear H a;intro a H
  refine aI H rfl S rH ?_;clear H a S;intro b5 _ a hb5 hbw5 S H
  refine aD H S (i:=0) G G G G eR G G ?_
  clear H a S;intro _ a S H
  refine k12 _ _ ?_;clear k12 K12
  refine wp_seq_k fun K13 k13=>?_
  replace H:=H.keep [1,3,5,21,22,23] rfl
  refine seq_list fun K14 k14=>?_
  refine ls 3 H<|sd ((aB kJ eR rfl S (i:=0) G G))<|sf eG rfl<|sl S 2 aE G G G<|sE ?_;clear H a;intro a H
  refine aA H G G Tryz.func139 G G (wC _ _ _ _ _ _ _ pl _ (by omega)) ?_;clear H a
  rintro _ _ a ⟨rfl,S2⟩ H
  replace S:=S.call S2;clear S2
  refine ls 1 H<|sr 1 rfl<|sE ?_;clear H a;intro a H
  refine k14 _ _ ?_;clear k14 K14
  refine cond_ H rfl (fun hc3=>?_) (fun hc3=>?_)
  ·skip
   try simp only [o1,o2,o3,o4,o5,o6,o7,o8,o9,oa] at hc3
   refine sS H fun K15 k15=>sr 1 rfl<|sE ?_;clear H a;intro a H
   refine k15 _ ?_;clear k15 K15
   refine wp_ret ?_
   refine ret1 (fn:=Tryz.f102) rfl H rfl ?_
   exact ⟨congrArg _ (kQ (k:=k) (by omega) (by unfold pasOk;rw [hc3];rfl)).symm,(S.sel [] G G)⟩
  try simp only [o1,o2,o3,o4,o5,o6,o7,o8,o9,oa] at hc3
  refine wp_skip ?_
  refine k13 _ _ ?_
  have hcn:=Mh (ps:=ps) (m:=bW ps k) k;have hc0:=Bt (ps:=ps) (m:=bW ps k) (k:=k);have hcs:cntM ps (bW ps k) (k+1)=cntM ps (bW ps k) k+1:=by unfold cntM;rw [sm,if_pos rfl]
  replace H:=H.keep [1,3,5,21,22,23] rfl
  refine seq_list fun K16 k16=>?_
  refine ls 5 H<|sr 1 rfl<|sf dH rfl<|sl S 0 aE G G G<|sd ((pH (k:=bW ps k) S (i:=1) rfl Af (iN Tryz.underlying3) Ub G G).to (hM _))<|sd (aK G G (by unfold i64ok;omega))<|sE ?_;clear H a;intro a H
  refine qU (k:=bW ps k) H S (i:=1) rfl Af (iN Tryz.underlying3) G G G ?_;clear H a S;intro _ a S H
  refine k16 _ _ ?_;clear k16 K16
  replace H:=H.keep [1,3,5,21,22,23] rfl
  refine seq_list fun K17 k17=>?_
  refine ls 4 H<|sf dH rfl<|sl S 0 aE G G G<|sr 2 rfl<|sE ?_;clear H a;intro a H
  apply cI (i:=3) (g:=40) (t:=45) (b:=true) 5 H S G G (by kernel_rfl) (by kernel_rfl) G G
  case h1=>
   intro hg4
   refine ls 5 H<|sy hg4<|sr 1 rfl<|sy hg4<|sf dH rfl<|sy hg4<|sl S 0 aE G G G<|sy hg4<|sd ((pH (k:=bW ps k) S (i:=1) rfl Af (iN Tryz.underlying3) Ub G G).to (hM.step _))<|sy hg4<|sr 1 rfl<|sE ?_;intro a H
   exact wpList_nil ⟨H.strip 5 G G,(S.sel [0,1,2] G G)⟩
  clear H a S;intro a _ H S
  refine ls 1 H<|sa G G G<|sE ?_;clear H a;intro a H
  refine k17 _ _ ?_;clear k17 K17
  refine cond_ H rfl (fun hc4=>?_) (fun hc4=>?_)
  ·skip
   try simp only [o1,o2,o3,o4,o5,o6,o7,o8,o9,oa] at hc4
   replace H:=H.keep [] rfl
   refine sS H fun K18 k18=>sr 1 rfl<|sE ?_;clear H a;intro a H
   refine k18 _ ?_;clear k18 K18
   refine wp_ret ?_
   refine ret1 (fn:=Tryz.f102) rfl H rfl ?_
   exact ⟨congrArg _ (kQ (k:=k) (by omega) (by unfold pasOk;rw [decide_eq_false (by unfold bW at *;omega),Bool.and_false])).symm,(S.sel [] G G)⟩
  try simp only [o1,o2,o3,o4,o5,o6,o7,o8,o9,oa] at hc4
  refine wp_skip ?_
  refine k11 _ _ ?_
  refine sO H<|sd (aK G G (by unfold i64ok;omega))<|sr 1 rfl<|sE ?_;clear H a;intro a H
  exact k8 (g1-1) (k+1,_) a _ (by omega) (⟨by omega,by omega,cC hA (by unfold pasOk;rw [Bool.and_eq_true];refine ⟨hc3,decide_eq_true ?_⟩;unfold bW at *;omega),hM.step⟩) (S.sel [1,2] G G) (H.keep [23,1,3,21,22] rfl)
 refine wp_exit ?_
 refine k6 _ _ ?_
 refine sS H fun K20 k20=>sr 1 rfl<|sE ?_;clear H a;intro a H
 refine k20 _ ?_;clear k20 K20
 refine wp_seq_k fun K21 k21=>?_
 refine sS H fun K22 k22=>sf nK rfl<|sl S 1 bD G G G<|sL aS rfl<|sr 1 rfl<|sE ?_;clear H a;intro a H
 refine k22 _ ?_;clear k22 K22
 refine wp_block ?_
 refine loop_st (X:=Nat) (R0:=_) [1,49,50] H rfl (fun k2=>[(6,.int .i64 (if k2=0 then -1 else xs.getD (k2-1) 0)),(51,.int .i64 (k2:Int))]) (fun k2=>[]) (fun g k2=>k2≤xs.length∧g+k2=xs.length∧allN (exOk pl xs) k2=true) (xs.length) 0 ?_ (S.sel [0,1] G G) (H.keep [6,51,1,49,50] rfl) ?_
 · exact ⟨by omega,by omega,rfl⟩
 clear H S a
 intro g2 x2 a w2 hp S H K23 k23
 obtain ⟨k2,rfl⟩:∃ y,y=x2:=⟨_,rfl⟩
 have hxb:k2≠0→0≤xs.getD (k2-1) 0∧xs.getD (k2-1) 0<pl:=fun h0=>by
   have:=bI.1 hp.2.2 (k2-1) (by omega)
   unfold exOk at this
   simp only [decide_eq_true_eq] at this
   omega
 refine sS H fun K24 k24=>sr 1 rfl<|sE ?_;clear H a;intro a H
 refine k24 _ ?_;clear k24 K24
 refine wp_seq_k fun K25 k25=>?_
 refine condL H rfl (fun hc5=>?_) (fun hc5=>?_)
 ·skip
  refine wp_skip ?_
  refine k25 _ _ ?_
  refine wp_seq_k fun K26 k26=>?_
  refine wp_block ?_
  refine sS H fun K27 k27=>si aS bA G G (hxs.adr (by omega)) (by omega)<|slm aE rfl (hxs.rd S (by omega) (by omega))<|sr 1 rfl<|sE ?_;clear H a;intro a H
  refine k27 _ ?_;clear k27 K27
  refine wp_seq_k fun K28 k28=>?_
  replace H:=H.keep [1,6,8,49,50,51] rfl
  refine sS H fun K29 k29=>sr 2 rfl<|sd (aK G G (by unfold i64ok;omega))<|sf eG rfl<|sl S 1 aE G G G<|sd (aR G G (by unfold i64ok;omega))<|sc rfl Tryz.func104 G G (cK _ _ _ _)<|sr 1 rfl<|sE ?_;clear H a;intro a H
  refine k29 _ ?_;clear k29 K29
  refine cond_ H rfl (fun hc6=>?_) (fun hc6=>?_)
  ·skip
   try simp only [o1,o2,o3,o4,o5,o6,o7,o8,o9,oa] at hc6
   refine sS H fun K30 k30=>sr 1 rfl<|sE ?_;clear H a;intro a H
   refine k30 _ ?_;clear k30 K30
   refine wp_ret ?_
   refine ret1 (fn:=Tryz.f102) rfl H rfl ?_
   exact ⟨congrArg _ (Ps (k:=k2) (by omega) (by unfold exOk;rw [decide_eq_false_iff_not];rcases Nat.eq_zero_or_pos k2 with h0|h0 <;> first|(rw [if_pos h0] at hc6;omega)|(rw [if_neg (Nat.ne_of_gt h0)] at hc6;omega))).symm,(S.sel [] rfl rfl)⟩
  try simp only [o1,o2,o3,o4,o5,o6,o7,o8,o9,oa] at hc6
  refine wp_skip ?_
  refine k28 _ _ ?_
  replace H:=H.keep [1,8,49,50,51] rfl
  refine sO H<|sr 2 rfl<|sE ?_;clear H a;intro a H
  refine k26 _ _ ?_
  refine sO H<|sd (aK G G (by unfold i64ok;omega))<|sr 1 rfl<|sE ?_;clear H a;intro a H
  exact k23 (g2-1) (k2+1) a _ (by omega) (⟨by omega,by omega,cC hp.2.2 (by unfold exOk;rw [decide_eq_true_eq];rcases Nat.eq_zero_or_pos k2 with h0|h0 <;> first|(rw [if_pos h0] at hc6;omega)|(rw [if_neg (Nat.ne_of_gt h0)] at hc6;omega))⟩) (S.sel [0,1] rfl rfl) (H.keep [6,51,1,49,50] rfl)
 refine wp_exit ?_
 refine k21 _ _ ?_
 refine sS H fun K33 k33=>sr 1 rfl<|sE ?_;clear H a;intro a H
 refine k33 _ ?_;clear k33 K33
 refine wp_ret ?_
 refine ret1 (fn:=Tryz.f102) rfl H rfl ?_
 have hk9:k=ps.length:=by omega
 have hk8:k2=xs.length:=by omega
 exact ⟨congrArg _ (Pt (by omega) (hk9 ▸ hA) (hk8 ▸ hp.2.2)).symm,(S.sel [] G G)⟩
theorem As (pl:Int) (ps:List Psg) (PA:Option Addr) (pc:Nat) (xs:List Int) (XA:Option Addr) (xc:Nat) (pe:List Int) (BA:Option Addr) (bc:Nat) (w:World) (hpe:InS w noF 1 BA pe.length (icl pe)) (hpen:pe.length≤9223372036854775807) :
    Calls Tryz.prog 140 [.agg [.int .i64 pl,.slice PA ps.length pc,.slice XA xs.length xc].toArray,.slice BA pe.length bc].toArray w (Ret (fun v w'=>v = .bool (eO pl pe)∧St w noF [] w')):=by
 refine enter Tryz.func140 rfl Tryz.ntmps140 rfl (fun a H=>?_)
 have S:=St.start w
 refine seq_list fun K1 k1=>?_
 refine aN H rfl S G G ?_;clear H a S;intro b2 _ a hb2 hbw2 S H
 refine ls 1 H<|sr 1 rfl<|sE ?_;clear H a;intro a H
 refine k1 _ _ ?_;clear k1 K1
 refine wp_seq_k fun K2 k2=>?_
 refine sS H fun K3 k3=>sr 1 rfl<|sL aS rfl<|sr 1 rfl<|sE ?_;clear H a;intro a H
 refine k3 _ ?_;clear k3 K3
 refine wp_block ?_
 refine loop_st (X:=Nat) (R0:=_) [1,2,7,8] H rfl (fun k=>[(9,.int .i64 (k:Int))]) (fun k=>[]) (fun g k=>k≤pe.length∧g+k=pe.length∧allN (fun k=>decide (0≤pe.getD k 0∧pe.getD k 0≤1000)) k=true) (pe.length) 0 ?_ (S.sel [0] G G) (H.keep [9,1,2,7,8] rfl) ?_
 · exact ⟨by omega,by omega,rfl⟩
 clear H S a
 intro g1 x1 a w1 hp S H K4 k4
 obtain ⟨k,rfl⟩:∃ y,y=x1:=⟨_,rfl⟩
 refine sS H fun K5 k5=>sr 1 rfl<|sE ?_;clear H a;intro a H
 refine k5 _ ?_;clear k5 K5
 refine wp_seq_k fun K6 k6=>?_
 refine condL H rfl (fun hc1=>?_) (fun hc1=>?_)
 ·skip
  refine wp_skip ?_
  refine k6 _ _ ?_
  refine wp_seq_k fun K7 k7=>?_
  refine wp_block ?_
  refine sS H fun K8 k8=>si aS bA G G (hpe.adr (by omega)) (by omega)<|slm aE rfl (hpe.rd S (by omega) (by omega))<|sr 1 rfl<|sE ?_;clear H a;intro a H
  refine k8 _ ?_;clear k8 K8
  refine sS H fun K9 k9=>sr 1 rfl<|sc rfl Tryz.func104 G G (cK _ _ _ _)<|sr 1 rfl<|sE ?_;clear H a;intro a H
  refine k9 _ ?_;clear k9 K9
  refine cond_ H rfl (fun hc2=>?_) (fun hc2=>?_)
  ·skip
   try simp only [o1,o2,o3,o4,o5,o6,o7,o8,o9,oa] at hc2
   refine sS H fun K10 k10=>sr 1 rfl<|sE ?_;clear H a;intro a H
   refine k10 _ ?_;clear k10 K10
   refine wp_ret ?_
   refine ret1 (fn:=Tryz.f140) rfl H rfl ?_
   refine ⟨congrArg Value.bool ?_,(S.sel [] G G)⟩;unfold eO;rw [fP (k:=k) (by omega) (by rw [decide_eq_false_iff_not];omega)];rfl
  try simp only [o1,o2,o3,o4,o5,o6,o7,o8,o9,oa] at hc2
  refine wp_skip ?_
  refine k7 _ _ ?_
  replace H:=H.keep [1,2,7,8,9] rfl
  refine sO H<|sd (aK G G (by unfold i64ok;omega))<|sr 1 rfl<|sE ?_;clear H a;intro a H
  exact k4 (g1-1) (k+1) a _ (by omega) (⟨by omega,by omega,cC hp.2.2 (by rw [decide_eq_true_eq];omega)⟩) (S.sel [0] G G) (H.keep [9,1,2,7,8] rfl)
 refine wp_exit ?_
 refine k2 _ _ ?_
 refine sS H fun K12 k12=>sr 1 rfl<|sL aS rfl<|sf eG rfl<|sl S 0 aE G G G<|sr 2 rfl<|sE ?_;clear H a;intro a H
 refine k12 _ ?_;clear k12 K12
 refine wp_ret ?_
 refine ret1 (fn:=Tryz.f140) rfl H rfl ?_
 refine ⟨congrArg Value.bool ?_,(S.sel [] G G)⟩;unfold eO;rw [show pe.length=k by omega,hp.2.2,Bool.true_and]
end
section
theorem StV.mch {P:Nat} {ps:List Psg} {xs:List Int} (h:StV P ps xs) (k:Nat) (hk:k<ps.length):(ps.getD k Psg.zero).kind=4→0≤(ps.getD k Psg.zero).mach∧(ps.getD k Psg.zero).mach≤11:=fun h4=>by
  have:=eE.1 (h.pas k hk)
  omega
theorem Kd {k:Nat}:∀ q j,j<1→cput (lcl fun i=>if i<k then -1 else 0) k 0 (.int .i64 (-1)) q j=lcl (fun i=>if i<k+1 then -1 else 0) q j:=by
  intro q j hj
  have:j=0:=by omega
  subst this
  unfold cput lcl
  dsimp only
  by_cases e:q=k
  · subst e;rw [if_pos ⟨rfl,rfl⟩,if_pos (by omega)]
  · rw [if_neg (fun h=>e h.1)]
    by_cases h:q<k
    · rw [if_pos h,if_pos (by omega)]
    · rw [if_neg h,if_neg (by omega)]
theorem Ke {P k to:Nat} (hk:k=P):∀ q j,q<P→j<1→cput (lcl fun i=>if i<k then -1 else 0) to 0 (.int .i64 0) q j=lcl (tk0 to) q j:=by
  intro q j hq hj
  have:j=0:=by omega
  subst this
  unfold cput lcl tk0
  dsimp only
  by_cases e:q=to
  · subst e;rw [if_pos ⟨rfl,rfl⟩,if_pos rfl]
  · rw [if_neg (fun h=>e h.1),if_pos (by omega),if_neg e]
theorem Nt {L:Nat→Int} {p:Nat} {v:Int}:∀ k j,j<1→cput (lcl L) p 0 (.int .i64 v) k j=lcl (upd L p v) k j:=by
  intro k j hj
  have:j=0:=by omega
  subst this
  unfold cput lcl upd
  by_cases e:k=p <;> simp [e]
theorem Up {m:Bool} (h:m=true):b2i m=1:=by subst h;rfl
theorem Sg {P f:Nat} {ps:List Psg} {out:Int} {help:Bool} {tk:Nat→Int} {m:Bool} (e:P=f) (h:m=false→∀ i,i<f→∀ k,k<ps.length→FixAt ps out help tk i k):m=false→∀ i,i<P→∀ k,k<ps.length→FixAt ps out help tk i k:=by subst e;exact h
theorem Sh:∀ k j,j<1→[Value.int .i64 0].getD j undef=lcl (fun i=>if i<0 then -1 else 0) k j:=by
  intro k j hj
  have:j=0:=by omega
  subst this
  rfl
theorem At (pl:Int) (ps:List Psg) (PA:Option Addr) (pc:Nat) (xs:List Int) (XA:Option Addr) (xc:Nat) (l:List Int) (LA:Option Addr) (lc:Nat) (w:World) (hl:InS w noF 1 LA l.length (icl l)) (hln:l.length≤9223372036854775807) (hpl : -1000≤pl∧pl≤1000) :
    Calls Tryz.prog 106 [.agg [.int .i64 pl,.slice PA ps.length pc,.slice XA xs.length xc].toArray,.slice LA l.length lc].toArray w (Ret (fun v w'=>v = .bool (plOk pl l)∧St w noF [] w')):=by
 refine enter Tryz.func106 rfl Tryz.ntmps106 rfl (fun a H=>?_)
 have S:=St.start w
 refine seq_list fun K1 k1=>?_
 refine aN H rfl S G G ?_;clear H a S;intro b2 _ a hb2 hbw2 S H
 refine ls 1 H<|sr 1 rfl<|sE ?_;clear H a;intro a H
 refine k1 _ _ ?_;clear k1 K1
 refine wp_seq_k fun K2 k2=>?_
 refine sS H fun K3 k3=>sr 1 rfl<|sL aS rfl<|sr 1 rfl<|sE ?_;clear H a;intro a H
 refine k3 _ ?_;clear k3 K3
 refine wp_block ?_
 refine loop_st (X:=Nat) (R0:=_) [2,7,8] H rfl (fun k=>[(9,.int .i64 (k:Int))]) (fun k=>[]) (fun g k=>k≤l.length∧g+k=l.length∧allN (fun k=>decide (0≤l.getD k 0∧l.getD k 0≤pl-1)) k=true) (l.length) 0 ?_ (S.sel [0] G G) (H.keep [9,2,7,8] rfl) ?_
 · exact ⟨by omega,by omega,rfl⟩
 clear H S a
 intro g1 x1 a w1 hp S H K4 k4
 obtain ⟨k,rfl⟩:∃ y,y=x1:=⟨_,rfl⟩
 refine sS H fun K5 k5=>sr 1 rfl<|sE ?_;clear H a;intro a H
 refine k5 _ ?_;clear k5 K5
 refine wp_seq_k fun K6 k6=>?_
 refine condL H rfl (fun hc1=>?_) (fun hc1=>?_)
 ·skip
  refine wp_skip ?_
  refine k6 _ _ ?_
  refine wp_seq_k fun K7 k7=>?_
  refine wp_block ?_
  refine sS H fun K8 k8=>si aS bA G G (hl.adr (by omega)) (by omega)<|slm aE rfl (hl.rd S (by omega) (by omega))<|sr 1 rfl<|sE ?_;clear H a;intro a H
  refine k8 _ ?_;clear k8 K8
  replace H:=H.keep [2,6,7,8,9] rfl
  refine sS H fun K9 k9=>sr 1 rfl<|sf eG rfl<|sl S 0 aE G G G<|sd (aR G G (by unfold i64ok;omega))<|sc rfl Tryz.func104 G G (cK _ _ _ _)<|sr 1 rfl<|sE ?_;clear H a;intro a H
  refine k9 _ ?_;clear k9 K9
  refine cond_ H rfl (fun hc2=>?_) (fun hc2=>?_)
  ·skip
   try simp only [o1,o2,o3,o4,o5,o6,o7,o8,o9,oa] at hc2
   refine sS H fun K10 k10=>sr 1 rfl<|sE ?_;clear H a;intro a H
   refine k10 _ ?_;clear k10 K10
   refine wp_ret ?_
   refine ret1 (fn:=Tryz.f106) rfl H rfl ?_
   exact ⟨congrArg Value.bool (Ai (k:=k) (by omega) (by omega)).symm,(S.sel [] G G)⟩
  try simp only [o1,o2,o3,o4,o5,o6,o7,o8,o9,oa] at hc2
  refine wp_skip ?_
  refine k7 _ _ ?_
  refine sO H<|sd (aK G G (by unfold i64ok;omega))<|sr 1 rfl<|sE ?_;clear H a;intro a H
  exact k4 (g1-1) (k+1) a _ (by omega) (⟨by omega,by omega,cC hp.2.2 (by rw [decide_eq_true_eq];omega)⟩) (S.sel [0] G G) (H.keep [9,2,7,8] rfl)
 refine wp_exit ?_
 refine k2 _ _ ?_
 replace H:=H.keep [] rfl
 refine sS H fun K12 k12=>sr 1 rfl<|sE ?_;clear H a;intro a H
 refine k12 _ ?_;clear k12 K12
 refine wp_ret ?_
 refine ret1 (fn:=Tryz.f106) rfl H rfl ?_
 refine ⟨congrArg Value.bool ?_,(S.sel [] G G)⟩;unfold plOk;rw [show l.length=k by omega,hp.2.2]
theorem yW (P:Nat) (ps:List Psg) (PA:Option Addr) (pc:Nat) (xs:List Int) (XA:Option Addr) (xc:Nat) (out:Int) (help:Bool) (p:Psg) (f:Int) (w:World) (hm:p.kind=4→0≤p.mach∧p.mach≤11) (hou:0≤out) :
    Calls Tryz.prog 175 [.agg [.int .i64 (P:Int),.slice PA ps.length pc,.slice XA xs.length xc,.int .i64 out,.bool help].toArray,.agg [.int .i64 p.a,.int .i64 p.b,.int .i64 p.kind,.int .i64 p.ticks,.int .i64 p.wide,.int .i64 p.mach,.int .i64 p.still].toArray,.int .i64 f].toArray w (Ret (fun v w'=>v = .int .i64 (oth out help p f)∧St w noF [] w')):=by
 refine enter Tryz.func175 rfl Tryz.ntmps175 rfl (fun a H=>?_)
 have S:=St.start w
 refine seq_list fun K1 k1=>?_
 refine aN H rfl S G G ?_;clear H a S;intro b3 _ a hb3 hbw3 S H
 refine aN H rfl S G G ?_;clear H a S;intro b4 _ a hb4 hbw4 S H
 refine ls 1 H<|sr 1 rfl<|sE ?_;clear H a;intro a H
 refine k1 _ _ ?_;clear k1 K1
 replace H:=H.keep [2,3,4] rfl
 refine sS H fun K2 k2=>sf gB rfl<|sl S 0 aE G G G<|sr 2 rfl<|sg 12 3 11 23 false G G (fun hg4=>by
     have hq4:=hg4;try simp only [o1,o2,o3,o4,o5,o6,o7,o8,o9,oa] at hq4
     exact sy hg4<|sf gB rfl<|sy hg4<|sl S 0 aE G G G<|sy hg4<|sr 1 rfl<|sy hg4<|sr 1 rfl<|sg 7 7 15 22 true G G (fun hg8=>by
          have hq8:=hg8;try simp only [o1,o2,o3,o4,o5,o6,o7,o8,o9,oa] at hq8
          exact sy hg8<|sf Hg rfl<|sy hg8<|sl S 1 aE G G G<|sy hg8<|sf dH rfl<|sy hg8<|sl S 0 aE G G G<|sy hg8<|sd (fD G G (by omega) (by omega))<|sy hg8<|sd (eL G G)<|sy hg8<|sr 1 rfl<|sz 7 G G G)<|sy hg4<|sa G G G<|sz 6 G G G)<|so G G G<|sr 1 rfl<|sg 7 17 25 32 false G G (fun hg18=>by
     have hq18:=hg18;try simp only [o1,o2,o3,o4,o5,o6,o7,o8,o9,oa] at hq18
     exact sy hg18<|sf gB rfl<|sy hg18<|sl S 0 aE G G G<|sy hg18<|sr 1 rfl<|sy hg18<|sr 1 rfl<|sg 2 21 29 31 true G G (fun hg22=>by
          have hq22:=hg22;try simp only [o1,o2,o3,o4,o5,o6,o7,o8,o9,oa] at hq22
          exact sy hg22<|sf Hh rfl<|sy hg22<|sl S 1 jE G G G<|sz 2 G G G)<|sy hg18<|sa G G G<|sz 6 G G G)<|so G G G<|sr 1 rfl<|sE ?_;clear H a;intro a H
 refine k2 _ ?_;clear k2 K2
 refine wp_seq_k fun K3 k3=>?_
 refine wp_block ?_
 replace H:=H.keep [2,4,7] rfl
 refine sS H fun K4 k4=>sr 3 rfl<|sE ?_;clear H a;intro a H
 refine k4 _ ?_;clear k4 K4
 refine cond_ H rfl (fun hc1=>?_) (fun hc1=>?_)
 ·skip
  try simp only [o1,o2,o3,o4,o5,o6,o7,o8,o9,oa] at hc1
  refine sS H fun K5 k5=>sr 1 rfl<|sE ?_;clear H a;intro a H
  refine k5 _ ?_;clear k5 K5
  refine wp_ret ?_
  refine ret1 (fn:=Tryz.f175) rfl H rfl ?_
  refine ⟨congrArg (Value.int .i64) ?_,(S.sel [] G G)⟩;unfold oth;rw [if_pos (Uc hc1)]
 try simp only [o1,o2,o3,o4,o5,o6,o7,o8,o9,oa] at hc1
 refine sS H fun K6 k6=>sf jS rfl<|sl S 0 aE G G G<|sr 3 rfl<|sE ?_;clear H a;intro a H
 refine k6 _ ?_;clear k6 K6
 refine condE H rfl (fun hc2=>?_) (fun hc2=>?_)
 ·skip
  replace H:=H.keep [4] rfl
  refine sS H fun K7 k7=>sf jT rfl<|sl S 0 aE G G G<|sr 1 rfl<|sE ?_;clear H a;intro a H
  refine k7 _ ?_;clear k7 K7
  refine wp_ret ?_
  refine ret1 (fn:=Tryz.f175) rfl H rfl ?_
  refine ⟨congrArg (Value.int .i64) ?_,(S.sel [] G G)⟩;unfold oth othr;rw [if_neg (by rw [Ig hc1];simp),if_pos hc2]
 refine sS H fun K8 k8=>sf jT rfl<|sl S 0 aE G G G<|sr 3 rfl<|sE ?_;clear H a;intro a H
 refine k8 _ ?_;clear k8 K8
 refine condE H rfl (fun hc3=>?_) (fun hc3=>?_)
 ·skip
  replace H:=H.keep [4] rfl
  refine sS H fun K9 k9=>sf jS rfl<|sl S 0 aE G G G<|sr 1 rfl<|sE ?_;clear H a;intro a H
  refine k9 _ ?_;clear k9 K9
  refine wp_ret ?_
  refine ret1 (fn:=Tryz.f175) rfl H rfl ?_
  refine ⟨congrArg (Value.int .i64) ?_,(S.sel [] G G)⟩;unfold oth othr;rw [if_neg (by rw [Ig hc1];simp),if_neg hc2,if_pos hc3]
 refine wp_skip ?_
 refine k3 _ _ ?_
 refine sS H fun K10 k10=>sr 1 rfl<|sE ?_;clear H a;intro a H
 refine k10 _ ?_;clear k10 K10
 refine wp_ret ?_
 refine ret1 (fn:=Tryz.f175) rfl H rfl ?_
 refine ⟨congrArg (Value.int .i64) ?_,(S.sel [] G G)⟩;unfold oth othr;rw [if_neg (by rw [Ig hc1];simp),if_neg hc2,if_neg hc3]
theorem Fm (P:Nat) (ps:List Psg) (PA:Option Addr) (pc:Nat) (xs:List Int) (XA:Option Addr) (xc:Nat) (out:Int) (help:Bool) (to:Int) (w:World) (hps:InS w noF 7 PA ps.length (pcell ps)) (hpn:ps.length≤9223372036854775807) (hxs:InS w noF 1 XA xs.length (icl xs)) (hxn:xs.length≤9223372036854775807) (hV:StV P ps xs) (hou:0≤out) (hto:0≤to∧to<P) :
    Calls Tryz.prog 144 [.agg [.int .i64 (P:Int),.slice PA ps.length pc,.slice XA xs.length xc,.int .i64 out,.bool help].toArray,.int .i64 to].toArray w (Ret (fun v w'=>∃ A c,v = .slice A P c∧FarOk P ps out help to.toNat (dst P ps out help to.toNat)∧St w noF [ownM 3 1 A P c (lcl (dst P ps out help to.toNat))] w')):=by
 have hP10:=hV.size
 refine enter Tryz.func144 rfl Tryz.ntmps144 rfl (fun a H=>?_)
 have S:=St.start w
 refine seq_list fun K1 k1=>?_
 refine aN H rfl S G G ?_;clear H a S;intro b2 _ a hb2 hbw2 S H
 refine ls 1 H<|sr 1 rfl<|sE ?_;clear H a;intro a H
 refine k1 _ _ ?_;clear k1 K1
 refine seq_list fun K2 k2=>?_
 refine ls 3 H<|sf rE rfl<|sf eG rfl<|sl S 0 aE G G G<|sE ?_;clear H a;intro a H
 refine lS (n:=_) H rfl S aS bA iC rG rfl (by decide) G G (by omega) (by omega) ?_;clear H a S;intro A1 _ a hA1 S H
 replace S:=S.recell (i:=0) rfl (cell':=lcl (fun i=>if i<0 then -1 else 0)) (fun k j hk hj=>Sh k j hj)
 refine ls 1 H<|sr 1 rfl<|sE ?_;clear H a;intro a H
 refine k2 _ _ ?_;clear k2 K2
 refine wp_seq_k fun K3 k3=>?_
 replace H:=H.keep [1,2,5] rfl
 refine sS H fun K4 k4=>sr 1 rfl<|sL aS rfl<|sr 1 rfl<|sE ?_;clear H a;intro a H
 refine k4 _ ?_;clear k4 K4
 refine wp_block ?_
 refine loop_st (X:=Nat) (R0:=_) [1,2,5,18] H rfl (fun k=>[(19,.int .i64 (k:Int))]) (fun k=>[ownM 3 1 A1 P P (lcl (fun i=>if i<k then -1 else 0))]) (fun g k=>k≤P∧g+k=P) (P) 0 ?_ (S.sel [0,1] G G) (H.keep [19,1,2,5,18] rfl) ?_
 · exact ⟨by omega,by omega⟩
 clear H S a
 intro g1 x1 a w1 hp S H K5 k5
 obtain ⟨k,rfl⟩:∃ y,y=x1:=⟨_,rfl⟩
 refine sS H fun K6 k6=>sr 1 rfl<|sE ?_;clear H a;intro a H
 refine k6 _ ?_;clear k6 K6
 refine wp_seq_k fun K7 k7=>?_
 refine condL H rfl (fun hc1=>?_) (fun hc1=>?_)
 ·skip
  refine wp_skip ?_
  refine k7 _ _ ?_
  refine wp_seq_k fun K8 k8=>?_
  refine wp_block ?_
  refine sS H fun K9 k9=>sr 2 rfl<|sE ?_;clear H a;intro a H
  refine k9 _ ?_;clear k9 K9
  refine one_list ?_
  refine ls 3 H<|sr 2 rfl<|si aS bA G G (ownM.adr S (i:=0) rfl (by omega)) (by omega)<|sE ?_;clear H a;intro a H
  refine cL H S (i:=0) G G G (by omega) (by omega) bA rfl ?_
  clear H a S;intro _ a S H
  replace S:=S.recell (i:=0) rfl (cell':=lcl (fun i=>if i<k+1 then -1 else 0)) (fun q j hq hj=>Kd q j hj)
  refine k8 _ _ ?_
  refine sO H<|sd (aK G G (by unfold i64ok;omega))<|sr 1 rfl<|sE ?_;clear H a;intro a H
  exact k5 (g1-1) (k+1) a _ (by omega) (⟨by omega,by omega⟩) (S.sel [0,1] G G) (H.keep [19,1,2,5,18] rfl)
 refine wp_exit ?_
 refine k3 _ _ ?_
 replace H:=H.keep [1,2,5] rfl
 refine seq_list fun K12 k12=>?_
 refine ls 3 H<|sr 2 rfl<|sI aS bA G G (ownM.adr S (i:=0) rfl (by omega)) (by omega) (by omega)<|sE ?_;clear H a;intro a H
 refine cL H S (i:=0) G G G (by omega) (by omega) bA rfl ?_
 clear H a S;intro _ a S H
 replace S:=S.recell (i:=0) rfl (cell':=lcl (tk0 to.toNat)) (fun q j hq hj=>Ke (by omega) q j hq hj)
 refine k12 _ _ ?_;clear k12 K12
 refine wp_seq_k fun K13 k13=>?_
 refine sS H fun K14 k14=>sr 1 rfl<|sE ?_;clear H a;intro a H
 refine k14 _ ?_;clear k14 K14
 refine wp_block ?_
 refine loop_st (X:=(Nat→Int)×Bool) (R0:=_) [2,5] H rfl (fun ⟨tk,mo⟩=>[(7,.bool mo)]) (fun ⟨tk,mo⟩=>[ownM 3 1 A1 P P (lcl tk)]) (fun g ⟨tk,mo⟩=>FarI P ps out help to.toNat tk∧potF P tk+b2i mo≤(g:Int)∧(mo=false→∀ i,i<P→∀ k,k<ps.length→FixAt ps out help tk i k)) ((potF P (tk0 to.toNat)+1).toNat) (tk0 to.toNat,true) ?_ (S.sel [0,1] G G) (H.keep [7,2,5] rfl) ?_
 · exact ⟨FarI.init (by omega),by have:=Bv (P:=P) (tk:=tk0 to.toNat);show potF P (tk0 to.toNat)+1≤_;omega,fun h=>by cases h⟩
 clear H S a
 intro g2 x2 a w2 hp S H K15 k15
 obtain ⟨tk,mo⟩:=x2
 dsimp only at hp S H
 obtain ⟨hI,hpot,hfx⟩:=hp
 have hpn0:=Bv (P:=P) (tk:=tk)
 refine wp_seq_k fun K16 k16=>?_
 refine sS H fun K17 k17=>sr 1 rfl<|sE ?_;clear H a;intro a H
 refine k17 _ ?_;clear k17 K17
 refine cond_ H rfl (fun hc2=>?_) (fun hc2=>?_)
 ·skip
  try simp only [o1,o2,o3,o4,o5,o6,o7,o8,o9,oa] at hc2
  have hb9:=Up hc2
  refine wp_skip ?_
  refine k16 _ _ ?_
  refine wp_block ?_
  refine sS H fun K18 k18=>sr 1 rfl<|sE ?_;clear H a;intro a H
  refine k18 _ ?_;clear k18 K18
  refine sS H fun K19 k19=>sf rE rfl<|sf eG rfl<|sl S 1 aE G G G<|sr 1 rfl<|sE ?_;clear H a;intro a H
  refine k19 _ ?_;clear k19 K19
  refine wp_block ?_
  refine loop_st (X:=Nat×(Nat→Int)×Bool) (R0:=_) [2,5,32] H rfl (fun ⟨f,tk1,m1⟩=>[(7,.bool m1),(33,.int .i64 (f:Int))]) (fun ⟨f,tk1,m1⟩=>[ownM 3 1 A1 P P (lcl tk1)]) (fun g ⟨f,tk1,m1⟩=>f≤P∧g+f=P∧FarI P ps out help to.toNat tk1∧potF P tk1+b2i m1≤potF P tk∧(m1=false→∀ i,i<f→∀ k,k<ps.length→FixAt ps out help tk1 i k)) (P) (0,tk,false) ?_ (S.sel [0,1] G G) (H.keep [7,33,2,5,32] rfl) ?_
  · exact ⟨by omega,by omega,hI,by show potF P tk+0≤_;omega,fun _ i hi=>absurd hi (Nat.not_lt_zero i)⟩
  clear H S a
  intro g3 x3 a w3 hp S H K20 k20
  obtain ⟨f,tk1,m1⟩:=x3
  dsimp only at hp S H
  obtain ⟨hfP,hgf,hI1,hpot1,hfx1⟩:=hp
  refine sS H fun K21 k21=>sr 1 rfl<|sE ?_;clear H a;intro a H
  refine k21 _ ?_;clear k21 K21
  refine wp_seq_k fun K22 k22=>?_
  refine condL H rfl (fun hc3=>?_) (fun hc3=>?_)
  ·skip
   refine wp_skip ?_
   refine k22 _ _ ?_
   refine wp_seq_k fun K23 k23=>?_
   refine wp_block ?_
   refine sS H fun K24 k24=>sr 2 rfl<|sE ?_;clear H a;intro a H
   refine k24 _ ?_;clear k24 K24
   refine sS H fun K25 k25=>sf rE rfl<|sf iJ rfl<|sl S 1 kI G G G<|sL kW rfl<|sr 1 rfl<|sE ?_;clear H a;intro a H
   refine k25 _ ?_;clear k25 K25
   refine wp_block ?_
   refine loop_st (X:=Nat×(Nat→Int)×Bool) (R0:=_) [2,5,8,32,33,38,39] H rfl (fun ⟨k,tk2,m2⟩=>[(7,.bool m2),(40,.int .i64 (k:Int))]) (fun ⟨k,tk2,m2⟩=>[ownM 3 1 A1 P P (lcl tk2)]) (fun g ⟨k,tk2,m2⟩=>k≤ps.length∧g+k=ps.length∧FarI P ps out help to.toNat tk2∧potF P tk2+b2i m2≤potF P tk∧(m2=false→(∀ i,i<f→∀ k,k<ps.length→FixAt ps out help tk2 i k)∧∀ q,q<k→FixAt ps out help tk2 f q)) (ps.length) (0,tk1,m1) ?_ (S.sel [0,1] G G) (H.keep [7,40,2,5,8,32,33,38,39] rfl) ?_
   · exact ⟨by omega,by omega,hI1,hpot1,fun h=>⟨hfx1 h,fun q hq=>absurd hq (Nat.not_lt_zero q)⟩⟩
   clear H S a
   intro g4 x4 a w4 hp S H K26 k26
   obtain ⟨k,tk2,m2⟩:=x4
   dsimp only at hp S H
   obtain ⟨hkl,hgk,hI2,hpot2,hfx2⟩:=hp
   refine sS H fun K27 k27=>sr 1 rfl<|sE ?_;clear H a;intro a H
   refine k27 _ ?_;clear k27 K27
   refine wp_seq_k fun K28 k28=>?_
   refine condL H rfl (fun hc4=>?_) (fun hc4=>?_)
   ·skip
    refine wp_skip ?_
    refine k28 _ _ ?_
    refine wp_seq_k fun K29 k29=>?_
    refine wp_block ?_
    refine seq_list fun K30 k30=>?_
    refine ls 2 H<|si kW eR G G (hps.adr (by omega)) (by omega)<|sd ((aV kJ eR rfl S hps (by omega) (by omega)))<|sE ?_;clear H a;intro a H
    refine aI H rfl S rH ?_;clear H a S;intro b10 _ a hb10 hbw10 S H
    refine aD H S (i:=0) G G G G eR G G ?_
    clear H a S;intro _ a S H
    refine k30 _ _ ?_;clear k30 K30
    replace H:=H.keep [2,5,7,8,10,32,33,38,39,40] rfl
    refine seq_list fun K31 k31=>?_
    refine ls 3 H<|sd ((aB Bk Hc rfl S (i:=2) G G))<|sd ((aB kJ eR rfl S (i:=0) G G))<|sr 1 rfl<|sE ?_;clear H a;intro a H
    refine aA H G G Tryz.func175 G G (yW P ps PA pc xs XA xc out help (ps.getD k Psg.zero) (f:Int) _ (hV.mch k (by omega)) hou) ?_;clear H a
    rintro _ _ a ⟨rfl,S2⟩ H
    replace S:=S.call S2;clear S2
    have hoi:0≤oth out help (ps.getD k Psg.zero) (f:Int)→oth out help (ps.getD k Psg.zero) (f:Int)<P:=fun h=>(rM hV.psv (show k<ps.length by omega) h).2.1
    have htb:=(hV.psv k (by omega)).2.2
    refine ls 1 H<|sr 1 rfl<|sE ?_;clear H a;intro a H
    refine k31 _ _ ?_;clear k31 K31
    refine wp_seq_k fun K32 k32=>?_
    replace H:=H.keep [2,5,7,8,10,11,32,33,38,39,40] rfl
    refine sS H fun K33 k33=>sr 3 rfl<|sg 5 2 50 55 false G G (fun hg3=>by
        have hq3:=hg3;try simp only [o1,o2,o3,o4,o5,o6,o7,o8,o9,oa] at hq3
        exact sy hg3<|sr 1 rfl<|sy hg3<|sr 1 rfl<|sy hg3<|sI aS bA G G (ownM.adr S (i:=1) rfl (by omega)) (by omega) (by omega)<|sy hg3<|slm aE rfl (ownM.rd S (i:=1) rfl (by omega) (by omega))<|sy hg3<|sr 1 rfl<|sz 5 G G G)<|so G G G<|sE ?_;clear H a;intro a H
    refine k33 _ ?_;clear k33 K33
    refine cond_ H rfl (fun hc5=>?_) (fun hc5=>?_)
    ·skip
     try simp only [o1,o2,o3,o4,o5,o6,o7,o8,o9,oa] at hc5
     refine wp_exit ?_
     refine k29 _ _ ?_
     replace H:=H.keep [2,5,7,8,32,33,38,39,40] rfl
     refine sO H<|sd (aK G G (by unfold i64ok;omega))<|sr 1 rfl<|sE ?_;clear H a;intro a H
     exact k26 (g4-1) (k+1,_,_) a _ (by omega) (by first|exact ⟨by omega,by omega,hI2.up hV.psv (by omega) (by omega) (by omega) (by omega) (by omega) (by omega) (by omega) hpot2⟩|exact ⟨by omega,by omega,hI2,hpot2,vP (P:=P) hfx2 (rN (by omega))⟩) (S.sel [1,2] G G) (H.keep [7,40,2,5,8,32,33,38,39] rfl)
    try simp only [o1,o2,o3,o4,o5,o6,o7,o8,o9,oa] at hc5
    refine wp_skip ?_
    refine k32 _ _ ?_
    have hsm:=hI2.small (by omega) (i:=(oth out help (ps.getD k Psg.zero) f).toNat) (by omega)
    replace H:=H.keep [2,5,7,8,10,11,32,33,38,39,40] rfl
    replace S:=S.drew
    refine sD H fun K35 k35=>sr 2 rfl<|sI aS bA G G (ownM.adr S (i:=1) rfl (by omega)) (by omega) (by omega)<|slm aE rfl (ownM.rd S (i:=1) rfl (by omega) (by omega))<|sf rA rfl<|sl S 0 aE G G G<|sd (aK G G (by unfold i64ok;omega))<|sr 1 rfl<|sE ?_;clear H a;intro a H
    refine k35 _ ?_;clear k35 K35
    replace H:=H.keep [2,5,7,8,12,32,33,38,39,40] rfl
    refine sS H fun K36 k36=>sr 2 rfl<|si aS bA G G (ownM.adr S (i:=1) rfl (by omega)) (by omega)<|slm aE rfl (ownM.rd S (i:=1) rfl (by omega) (by omega))<|sr 2 rfl<|sg 6 5 69 75 false G G (fun hg6=>by
        have hq6:=hg6;try simp only [o1,o2,o3,o4,o5,o6,o7,o8,o9,oa] at hq6
        exact sy hg6<|sr 1 rfl<|sy hg6<|sr 1 rfl<|sy hg6<|sr 1 rfl<|sy hg6<|si aS bA G G (ownM.adr S (i:=1) rfl (by omega)) (by omega)<|sy hg6<|slm aE rfl (ownM.rd S (i:=1) rfl (by omega) (by omega))<|sy hg6<|sr 1 rfl<|sz 6 G G G)<|so G G G<|sE ?_;clear H a;intro a H
    refine k36 _ ?_;clear k36 K36
    refine cond_ H rfl (fun hc6=>?_) (fun hc6=>?_)
    ·skip
     try simp only [o1,o2,o3,o4,o5,o6,o7,o8,o9,oa] at hc6
     replace H:=H.keep [2,5,8,12,32,33,38,39,40] rfl
     refine one_list ?_
     refine ls 4 H<|sr 3 rfl<|si aS bA G G (ownM.adr S (i:=1) rfl (by omega)) (by omega)<|sE ?_;clear H a;intro a H
     refine cL H S (i:=1) G G G (by omega) (by omega) bA rfl ?_
     clear H a S;intro _ a S H
     replace S:=S.recell (i:=1) rfl (cell':=lcl (upd tk2 f (tk2 (oth out help (ps.getD k Psg.zero) f).toNat+(ps.getD k Psg.zero).ticks))) (fun q j hq hj=>Nt q j hj)
     refine ls 1 H<|sr 1 rfl<|sE ?_;clear H a;intro a H
     refine k29 _ _ ?_
     refine sO H<|sd (aK G G (by unfold i64ok;omega))<|sr 1 rfl<|sE ?_;clear H a;intro a H
     exact k26 (g4-1) (k+1,_,_) a _ (by omega) (by first|exact ⟨by omega,by omega,hI2.up hV.psv (by omega) (by omega) (by omega) (by omega) (by omega) (by omega) (by omega) hpot2⟩|exact ⟨by omega,by omega,hI2,hpot2,vP (P:=P) hfx2 (rN (by omega))⟩) (S.sel [1,2] G G) (H.keep [7,40,2,5,8,32,33,38,39] rfl)
    try simp only [o1,o2,o3,o4,o5,o6,o7,o8,o9,oa] at hc6
    refine wp_skip ?_
    refine k29 _ _ ?_
    replace H:=H.keep [2,5,7,8,32,33,38,39,40] rfl
    refine sO H<|sd (aK G G (by unfold i64ok;omega))<|sr 1 rfl<|sE ?_;clear H a;intro a H
    exact k26 (g4-1) (k+1,_,_) a _ (by omega) (by first|exact ⟨by omega,by omega,hI2.up hV.psv (by omega) (by omega) (by omega) (by omega) (by omega) (by omega) (by omega) hpot2⟩|exact ⟨by omega,by omega,hI2,hpot2,vP (P:=P) hfx2 (rN (by omega))⟩) (S.sel [1,2] G G) (H.keep [7,40,2,5,8,32,33,38,39] rfl)
   refine wp_exit ?_
   refine k23 _ _ ?_
   refine sO H<|sd (aK G G (by unfold i64ok;omega))<|sr 1 rfl<|sE ?_;clear H a;intro a H
   exact k20 (g3-1) (f+1,tk2,m2) a _ (by omega) (⟨by omega,by omega,hI2,hpot2,Rf (P:=P) (by omega) hfx2⟩) (S.sel [0,1] G G) (H.keep [7,33,2,5,32] rfl)
  refine wp_exit ?_
  exact k15 (g2-1) (tk1,m1) a _ (by omega) (⟨hI1,by omega,Sg (by omega) hfx1⟩) (S.sel [0,1] G G) (H.keep [7,2,5] rfl)
 try simp only [o1,o2,o3,o4,o5,o6,o7,o8,o9,oa] at hc2
 refine wp_exit ?_
 refine k13 _ _ ?_
 refine sS H fun K41 k41=>sr 2 rfl<|sE ?_;clear H a;intro a H
 refine k41 _ ?_;clear k41 K41
 refine wp_ret ?_
 refine ret1 (fn:=Tryz.f144) rfl H rfl ?_
 have hmf:mo=false:=by (cases mo <;> simp_all)
 have hok:=hI.done (by omega) (hfx hmf)
 have hdo:=Rg hV.psv (by omega) hok
 replace S:=S.recell (i:=0) rfl (cell':=lcl (dst P ps out help to.toNat)) (fun q j hq hj=>by unfold lcl;rw [mS hV.psv hok hq])
 exact ⟨_,_,rfl,hdo,(S.sel [0] G G)⟩
theorem wD (P:Nat) (ps:List Psg) (PA:Option Addr) (pc:Nat) (xs:List Int) (XA:Option Addr) (xc:Nat) (out:Int) (help:Bool) (fr to:Int) (w:World) (hps:InS w noF 7 PA ps.length (pcell ps)) (hpn:ps.length≤9223372036854775807) (hxs:InS w noF 1 XA xs.length (icl xs)) (hxn:xs.length≤9223372036854775807) (hV:StV P ps xs) (hou:0≤out) (hfr:0≤fr∧fr<P) (hto:0≤to∧to<P) :
    Calls Tryz.prog 107 [.agg [.int .i64 (P:Int),.slice PA ps.length pc,.slice XA xs.length xc,.int .i64 out,.bool help].toArray,.int .i64 fr,.int .i64 to].toArray w (Ret (fun v w'=>v = .bool (decide (0≤dst P ps out help to.toNat fr.toNat))∧FarOk P ps out help to.toNat (dst P ps out help to.toNat)∧St w noF [] w')):=by
 refine enter Tryz.func107 rfl Tryz.ntmps107 rfl (fun a H=>?_)
 have S:=St.start w
 refine seq_list fun K1 k1=>?_
 refine aN H rfl S G G ?_;clear H a S;intro b3 _ a hb3 hbw3 S H
 refine ls 1 H<|sr 1 rfl<|sE ?_;clear H a;intro a H
 refine k1 _ _ ?_;clear k1 K1
 replace H:=H.keep [1,2,3] rfl
 refine seq_list fun K2 k2=>?_
 refine ls 2 H<|sd ((aB Bk Hc rfl S (i:=0) G G))<|sr 1 rfl<|sE ?_;clear H a;intro a H
 refine aA H G G Tryz.func144 G G (Fm P ps PA pc xs XA xc out help to _ (hps.now S) hpn (hxs.now S) hxn hV hou hto) ?_;clear H a
 rintro _ _ a ⟨A5,c5,rfl,hdo,S2⟩ H
 replace S:=S.call S2;clear S2
 refine ls 5 H<|sr 1 rfl<|sI aS bA G G (ownM.adr S (i:=0) rfl (by omega)) (by omega) (by omega)<|slm aE rfl (ownM.rd S (i:=0) rfl (by omega) (by omega))<|sr 2 rfl<|sE ?_;clear H a;intro a H
 refine k2 _ _ ?_;clear k2 K2
 refine wp_ret ?_
 refine ret1 (fn:=Tryz.f107) rfl H rfl ?_
 exact ⟨rfl,hdo,(S.sel [] G G)⟩
end
end Go.Proofs.YtinghmelkmblmaaGreat
