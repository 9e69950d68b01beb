/- Part 1 of the proof. -/
import Derived.WalkKit
import Derived.Deep.Quiet
import Derived.StillTail
import Derived.Deep.LoopGhost
import Derived.KernelRfl
import Derived.IntWalk
import Derived.Maps.AppendAt
import Derived.Laws.MakeOwn
import Derived.ArgAppend
import Derived.Test.YtinghmelkmblmaaGreatRows
import Derived.RangeFuncRecord
import Derived.RangeFuncLeaves
import Derived.RangeFuncSeq
import Derived.OrdersIn
import Derived.TacticsIn
import Derived.Laws.IdiomStrings
import Derived.Lib.AppendZeros
import Derived.WideKeyEntry
import Derived.Test.YtinghmelkmblmaaGreatShelf
import Derived.Laws.StructEq
import Derived.Tactics
import Derived.Tactics2
import Derived.ProofKit
import Derived.OpenShut
import Derived.Deep.Slices
import Derived.Lib.SmallJoins
import Derived.SizedLaws
import Derived.JoinedCond
namespace Go.Proofs.YtinghmelkmblmaaGreat
open Go.RowKit
set_option linter.unusedVariables false
set_option linter.unusedSimpArgs false
set_option maxRecDepth 100000
set_option maxHeartbeats 4000000
theorem G.{u} {α : Sort u} {a : α} : a = a := rfl
section
def look:List (Nat×Value)→Nat→Option Value
  | [],_=>none
  | (t,v)::L,i=>bif Nat.beq t i then some v else look L i
def ev (L:List (Nat×Value)):Operand→Option Value
  | .tmp t=>look L t
  | .const v=>some v
  | .global g=>some (.pointer (some ⟨g,0,none⟩))
  | .func f=>some (.func (.func f) #[] #[])
def evs (L:List (Nat×Value)):List Operand→Option (List Value)
  | []=>some []
  | x :: xs=>match ev L x with
    | some v=>match evs L xs with
      | some vs=>some (v::vs)
      | none=>none
    | none=>none
structure FN where
  n:Nat
  ds:List Deferred
structure Fr (N:FN) (L:List (Nat×Value)) (a:Act):Prop where
  size:a.tmps.size=N.n
  defs:a.defers=N.ds
  at_:∀ t v,look L t=some v→a.tmps[t]?=some v
section
variable {N:FN} {L L':List (Nat×Value)} {a:Act} {P:Program}
theorem Fr.eval (H:Fr N L a) {x:Operand} {v:Value} (h:ev L x=some v):a.eval x=v:=by
  cases x with
  | tmp t=>simp [Act.eval,H.at_ t v h]
  | const u=>simp only [ev,Option.some.injEq] at h;exact h
  | global g=>simp only [ev,Option.some.injEq] at h;exact h
  | func f=>simp only [ev,Option.some.injEq] at h;exact h
theorem Fr.evals (H:Fr N L a):∀ {xs:List Operand} {vs:List Value},evs L xs=some vs→xs.map a.eval=vs:=by
  intro xs
  induction xs with
  | nil=>intro vs h;simp only [evs,Option.some.injEq] at h;subst h;rfl
  | cons x xs ih=>
    intro vs h
    simp only [evs] at h
    split at h
    · rename_i v hv
      split at h
      · rename_i us hus
        simp only [Option.some.injEq] at h
        subst h
        simp only [List.map_cons,H.eval hv,ih hus]
      · cases h
    · cases h
theorem Fr.put (H:Fr N L a) {d:Nat} (v:Value) (hd:Nat.blt d N.n=true):Fr N ((d,v)::L) (a.put (some d) v):=by
  have hd':d<N.n:=by simpa using hd
  refine ⟨by simp [Act.put,H.size],H.defs,?_⟩
  intro t u h
  simp only [look] at h
  by_cases e:d=t
  · subst e
    have hb:Nat.beq d d=true:=Nat.beq_refl d
    rw [hb] at h
    simp only [cond_true,Option.some.injEq] at h
    subst h
    have:d<a.tmps.size:=by rw [H.size];exact hd'
    simp [Act.put,this]
  · have hb:Nat.beq d t=false:=by
      cases hbb:Nat.beq d t
      · rfl
      · exact absurd (Nat.eq_of_beq_eq_true hbb) e
    rw [hb] at h
    simp only [Act.put]
    rw [Array.getElem?_setIfInBounds_ne e]
    exact H.at_ t u h
theorem Fr.put_none (H:Fr N L a) (v:Value):Fr N L (a.put none v):=H
def Sub (M L:List (Nat×Value)):Prop:=∀ t v,look M t=some v→look L t=some v
theorem Sub.nil:Sub [] L:=fun _ _ h=>by cases h
theorem Sub.cons {t:Nat} {v:Value} {M L:List (Nat×Value)} (h:look L t=some v) (r:Sub M L):Sub ((t,v)::M) L:=by
  intro t' v' hv
  simp only [look] at hv
  cases hb:Nat.beq t t'
  · rw [hb] at hv;exact r t' v' hv
  · rw [hb] at hv
    simp only [cond_true,Option.some.injEq] at hv
    have:=Nat.eq_of_beq_eq_true hb
    subst this;subst hv
    exact h
theorem Fr.to (H:Fr N L a) (h:Sub L' L):Fr N L' a:=⟨H.size,H.defs,fun t v hv=>H.at_ t v (h t v hv)⟩
def pick:List Nat→List (Nat×Value)→Option (List (Nat×Value))
  | [],_=>some []
  | k :: ks,L=>match look L k with
    | some v=>match pick ks L with
      | some r=>some ((k,v)::r)
      | none=>none
    | none=>none
theorem Iv:∀ {ks:List Nat} {L'},pick ks L=some L'→Sub L' L:=by
  intro ks
  induction ks with
  | nil=>intro L' h;simp only [pick,Option.some.injEq] at h;subst h;exact Sub.nil
  | cons k ks ih=>
    intro L' h
    simp only [pick] at h
    split at h
    · rename_i v hv
      split at h
      · rename_i r hr
        simp only [Option.some.injEq] at h
        subst h
        exact Sub.cons hv (ih hr)
      · cases h
    · cases h
theorem Fr.keep (H:Fr N L a) (ks:List Nat) (h:pick ks L=some L'):Fr N L' a:=H.to (Iv h)
def qX:Nat→List Value→List (Nat×Value)
  | _,[]=>[]
  | i,v::vs=>(i,v)::qX (i+1) vs
theorem xS:∀ (vs:List Value) (i t:Nat) (v:Value),look (qX i vs) t=some v→i≤t∧vs[t-i]?=some v:=by
  intro vs
  induction vs with
  | nil=>intro i t v h;cases h
  | cons u us ih=>
    intro i t v h
    simp only [qX,look] at h
    cases hb:Nat.beq i t
    · rw [hb] at h
      obtain ⟨h1,h2⟩:=ih (i+1) t v h
      refine ⟨by omega,?_⟩
      have:t-i=(t-(i+1))+1:=by omega
      rw [this];simpa using h2
    · rw [hb] at h
      have:=Nat.eq_of_beq_eq_true hb
      subst this
      simp only [cond_true,Option.some.injEq] at h
      subst h
      exact ⟨Nat.le_refl _,by simp⟩
theorem Fr.entry {fn:Func} {N:Nat} (vs:List Value) (hN:fn.ntmps=N) (hle:Nat.ble vs.length N=true) :
    Fr ⟨N,[]⟩ (qX 0 vs) { tmps:=vs.toArray++Array.replicate (fn.ntmps-vs.toArray.size) undef,defers:=[] }:=by
  have hle':vs.length≤N:=by simpa using hle
  refine ⟨by simp [hN];omega,rfl,?_⟩
  intro t v h
  obtain ⟨_,h2⟩:=xS vs 0 t v h
  simp only [Nat.sub_zero] at h2
  have hl:t<vs.length:=by
    rcases Nat.lt_or_ge t vs.length with h|h
    · exact h
    · rw [List.getElem?_eq_none h] at h2;cases h2
  rw [List.getElem?_eq_getElem hl,Option.some.injEq] at h2
  simp [Array.getElem?_append,hl,h2]
end
def Ret (R:Value→World→Prop):Ending→World→Prop
  | .returned v,w=>R v w
  | _,_=>False
theorem enter {P:Program} {f:FuncId} {fn:Func} {c:Code} {vs:List Value} {w:World} {R:Ending→World→Prop} {N:Nat}
    (hf:P.funcs[f]?=some fn) (hb:fn.body=some c) (hN:fn.ntmps=N) (hle:Nat.ble vs.length N=true)
    (k:∀ a,Fr ⟨N,[]⟩ (qX 0 vs) a→c.wp P (bodyPost P fn R) a w):Calls P f vs.toArray w R:=
  calls_of_wp hf hb (k _ (Fr.entry vs hN hle))
def Does (P:Program) (L:List (Nat×Value)) (o:Oper) (w:World) (v:Value):Prop:=
  ∀ ρ:Operand→Value,(∀ x u,ev L x=some u→ρ x=u)→(execOp ρ o).run P w = .ok (.value v) w
section
variable {P:Program} {ops:Array Oper} {w:World} {Q:Act→Prop} {rest:List Oper} {N:FN} {L L':List (Nat×Value)} {a:Act} {ty:TypeId} {pos:String} {af:Array Edge} {op:Op}
theorem Am {d:Nat} {v:Value} (H:Fr N L a) (hd:Nat.blt d N.n=true) (h:Does P L ⟨some d,op,ty,pos,af,none⟩ w v)
    (k:∀ a',Fr N ((d,v)::L) a'→wpStill P ops w Q rest a'):wpStill P ops w Q (⟨some d,op,ty,pos,af,none⟩::rest) a:=by
  refine wpStill_step fun K hK=>?_
  simp only [Region.wanted,if_true]
  unfold Oper.still
  rw [h a.eval (fun x u hx=>H.eval hx)]
  exact ⟨rfl,hK _ (k _ (H.put v hd))⟩
theorem Fa {d:Option Nat} {i g:Nat} {b:Bool} (H:Fr N L a) (hg:(ops[i]?).bind (·.dst)=some g) (hb:look L g=some (.bool b))
    (k:wpStill P ops w Q (⟨d,op,ty,pos,af,none⟩::rest) a):wpStill P ops w Q (⟨d,op,ty,pos,af,some (i,b)⟩::rest) a:=by
  have hw:Region.wanted ⟨d,op,ty,pos,af,some (i,b)⟩ (yielded ops a.tmps)=true:=by
    simp only [Region.wanted,yielded,hg,Option.bind_some]
    simp [H.at_ g _ hb]
  refine wpStill_step fun K hK=>?_
  rw [if_pos hw]
  simp only [wpStill,Region.wanted,if_true] at k
  exact Oper.still_mono hK k
end
structure Mem where
  fp:Nat→Prop
  holds:World→Prop
  stable:∀ w w':World,(∀ k,fp k→w'.heap[k]?=w.heap[k]?)→holds w→holds w'
def noF:Nat→Prop:=fun _=>False
structure St (w0:World) (F0:Nat→Prop) (R:List Mem) (w:World):Prop where
  os:w.os=w0.os
  tape:w.tape=w0.tape
  out:w.output=w0.output
  size:w0.heap.size≤w.heap.size
  ro:∀ k,k<w0.heap.size→¬ F0 k→w.heap[k]?=w0.heap[k]?
  res:∀ m ∈ R,m.holds w
  inn:∀ m ∈ R,∀ k,m.fp k→k<w.heap.size∧(k<w0.heap.size→F0 k)
  disj:∀ (i j:Nat) (m m':Mem),R[i]?=some m→R[j]?=some m'→i≠j→∀ k,m.fp k→¬ m'.fp k
theorem dC {w:World} {k:Nat} {o:Obj} (h:w.heap[k]?=some o):k<w.heap.size:=(Array.getElem?_eq_some_iff.1 h).1
section
variable {w0 w w' w1:World} {F0 F:Nat→Prop} {R R':List Mem} {m m':Mem}
theorem St.start (w:World):St w noF [] w:=
  ⟨rfl,rfl,rfl,Nat.le_refl _,fun _ _ _=>rfl,fun _ h=>by simp at h,fun _ h=>by simp at h,fun i j m m' h=>by simp at h⟩
def fps (R:List Mem):Nat→Prop:=fun k=>∃ m ∈ R,m.fp k
theorem St.startR (S:St w0 F0 R w):St w (fps R) R w:=
  ⟨rfl,rfl,rfl,Nat.le_refl _,fun _ _ _=>rfl,S.res,fun m h k hk=>⟨(S.inn m h k hk).1,fun _=>⟨m,h,hk⟩⟩,S.disj⟩
theorem St.holds (S:St w0 F0 R w) {i:Nat} (hi:R[i]?=some m):m.holds w:=S.res m (List.mem_of_getElem? hi)
theorem St.drew (S:St w0 F0 R w):St w0 F0 R w.drew:=
  ⟨S.os,S.tape,S.out,S.size,S.ro,fun m h=>m.stable w _ (fun _ _=>rfl) (S.res m h),S.inn,S.disj⟩
structure Keeps (w w':World) (F:Nat→Prop):Prop where
  os:w'.os=w.os
  tape:w'.tape=w.tape
  out:w'.output=w.output
  size:w.heap.size≤w'.heap.size
  kept:∀ k,k<w.heap.size→¬ F k→w'.heap[k]?=w.heap[k]?
theorem Keeps.refl (w:World) (F:Nat→Prop):Keeps w w F:=⟨rfl,rfl,rfl,Nat.le_refl _,fun _ _ _=>rfl⟩
theorem Keeps.drew (w:World) (F:Nat→Prop):Keeps w w.drew F:=⟨rfl,rfl,rfl,Nat.le_refl _,fun _ _ _=>rfl⟩
theorem Keeps.alloc (w:World) (o:Obj) (F:Nat→Prop):Keeps w (w.alloc o) F:=⟨rfl,rfl,rfl,by simp,fun k hk _=>Below.heap_alloc w o k hk⟩
theorem Keeps.trans {F:Nat→Prop} (h:Keeps w w' F) (k:Keeps w' w1 F):Keeps w w1 F:=
  ⟨k.os.trans h.os,k.tape.trans h.tape,k.out.trans h.out,Nat.le_trans h.size k.size,fun i hi hf=>(k.kept i (Nat.lt_of_lt_of_le hi h.size) hf).trans (h.kept i hi hf)⟩
theorem Keeps.of_grown {row:Option Nat} (h:w.grownBy w' row):Keeps w w' (fun k=>row=some k):=
  ⟨h.os,h.tape,h.output,h.size,fun k hk hf=>h.block k hk (fun e=>hf e.symm)⟩
theorem Keeps.mono {F F':Nat→Prop} (h:Keeps w w' F) (hF:∀ k,F k→F' k):Keeps w w' F':=
  ⟨h.os,h.tape,h.out,h.size,fun k hk hf=>h.kept k hk (fun e=>hf (hF k e))⟩
theorem St.new (S:St w0 F0 R w) (K:Keeps w w' noF) (hm:m'.holds w') (hf:∀ k,m'.fp k→w.heap.size≤k∧k<w'.heap.size):St w0 F0 (m'::R) w':=by
  refine ⟨K.os.trans S.os,K.tape.trans S.tape,K.out.trans S.out,Nat.le_trans S.size K.size,
    fun k hk hf=>(K.kept k (Nat.lt_of_lt_of_le hk S.size) (fun h=>h)).trans (S.ro k hk hf),?_,?_,?_⟩
  · intro m h
    rcases List.mem_cons.1 h with rfl|h
    · exact hm
    · exact m.stable w w' (fun k hk=>K.kept k (S.inn m h k hk).1 (fun h=>h)) (S.res m h)
  · intro m h k hk
    rcases List.mem_cons.1 h with rfl|h
    · exact ⟨(hf k hk).2,fun hlt=>by have:=(hf k hk).1;have:=S.size;omega⟩
    · exact ⟨Nat.lt_of_lt_of_le (S.inn m h k hk).1 K.size,(S.inn m h k hk).2⟩
  · intro i j a b hi hj hij k hk hk'
    cases i with
    | zero=>
      cases j with
      | zero=>exact hij rfl
      | succ j=>
        simp at hi hj;subst hi
        have:=(hf k hk).1
        have:=(S.inn b (List.mem_of_getElem? hj) k hk').1
        omega
    | succ i=>
      cases j with
      | zero=>
        simp at hi hj;subst hj
        have:=(hf k hk').1
        have:=(S.inn a (List.mem_of_getElem? hi) k hk).1
        omega
      | succ j=>
        simp at hi hj
        exact S.disj i j a b hi hj (by omega) k hk hk'
theorem fA {α:Type} {R:List α} {i j:Nat} {m m' x:α} (hi:R[i]?=some m) (h:(R.set i m')[j]?=some x):(j=i∧x=m')∨(j≠i∧R[j]?=some x):=by
  rw [List.getElem?_set] at h
  by_cases e:i=j
  · subst e
    have hil:i<R.length:=by
      rcases Nat.lt_or_ge i R.length with h|h
      · exact h
      · rw [List.getElem?_eq_none h] at hi;cases hi
    rw [if_pos rfl,if_pos hil,Option.some.injEq] at h
    exact .inl ⟨rfl,h.symm⟩
  · rw [if_neg e] at h
    exact .inr ⟨fun h=>e h.symm,h⟩
theorem St.upd (S:St w0 F0 R w) {i:Nat} (hi:R[i]?=some m) (K:Keeps w w' m.fp) (hm:m'.holds w')
    (hf:∀ k,m'.fp k→m.fp k∨(w.heap.size≤k∧k<w'.heap.size)):St w0 F0 (R.set i m') w':=by
  have hmR:m ∈ R:=List.mem_of_getElem? hi
  refine ⟨K.os.trans S.os,K.tape.trans S.tape,K.out.trans S.out,Nat.le_trans S.size K.size,?_,?_,?_,?_⟩
  · intro k hk hF
    refine (K.kept k (Nat.lt_of_lt_of_le hk S.size) (fun hmk=>hF ((S.inn m hmR k hmk).2 hk))).trans (S.ro k hk hF)
  · intro x hx
    obtain ⟨j,hj⟩:=List.getElem?_of_mem hx
    rcases fA hi hj with ⟨_,rfl⟩|⟨hji,hxj⟩
    · exact hm
    · exact x.stable w w' (fun k hk=>K.kept k (S.inn x (List.mem_of_getElem? hxj) k hk).1 (fun h=>S.disj j i x m hxj hi hji k hk h)) (S.res x (List.mem_of_getElem? hxj))
  · intro x hx k hk
    obtain ⟨j,hj⟩:=List.getElem?_of_mem hx
    rcases fA hi hj with ⟨_,rfl⟩|⟨hji,hxj⟩
    · rcases hf k hk with h|h
      · exact ⟨Nat.lt_of_lt_of_le (S.inn m hmR k h).1 K.size,(S.inn m hmR k h).2⟩
      · exact ⟨h.2,fun hlt=>by have:=S.size;omega⟩
    · have:=S.inn x (List.mem_of_getElem? hxj) k hk
      exact ⟨Nat.lt_of_lt_of_le this.1 K.size,this.2⟩
  · intro a b x y ha hb hab k hk hk'
    rcases fA hi ha with ⟨ea,rfl⟩|⟨hai,hxa⟩ <;> rcases fA hi hb with ⟨eb,rfl⟩|⟨hbi,hyb⟩
    · omega
    · rcases hf k hk with h|h
      · exact S.disj i b m y hi hyb (fun e=>hbi e.symm) k h hk'
      · have:=(S.inn y (List.mem_of_getElem? hyb) k hk').1;omega
    · rcases hf k hk' with h|h
      · exact S.disj a i x m hxa hi hai k hk h
      · have:=(S.inn x (List.mem_of_getElem? hxa) k hk).1;omega
    · exact S.disj a b x y hxa hyb hab k hk hk'
theorem St.updSame (S:St w0 F0 R w) {i:Nat} (hi:R[i]?=some m) (K:Keeps w w' m.fp) (hm:m'.holds w') (hf:∀ k,m'.fp k→m.fp k):St w0 F0 (R.set i m') w':=
  S.upd hi K hm fun k hk => .inl (hf k hk)
theorem St.imp (S:St w0 F0 R w) {i:Nat} (hi:R[i]?=some m) (hm:m.holds w→m'.holds w) (hf:∀ k,m'.fp k→m.fp k):St w0 F0 (R.set i m') w:=
  S.updSame hi (Keeps.refl _ _) (hm (S.holds hi)) hf
def sel:List Nat→List Mem→Option (List Mem)
  | [],_=>some []
  | k :: ks,R=>match R[k]? with
    | some m=>match sel ks R with
      | some r=>some (m::r)
      | none=>none
    | none=>none
theorem qJ:∀ {ks:List Nat} {R R':List Mem},sel ks R=some R'→∀ (i:Nat) (m:Mem),R'[i]?=some m→∃ k,ks[i]?=some k∧R[k]?=some m:=by
  intro ks
  induction ks with
  | nil=>intro R R' h i m hi;simp only [sel,Option.some.injEq] at h;subst h;simp at hi
  | cons k ks ih=>
    intro R R' h i m hi
    simp only [sel] at h
    split at h
    · rename_i m0 hm0
      split at h
      · rename_i r hr
        simp only [Option.some.injEq] at h
        subst h
        cases i with
        | zero=>simp at hi;subst hi;exact ⟨k,by simp,hm0⟩
        | succ i=>
          simp at hi
          obtain ⟨q,h1,h2⟩:=ih hr i m hi
          exact ⟨q,by simpa using h1,h2⟩
      · cases h
    · cases h
def nJ:List Nat→Bool
  | []=>true
  | k::ks=>(ks.all fun j=>!Nat.beq k j)&&nJ ks
theorem vJ:∀ {ks:List Nat},nJ ks=true→∀ (i j k:Nat),ks[i]?=some k→ks[j]?=some k→i=j:=by
  intro ks
  induction ks with
  | nil=>intro _ i j k hi;simp at hi
  | cons q ks ih=>
    intro h i j k hi hj
    simp only [nJ,Bool.and_eq_true,List.all_eq_true] at h
    cases i with
    | zero=>
      simp at hi;subst hi
      cases j with
      | zero=>rfl
      | succ j=>
        simp at hj
        have:=h.1 q (List.mem_of_getElem? hj)
        simp at this
    | succ i=>
      simp at hi
      cases j with
      | zero=>
        simp at hj;subst hj
        have:=h.1 q (List.mem_of_getElem? hi)
        simp at this
      | succ j=>
        simp at hj
        exact congrArg (·+1) (ih h.2 i j k hi hj)
theorem St.sel (S:St w0 F0 R w) (ks:List Nat) (h:Go.Proofs.YtinghmelkmblmaaGreat.sel ks R=some R') (hd:nJ ks=true):St w0 F0 R' w:=by
  refine ⟨S.os,S.tape,S.out,S.size,S.ro,?_,?_,?_⟩
  · intro m hm
    obtain ⟨i,hi⟩:=List.getElem?_of_mem hm
    obtain ⟨k,_,hk⟩:=qJ h i m hi
    exact S.res m (List.mem_of_getElem? hk)
  · intro m hm
    obtain ⟨i,hi⟩:=List.getElem?_of_mem hm
    obtain ⟨k,_,hk⟩:=qJ h i m hi
    exact S.inn m (List.mem_of_getElem? hk)
  · intro i j a b hi hj hij
    obtain ⟨k,hk,hk'⟩:=qJ h i a hi
    obtain ⟨q,hq,hq'⟩:=qJ h j b hj
    exact S.disj k q a b hk' hq' (fun e=>hij (vJ hd i j k hk (e ▸ hq)))
theorem St.callR {M:List Mem} (S:St w0 F0 (M++R) w) (S':St w (fps M) R' w'):St w0 F0 (R'++R) w':=by
  have hR:∀ x ∈ R,∀ k,x.fp k→¬ fps M k:=by
    intro x hx k hk ⟨m,hm,hmk⟩
    obtain ⟨i,hi⟩:=List.getElem?_of_mem hx
    obtain ⟨j,hj⟩:=List.getElem?_of_mem hm
    have hjl:j<M.length:=by
      rcases Nat.lt_or_ge j M.length with h|h
      · exact h
      · rw [List.getElem?_eq_none h] at hj;cases hj
    refine S.disj j (M.length+i) m x (by rw [List.getElem?_append_left hjl];exact hj) (by rw [List.getElem?_append_right (by omega)];simpa using hi) (by omega) k hmk hk
  refine ⟨S'.os.trans S.os,S'.tape.trans S.tape,S'.out.trans S.out,Nat.le_trans S.size S'.size,?_,?_,?_,?_⟩
  · intro k hk hF
    refine (S'.ro k (Nat.lt_of_lt_of_le hk S.size) ?_).trans (S.ro k hk hF)
    rintro ⟨m,hm,hmk⟩
    exact hF ((S.inn m (List.mem_append_left _ hm) k hmk).2 hk)
  · intro x hx
    rcases List.mem_append.1 hx with hx|hx
    · exact S'.res x hx
    · exact x.stable w w' (fun k hk=>S'.ro k (S.inn x (List.mem_append_right _ hx) k hk).1 (hR x hx k hk)) (S.res x (List.mem_append_right _ hx))
  · intro x hx k hk
    rcases List.mem_append.1 hx with hx|hx
    · refine ⟨(S'.inn x hx k hk).1,fun hlt=>?_⟩
      obtain ⟨m,hm,hmk⟩:=(S'.inn x hx k hk).2 (Nat.lt_of_lt_of_le hlt S.size)
      exact (S.inn m (List.mem_append_left _ hm) k hmk).2 hlt
    · have:=S.inn x (List.mem_append_right _ hx) k hk
      exact ⟨Nat.lt_of_lt_of_le this.1 S'.size,this.2⟩
  · intro i j a b hi hj hij k hk hk'
    rw [List.getElem?_append] at hi hj
    split at hi <;> split at hj
    · exact S'.disj i j a b hi hj hij k hk hk'
    · have hb:=List.mem_of_getElem? hj
      have hlt:=(S.inn b (List.mem_append_right _ hb) k hk').1
      exact hR b hb k hk' ((S'.inn a (List.mem_of_getElem? hi) k hk).2 hlt)
    · have ha:=List.mem_of_getElem? hi
      have hlt:=(S.inn a (List.mem_append_right _ ha) k hk).1
      exact hR a ha k hk ((S'.inn b (List.mem_of_getElem? hj) k hk').2 hlt)
    · rename_i h1 h2
      refine S.disj (M.length+(i-R'.length)) (M.length+(j-R'.length)) a b ?_ ?_ (by omega) k hk hk'
      · rw [List.getElem?_append_right (by omega)];simpa using hi
      · rw [List.getElem?_append_right (by omega)];simpa using hj
theorem St.call (S:St w0 F0 R w) (S':St w noF R' w'):St w0 F0 (R'++R) w':=by
  refine St.callR (M:=[]) S ⟨S'.os,S'.tape,S'.out,S'.size,fun k hk _=>S'.ro k hk (fun h=>h),S'.res,fun m hm k hk=>?_,S'.disj⟩
  have:=S'.inn m hm k hk
  exact ⟨this.1,fun h=>(this.2 h).elim⟩
end
def boxM (b:Nat) (t:TypeId) (cs:List Value):Mem where
  fp:=fun k=>k=b
  holds:=fun w=>w.heap[b]?=some (.cells cs.toArray t (0,0))
  stable:=fun _ _ h h'=>(h b rfl).trans h'
def rowM (b:Nat) (t:TypeId) (n:Nat) (f:Nat→Value):Mem where
  fp:=fun k=>k=b
  holds:=fun w=>∃ cs:Array Value,w.heap[b]?=some (.cells cs t (0,0))∧n≤cs.size∧∀ i,i<n→cs[i]?=some (f i)
  stable:=fun _ _ h ⟨cs,h1,h2⟩=>⟨cs,(h b rfl).trans h1,h2⟩
def adr (A:Option Addr):Addr:=A.getD ⟨0,0,none⟩
def pt (A:Option Addr) (sz k j:Nat):Addr:=⟨(adr A).block,(adr A).off+k*sz+j,none⟩
def ownM (e:TypeId) (sz:Nat) (A:Option Addr) (n c:Nat) (cell:Nat→Nat→Value):Mem where
  fp:=fun k=>∃ a,A=some a∧a.block=k
  holds:=fun w=>(A=none∧n=0∧c=0)∨∃ (b:Nat) (cs:Array Value),A=some ⟨b,0,none⟩∧w.heap[b]?=some (.cells cs e (0,0))∧n≤c∧c≤maxLen∧cs.size=c*sz ∧
    ∀ k j,k<n→j<sz→cs[k*sz+j]?=some (cell k j)
  stable:=fun _ _ h h'=>by
    rcases h' with h'|⟨b,cs,hA,hb,h'⟩
    · exact .inl h'
    · exact .inr ⟨b,cs,hA,(h b ⟨_,hA,rfl⟩).trans hb,h'⟩
def InS (w:World) (F:Nat→Prop) (sz:Nat) (A:Option Addr) (n:Nat) (cell:Nat→Nat→Value):Prop:=
  0<n→∃ b o,A=some ⟨b,o,none⟩∧b<w.heap.size∧¬ F b∧∀ k j,k<n→j<sz→w.cell? ⟨b,o+k*sz+j,none⟩=some (cell k j)
section
variable {w0 w w':World} {F0 F:Nat→Prop} {R:List Mem} {sz n c:Nat} {A:Option Addr} {cell:Nat→Nat→Value} {e:TypeId}
theorem InS.rd (h:InS w0 F0 sz A n cell) (S:St w0 F0 R w) {k j:Nat} (hk:k<n) (hj:j<sz):w.cell? (pt A sz k j)=some (cell k j):=by
  obtain ⟨b,o,rfl,hb,hF,hc⟩:=h (by omega)
  have:=hc k j hk hj
  rw [←this]
  exact World.cell?_of_block (w:=w0) (S.ro b hb hF)
theorem InS.adr (h:InS w0 F0 sz A n cell) (hn:0<n):A=some ⟨(adr A).block,(adr A).off,none⟩:=by
  obtain ⟨b,o,rfl,_⟩:=h hn
  rfl
theorem InS.now (h:InS w0 F0 sz A n cell) (S:St w0 F0 R w):InS w noF sz A n cell:=by
  intro hn
  obtain ⟨b,o,rfl,hb,hF,hc⟩:=h hn
  refine ⟨b,o,rfl,Nat.lt_of_lt_of_le hb S.size,fun h=>h,fun k j hk hj=>?_⟩
  rw [←hc k j hk hj]
  exact World.cell?_of_block (w:=w0) (S.ro b hb hF)
theorem ownM.rd {i k j:Nat} (S:St w0 F0 R w) (hi:R[i]?=some (ownM e sz A n c cell)) (hk:k<n) (hj:j<sz):w.cell? (pt A sz k j)=some (cell k j):=by
  rcases S.holds hi with ⟨_,h,_⟩|⟨b,cs,rfl,hb,_,_,_,hc⟩
  · omega
  · rw [←hc k j hk hj]
    have:pt (some ⟨b,0,none⟩) sz k j=⟨b,k*sz+j,none⟩:=by simp [pt,Go.Proofs.YtinghmelkmblmaaGreat.adr]
    rw [this]
    exact cell_of_row w b _ cs e (0,0) hb
theorem ownM.adr {i:Nat} (S:St w0 F0 R w) (hi:R[i]?=some (ownM e sz A n c cell)) (hn:0<n):A=some ⟨(adr A).block,(adr A).off,none⟩:=by
  rcases S.holds hi with ⟨_,h,_⟩|⟨b,cs,rfl,_⟩
  · omega
  · rfl
theorem ownM.inS {i:Nat} (S:St w0 F0 R w) (hi:R[i]?=some (ownM e sz A n c cell)):InS w noF sz A n cell:=by
  intro hn
  rcases S.holds hi with ⟨_,h,_⟩|⟨b,cs,rfl,hb,_,_,_,hc⟩
  · omega
  · refine ⟨b,0,rfl,dC hb,fun h=>h,fun k j hk hj=>?_⟩
    rw [←hc k j hk hj]
    have:=cell_of_row w b (k*sz+j) cs e (0,0) hb
    rw [Nat.zero_add]
    exact this
theorem ownM.le {i:Nat} (S:St w0 F0 R w) (hi:R[i]?=some (ownM e sz A n c cell)):n≤c∧c≤maxLen:=by
  rcases S.holds hi with ⟨_,rfl,rfl⟩|⟨b,cs,rfl,hb,h1,h2,_⟩
  · exact ⟨Nat.le_refl _,Nat.zero_le _⟩
  · exact ⟨h1,h2⟩
theorem boxM.rd {i b off:Nat} {t:TypeId} {cs:List Value} {v:Value} (S:St w0 F0 R w) (hi:R[i]?=some (boxM b t cs)) (hv:cs[off]?=some v):w.cell? ⟨b,off,none⟩=some v:=by
  rw [cell_of_row w b off cs.toArray t (0,0) (S.holds hi)]
  simpa using hv
theorem rowM.rd {i b off n:Nat} {t:TypeId} {f:Nat→Value} (S:St w0 F0 R w) (hi:R[i]?=some (rowM b t n f)) (ho:off<n):w.cell? ⟨b,off,none⟩=some (f off):=by
  obtain ⟨cs,hb,_,hc⟩:=S.holds hi
  rw [cell_of_row w b off cs t (0,0) hb]
  exact hc off ho
end
def Sz (P:Program) (t n:Nat):Prop:=(P.info? t).map (·.size)=some n
def SlT (P:Program) (t e:Nat):Prop:=P.underlying t=some (.slice e)
def FOff (P:Program) (t f off:Nat):Prop:=∃ fs fd,P.underlying t=some (.struct fs)∧fs[f]?=some fd∧fd.offset=off∧(match (P.info? fd.type).map (·.size) with|some n=>Nat.blt 0 n|none=>false)=true
def jJ (d:Option TypeDesc):Option Bool:=match d with
  | some (.struct _)=>some true
  | some (.array _ _)=>some true
  | some _=>some false
  | none=>none
def One (P:Program) (t:Nat):Prop:=jJ (P.underlying t)=some false
def Agg (P:Program) (t:Nat):Prop:=jJ (P.underlying t)=some true
section
variable {P:Program} {w:World}
theorem bU {t:TypeId} {d:TypeDesc} (h:P.underlying t=some d):(underlying t).run P w = .ok d w:=run_underlying h w
theorem Sz.run {t n:Nat} (h:Sz P t n):(sizeOf t).run P w = .ok n w:=by
  unfold Sz at h
  cases hi:P.info? t with
  | none=>rw [hi] at h;simp at h
  | some i=>rw [hi] at h;simp at h;simp [sizeOf,typeInfo,hi,h]
theorem One.run {t:Nat} (h:One P t):(isAgg t).run P w = .ok false w:=by
  unfold One at h
  cases hu:P.underlying t with
  | none=>rw [hu] at h;simp [jJ] at h
  | some d=>
    rw [hu] at h
    cases d <;> simp [jJ] at h <;> simp [isAgg,bU hu]
theorem Agg.run {t:Nat} (h:Agg P t):(isAgg t).run P w = .ok true w:=by
  unfold Agg at h
  cases hu:P.underlying t with
  | none=>rw [hu] at h;simp [jJ] at h
  | some d=>
    rw [hu] at h
    cases d <;> simp [jJ] at h <;> simp [isAgg,bU hu]
theorem Fb {t:Nat} {a:Addr} {v:Value} (h1:One P t) (h:w.cell? a=some v):(Instr.loadAt t (.pointer (some a))).run P w = .ok v w:=by
  simp [Instr.loadAt,Instr.sureAddr,loadVar,h1.run,load,Sem.run,h]
theorem iN (b o n:Nat):(⟨b,o,none⟩:Addr).add n=⟨b,o+n,none⟩:=by
  unfold Addr.add;split <;> simp_all
theorem iB {t:Nat} {b o:Nat} {vs:List Value} (h1:Agg P t) (hs:Sz P t vs.length) (h:∀ (j:Nat) v,vs[j]?=some v→w.cell? ⟨b,o+j,none⟩=some v) :
    (Instr.loadAt t (.pointer (some ⟨b,o,none⟩))).run P w = .ok (.agg vs.toArray) w:=by
  have hl:=run_loadCells_list (P:=P) w ⟨b,o,none⟩ vs (fun j v hv=>by rw [iN];exact h j v hv)
  simp [Instr.loadAt,Instr.sureAddr,loadVar,h1.run,hs.run,hl]
theorem xT {t f off b o:Nat} (h:FOff P t f off):(Instr.fieldAt t (.pointer (some ⟨b,o,none⟩)) f).run P w = .ok (.pointer (some ⟨b,o+off,none⟩)) w:=by
  obtain ⟨fs,fd,hu,hf,rfl,hn⟩:=h
  cases hi:P.info? fd.type with
  | none=>rw [hi] at hn;simp at hn
  | some i=>
    rw [hi] at hn
    simp at hn
    have hne:i.size≠0:=by omega
    simp [Instr.fieldAt,bU hu,hf,Instr.sureAddr,fieldPlace,sizeOf,typeInfo,hi,hne,iN]
end
section
variable {P:Program} {L:List (Nat×Value)} {w:World} {ty:TypeId} {pos:String} {af:Array Edge} {d:Option Nat} {g:Option (Nat×Bool)}
theorem aL {x:Operand} {v:Value} (h:ev L x=some v):Does P L ⟨d,.move x,ty,pos,af,g⟩ w v:=fun ρ hρ=>by
  simp [execOp,hρ x v h]
theorem bE {x:Operand} {v:Value} (h:ev L x=some v):Does P L ⟨d,.assign x,ty,pos,af,g⟩ w v:=fun ρ hρ=>by
  simp [execOp,hρ x v h]
theorem aS {c x y:Operand} {b:Bool} {u v:Value} (hc:ev L c=some (.bool b)) (hx:ev L x=some u) (hy:ev L y=some v):Does P L ⟨d,.pick c x y,ty,pos,af,g⟩ w (bif b then u else v):=fun ρ hρ=>by
  simp only [execOp,hρ _ _ hc,hρ _ _ hx,hρ _ _ hy]
  cases b <;> simp [asBool]
def i64ok (n:Int):Prop := -9223372036854775808≤n∧n≤9223372036854775807
theorem i64ok.eq {n:Int} (h:i64ok n):IntKind.i64.wrap n=n:=IntWalk.i64_in _ h
theorem aK {x y:Operand} {xt yt:TypeId} {m n:Int} (hx:ev L x=some (.int .i64 m)) (hy:ev L y=some (.int .i64 n)) (h:i64ok (m+n)) :
    Does P L ⟨d,.binOp .add xt x y yt,ty,pos,af,g⟩ w (.int .i64 (m+n)):=fun ρ hρ=>by
  simp [execOp,hρ _ _ hx,hρ _ _ hy,eqGuard,binOp,Op.intArith,h.eq]
theorem aR {x y:Operand} {xt yt:TypeId} {m n:Int} (hx:ev L x=some (.int .i64 m)) (hy:ev L y=some (.int .i64 n)) (h:i64ok (m-n)) :
    Does P L ⟨d,.binOp .sub xt x y yt,ty,pos,af,g⟩ w (.int .i64 (m-n)):=fun ρ hρ=>by
  simp [execOp,hρ _ _ hx,hρ _ _ hy,eqGuard,binOp,Op.intArith,h.eq]
theorem jN {x y:Operand} {xt yt:TypeId} {m n:Int} (hx:ev L x=some (.int .i64 m)) (hy:ev L y=some (.int .i64 n)) (h:i64ok (m*n)) :
    Does P L ⟨d,.binOp .mul xt x y yt,ty,pos,af,g⟩ w (.int .i64 (m*n)):=fun ρ hρ=>by
  simp [execOp,hρ _ _ hx,hρ _ _ hy,eqGuard,binOp,Op.intArith,h.eq]
theorem cY {x y:Operand} {xt yt:TypeId} {k:IntKind} {m n:Int} (hx:ev L x=some (.int k m)) (hy:ev L y=some (.int k n)) :
    Does P L ⟨d,.binOp .lss xt x y yt,ty,pos,af,g⟩ w (.bool (decide (m<n))):=fun ρ hρ=>by
  simp [execOp,hρ _ _ hx,hρ _ _ hy,eqGuard,binOp,Op.intCmp]
theorem Iw {x y:Operand} {xt yt:TypeId} {k:IntKind} {m n:Int} (hx:ev L x=some (.int k m)) (hy:ev L y=some (.int k n)) :
    Does P L ⟨d,.binOp .leq xt x y yt,ty,pos,af,g⟩ w (.bool (decide (m≤n))):=fun ρ hρ=>by
  simp [execOp,hρ _ _ hx,hρ _ _ hy,eqGuard,binOp,Op.intCmp]
theorem bX {x y:Operand} {xt yt:TypeId} {k:IntKind} {m n:Int} (hx:ev L x=some (.int k m)) (hy:ev L y=some (.int k n)) :
    Does P L ⟨d,.binOp .gtr xt x y yt,ty,pos,af,g⟩ w (.bool (decide (n<m))):=fun ρ hρ=>by
  simp [execOp,hρ _ _ hx,hρ _ _ hy,eqGuard,binOp,Op.intCmp]
theorem qY {x y:Operand} {xt yt:TypeId} {k:IntKind} {m n:Int} (hx:ev L x=some (.int k m)) (hy:ev L y=some (.int k n)) :
    Does P L ⟨d,.binOp .geq xt x y yt,ty,pos,af,g⟩ w (.bool (decide (n≤m))):=fun ρ hρ=>by
  simp [execOp,hρ _ _ hx,hρ _ _ hy,eqGuard,binOp,Op.intCmp]
theorem kU {x y:Operand} {xt yt:TypeId} {k:IntKind} {m n:Int} (hx:ev L x=some (.int k m)) (hy:ev L y=some (.int k n)) :
    Does P L ⟨d,.binOp .eql xt x y yt,ty,pos,af,g⟩ w (.bool (decide (m=n))):=fun ρ hρ=>by
  simp [execOp,hρ _ _ hx,hρ _ _ hy,eqGuard,binOp,Op.intCmp]
  exact Bool.eq_iff_iff.2 (by simp)
theorem Ix {x y:Operand} {xt yt:TypeId} {k:IntKind} {m n:Int} (hx:ev L x=some (.int k m)) (hy:ev L y=some (.int k n)) :
    Does P L ⟨d,.binOp .neq xt x y yt,ty,pos,af,g⟩ w (.bool (!decide (m=n))):=fun ρ hρ=>by
  simp [execOp,hρ _ _ hx,hρ _ _ hy,eqGuard,binOp,Op.intCmp]
  exact Bool.eq_iff_iff.2 (by simp)
theorem xU {xt:TypeId} (hu:P.underlying xt=some .bool) (d:Nat) (m n:Bool):(Op.equalIn (d+1) xt (.bool m) (.bool n)).run P w = .ok (m == n) w:=by
  simp [Op.equalIn,bU hu]
theorem Iy {xt:TypeId} (hu:P.underlying xt=some .bool) (m n:Bool):(binOp .eql xt (.bool m) (.bool n)).run P w = .ok (.bool (m == n)) w:=by
  simp only [binOp]
  simp [Op.equal,Op.maxDepth,xU hu 9999 m n]
theorem Fc {xt:TypeId} (hu:P.underlying xt=some .bool) (m n:Bool):(binOp .neq xt (.bool m) (.bool n)).run P w = .ok (.bool (!(m == n))) w:=by
  simp only [binOp]
  simp [Op.equal,Op.maxDepth,xU hu 9999 m n]
theorem Ss (op:BinOp) (t:TypeId) (x y:Operand) (m n:Bool):(eqGuard op t x y (.bool m) (.bool n)).run P w = .ok () w:=by
  unfold eqGuard;split <;> simp
theorem Fd {x y:Operand} {xt yt:TypeId} {m n:Bool} (hu:P.underlying xt=some .bool) (hx:ev L x=some (.bool m)) (hy:ev L y=some (.bool n)) :
    Does P L ⟨d,.binOp .eql xt x y yt,ty,pos,af,g⟩ w (.bool (m == n)):=fun ρ hρ=>by
  simp only [execOp,hρ _ _ hx,hρ _ _ hy]
  simp [Ss,Iy hu]
theorem uI {x y:Operand} {xt yt:TypeId} {m n:Bool} (hu:P.underlying xt=some .bool) (hx:ev L x=some (.bool m)) (hy:ev L y=some (.bool n)) :
    Does P L ⟨d,.binOp .neq xt x y yt,ty,pos,af,g⟩ w (.bool (!(m == n))):=fun ρ hρ=>by
  simp only [execOp,hρ _ _ hx,hρ _ _ hy]
  simp [Ss,Fc hu]
theorem cP {x:Operand} {xt:TypeId} {b:Bool} (hx:ev L x=some (.bool b)):Does P L ⟨d,.unOp .not xt x,ty,pos,af,g⟩ w (.bool (!b)):=fun ρ hρ=>by
  simp [execOp,hρ _ _ hx,Op.unary]
theorem iC {x:Operand} {xt:TypeId} {n:Int} (hx:ev L x=some (.int .i64 n)) (h:i64ok (-n)):Does P L ⟨d,.unOp .neg xt x,ty,pos,af,g⟩ w (.int .i64 (-n)):=fun ρ hρ=>by
  have:=h.eq
  simp [execOp,hρ _ _ hx,Op.unary,Op.intArith]
  exact this
theorem aD {x:Operand} {t f off b o:Nat} (h:FOff P t f off) (hx:ev L x=some (.pointer (some ⟨b,o,none⟩))):Does P L ⟨d,.fieldAddr t x f,ty,pos,af,g⟩ w (.pointer (some ⟨b,o+off,none⟩)):=fun ρ hρ=>by
  simp [execOp,hρ _ _ hx,xT h]
theorem bI {x:Operand} {t f off sz k j:Nat} {A:Option Addr} (h:FOff P t f off) (hx:ev L x=some (.pointer (some (pt A sz k j)))):Does P L ⟨d,.fieldAddr t x f,ty,pos,af,g⟩ w (.pointer (some (pt A sz k (j+off)))):=
  (by have:=aD (P:=P) (L:=L) (w:=w) (ty:=ty) (pos:=pos) (af:=af) (d:=d) (g:=g) h hx;rw [Nat.add_assoc] at this;exact this)
theorem aG {x:Operand} {t:Nat} {a:Addr} {v:Value} (h1:One P t) (hx:ev L x=some (.pointer (some a))) (h:w.cell? a=some v):Does P L ⟨d,.load t x,ty,pos,af,g⟩ w v:=fun ρ hρ=>by
  simp [execOp,hρ _ _ hx,Fb h1 h]
theorem cC {x:Operand} {t b o:Nat} {vs:List Value} (h1:Agg P t) (hs:Sz P t vs.length) (hx:ev L x=some (.pointer (some ⟨b,o,none⟩))) (h:∀ (j:Nat) v,vs[j]?=some v→w.cell? ⟨b,o+j,none⟩=some v) :
    Does P L ⟨d,.load t x,ty,pos,af,g⟩ w (.agg vs.toArray):=fun ρ hρ=>by
  simp [execOp,hρ _ _ hx,iB h1 hs h]
theorem xV {t e sz:Nat} {A:Option Addr} {n c:Nat} {k:IntKind} {i:Int} (ht:SlT P t e) (hs:Sz P e sz) (hA:A=some ⟨(adr A).block,(adr A).off,none⟩) (h0:0≤i) (hn:i<n) :
    (Instr.indexAt t (.slice A n c) (.int k i)).run P w = .ok (.pointer (some (pt A sz i.toNat 0))) w:=by
  generalize adr A=a at hA
  subst hA
  have e1:(⟨a.block,a.off,none⟩:Addr).add (i.toNat*sz)=⟨a.block,a.off+i.toNat*sz,none⟩:=iN _ _ _
  simp [Instr.indexAt,asIntOf,bU ht,h0,hn,hs.run,e1,pt,adr]
theorem bV {x i:Operand} {t e sz:Nat} {A:Option Addr} {n c:Nat} {k:IntKind} {j:Int} (ht:SlT P t e) (hs:Sz P e sz) (hx:ev L x=some (.slice A n c)) (hi:ev L i=some (.int k j))
    (hA:A=some ⟨(adr A).block,(adr A).off,none⟩) (h0:0≤j) (hn:j<n):Does P L ⟨d,.indexAddr t x i,ty,pos,af,g⟩ w (.pointer (some (pt A sz j.toNat 0))):=fun ρ hρ=>by
  simp [execOp,hρ _ _ hx,hρ _ _ hi,xV ht hs hA h0 hn]
theorem bP {x i:Operand} {t e sz:Nat} {A:Option Addr} {n c:Nat} {k:IntKind} {j:Nat} (ht:SlT P t e) (hs:Sz P e sz) (hx:ev L x=some (.slice A n c)) (hi:ev L i=some (.int k (j:Int)))
    (hA:A=some ⟨(adr A).block,(adr A).off,none⟩) (hn:j<n):Does P L ⟨d,.indexAddr t x i,ty,pos,af,g⟩ w (.pointer (some (pt A sz j 0))):=by
  have:=bV (P:=P) (L:=L) (w:=w) (ty:=ty) (pos:=pos) (af:=af) (d:=d) (g:=g) ht hs hx hi hA (by omega) (by omega)
  simpa using this
theorem cH {x:Operand} {t e:Nat} {A:Option Addr} {n c:Nat} (ht:SlT P t e) (hx:ev L x=some (.slice A n c)) :
    Does P L ⟨d,.call ⟨.builtin .len,#[x],#[t]⟩,ty,pos,af,g⟩ w (.int .i64 (n:Int)):=fun ρ hρ=>by
  simp [execOp,resolve,hρ _ _ hx,invoke,builtin,Builtin.len_,bU ht,goInt]
theorem qZ {x y:Operand} {s t:Nat} {k:IntKind} {m n:Int} (hx:ev L x=some (.int k m)) (hy:ev L y=some (.int k n)) :
    Does P L ⟨d,.call ⟨.builtin .min,#[x,y],#[s,t]⟩,ty,pos,af,g⟩ w (.int k (min m n)):=fun ρ hρ=>by
  have e:(if n<m then n else m)=min m n:=by omega
  simp [execOp,resolve,hρ _ _ hx,hρ _ _ hy,invoke,builtin,Builtin.min_,Builtin.min2,e]
theorem kV {x y:Operand} {s t:Nat} {k:IntKind} {m n:Int} (hx:ev L x=some (.int k m)) (hy:ev L y=some (.int k n)) :
    Does P L ⟨d,.call ⟨.builtin .max,#[x,y],#[s,t]⟩,ty,pos,af,g⟩ w (.int k (max m n)):=fun ρ hρ=>by
  have e:(if n > m then n else m)=max m n:=by omega
  simp [execOp,resolve,hρ _ _ hx,hρ _ _ hy,invoke,builtin,Builtin.max_,Builtin.max2]
  try omega
theorem aQ {x:Operand} {i:Nat} {vs:Array Value} {v:Value} (hx:ev L x=some (.tuple vs)) (h:vs[i]?=some v):Does P L ⟨d,.extract x i,ty,pos,af,g⟩ w v:=fun ρ hρ=>by
  simp [execOp,hρ _ _ hx,Instr.extract,h]
theorem uB {fn:Fn} {xs ys:Array Operand} {us vs:List Value} (hx:evs L xs.toList=some us) (hy:evs L ys.toList=some vs):Does P L ⟨d,.makeFunc fn xs ys,ty,pos,af,g⟩ w (.func fn us.toArray vs.toArray):=fun ρ hρ=>by
  have key:∀ (zs:List Operand) (us:List Value),evs L zs=some us→zs.map ρ=us:=by
    intro zs
    induction zs with
    | nil=>intro us h;simp only [evs,Option.some.injEq] at h;subst h;rfl
    | cons z zs ih=>
      intro us h
      simp only [evs] at h
      split at h
      · rename_i v hv
        split at h
        · rename_i us' hus
          simp only [Option.some.injEq] at h
          subst h
          simp only [List.map_cons,hρ _ _ hv,ih _ hus]
        · cases h
      · cases h
  have e1:xs.map ρ=us.toArray:=by rw [←key _ _ hx,←Array.toList_map,Array.toArray_toList]
  have e2:ys.map ρ=vs.toArray:=by rw [←key _ _ hy,←Array.toList_map,Array.toArray_toList]
  simp [execOp,Instr.makeFunc,e1,e2]
end
theorem Does.to {P:Program} {L:List (Nat×Value)} {o:Oper} {w:World} {v v':Value} (h:Does P L o w v) (e:v=v'):Does P L o w v':=e ▸ h
section
variable {P:Program} {L:List (Nat×Value)} {w:World} {d:Option Nat} {ty:TypeId} {pos:String} {af:Array Edge} {g:Option (Nat×Bool)}
theorem iD {x y:Operand} {xt yt:TypeId} {k:IntKind} {m n:Int} (hx:ev L x=some (.int .i64 m)) (hy:ev L y=some (.int k n)) (h0:0≤n) (h1:n<64) :
    Does P L ⟨d,.binOp .shr xt x y yt,ty,pos,af,g⟩ w (.int .i64 (m/2^n.toNat)):=fun ρ hρ=>by
  have e:min n.toNat 64=n.toNat:=by omega
  have hm:m.fdiv (2^n.toNat)=m/2^n.toNat:=Int.fdiv_eq_ediv_of_nonneg _ (Int.le_of_lt (Int.pow_pos (by decide)))
  simp [execOp,hρ _ _ hx,hρ _ _ hy,eqGuard,binOp,Op.shift,IntKind.bits,show ¬ n<0 by omega,e,hm]
theorem eR {x y:Operand} {xt yt:TypeId} {k:IntKind} {m n:Int} (hx:ev L x=some (.int .i64 m)) (hy:ev L y=some (.int k n)) (h0:0≤n) (h1:n<64) (h:i64ok (m*2^n.toNat)) :
    Does P L ⟨d,.binOp .shl xt x y yt,ty,pos,af,g⟩ w (.int .i64 (m*2^n.toNat)):=fun ρ hρ=>by
  have e:min n.toNat 64=n.toNat:=by omega
  simp [execOp,hρ _ _ hx,hρ _ _ hy,eqGuard,binOp,Op.shift,IntKind.bits,show ¬ n<0 by omega,e,h.eq]
theorem Of (m:Int):IntKind.i64.wrap ((BitVec.ofInt 64 m &&& BitVec.ofInt 64 1).toNat:Int)=m%2:=by
  have e:((BitVec.ofInt 64 m &&& BitVec.ofInt 64 1).toNat:Int)=m%2:=by
    rw [BitVec.toNat_and,show (BitVec.ofInt 64 1).toNat=1 from rfl,Nat.and_one_is_mod,BitVec.toNat_ofInt]
    omega
  rw [e]
  exact i64ok.eq ⟨by omega,by omega⟩
theorem fX {x y:Operand} {xt yt:TypeId} {m:Int} (hx:ev L x=some (.int .i64 m)) (hy:ev L y=some (.int .i64 1)) :
    Does P L ⟨d,.binOp .and xt x y yt,ty,pos,af,g⟩ w (.int .i64 (m%2)):=fun ρ hρ=>by
  have e:Op.intBits .and .i64 m 1=pure (.int .i64 (m%2)):=congrArg (fun z=>(pure (Value.int .i64 z):Sem Value)) (Of m)
  simp [execOp,hρ _ _ hx,hρ _ _ hy,eqGuard,binOp,e]
theorem Fe {x y:Operand} {xt yt:TypeId} {m n:Int} (hx:ev L x=some (.int .i64 m)) (hy:ev L y=some (.int .i64 n)) (hn:n≠0) (h:i64ok (m.tdiv n)) :
    Does P L ⟨d,.binOp .quo xt x y yt,ty,pos,af,g⟩ w (.int .i64 (m.tdiv n)):=fun ρ hρ=>by
  simp [execOp,hρ _ _ hx,hρ _ _ hy,eqGuard,binOp,Op.intDiv,hn,h.eq]
theorem Ff {x y:Operand} {xt yt:TypeId} {m n:Int} (hx:ev L x=some (.int .i64 m)) (hy:ev L y=some (.int .i64 n)) (hn:n≠0) :
    Does P L ⟨d,.binOp .rem xt x y yt,ty,pos,af,g⟩ w (.int .i64 (m.tmod n)):=fun ρ hρ=>by
  simp [execOp,hρ _ _ hx,hρ _ _ hy,eqGuard,binOp,Op.intDiv,hn]
theorem Og {m n:Int} (hm:i64ok m) (hn:0<n):i64ok (m.tdiv n):=by
  have h:=Int.mul_tdiv_add_tmod m n
  unfold i64ok at *
  rcases Int.le_total 0 m with h0|h0
  · rw [Int.tdiv_eq_ediv_of_nonneg h0]
    have:=Int.ediv_nonneg h0 (Int.le_of_lt hn)
    have:=Int.ediv_le_self n h0
    omega
  · obtain ⟨k,rfl⟩:∃ k:Int,m = -k:=⟨-m,by omega⟩
    rw [Int.neg_tdiv,Int.tdiv_eq_ediv_of_nonneg (by omega)]
    have:=Int.ediv_nonneg (show 0≤k by omega) (Int.le_of_lt hn)
    have:=Int.ediv_le_self n (show 0≤k by omega)
    omega
theorem Iz {m n:Int} (hn:0<n):(if m.tmod n<0 then m.tdiv n-1 else m.tdiv n)=m/n:=by
  have h:=Int.mul_tdiv_add_tmod m n
  have h1:=Int.tmod_lt_of_pos m hn
  have h2 : -n<m.tmod n:=Int.lt_tmod_of_pos m hn
  generalize m.tdiv n=q at h ⊢
  generalize m.tmod n=r at h h1 h2 ⊢
  symm
  split
  · exact ((Int.ediv_emod_unique (a:=m) (r:=r+n) (q:=q-1) hn).2 ⟨by rw [Int.mul_sub];omega,by omega,by omega⟩).1
  · exact ((Int.ediv_emod_unique (a:=m) (r:=r) (q:=q) hn).2 ⟨by omega,by omega,by omega⟩).1
theorem cN {x:Operand} {a:Addr} (hx:ev L x=some (.pointer (some a))):Does P L ⟨d,.nilCheck x,ty,pos,af,g⟩ w (.pointer (some a)):=fun ρ hρ=>by
  simp [execOp,hρ _ _ hx]
end
section
variable {P:Program} {ops:Array Oper} {w:World} {Q:Exit→Act→World→Prop} {Qs:Act→Prop} {rest l:List Oper} {N:FN} {L:List (Nat×Value)} {a:Act} {ty:TypeId} {pos:String} {af:Array Edge} {op:Op} {o:Oper}
theorem fJ:∀ (l1:List Oper) (l2:List Oper) (a:Act),wpStill P ops w (fun a'=>wpList P ops Q l2 a' w) l1 a→wpList P ops Q (l1++l2) a w:=by
  intro l1
  induction l1 with
  | nil=>intro l2 a h;exact h
  | cons o l1 ih=>
    intro l2 a h
    simp only [wpStill] at h
    refine wpList_step fun K hK=>?_
    split
    · rename_i hw
      rw [if_pos hw] at h
      exact Oper.wp_of_still (fun a' ha'=>hK _ _ (ih l2 a' ha')) h
    · rename_i hw
      rw [if_neg hw] at h
      exact hK _ _ (ih l2 _ h)
theorem rA (m:Nat) (h:wpStill P ops w (fun a'=>wpList P ops Q (l.drop m) a' w) (l.take m) a):wpList P ops Q l a w:=by
  have:=fJ (P:=P) (ops:=ops) (Q:=Q) (l.take m) (l.drop m) a h
  rwa [List.take_append_drop] at this
theorem uJ {d:Option Nat} {i g:Nat} {b c:Bool} (H:Fr N L a) (hg:(ops[i]?).bind (·.dst)=some g) (hc:look L g=some (.bool c)) (hne:(c == b)=false) :
    Region.wanted ⟨d,op,ty,pos,af,some (i,b)⟩ (yielded ops a.tmps)=false:=by
  simp only [Region.wanted,yielded,hg,Option.bind_some,H.at_ g _ hc]
  cases b <;> cases c <;> simp_all
theorem rB {d:Option Nat} {i g:Nat} {b:Bool} (H:Fr N L a) (hg:(ops[i]?).bind (·.dst)=some g) (hb:look L g=some (.bool b)) :
    Region.wanted ⟨d,op,ty,pos,af,some (i,b)⟩ (yielded ops a.tmps)=true:=by
  simp only [Region.wanted,yielded,hg,Option.bind_some,H.at_ g _ hb]
  simp
theorem aX {d:Option Nat} {i g:Nat} {b:Bool} (H:Fr N L a) (hg:(ops[i]?).bind (·.dst)=some g) (hb:look L g=some (.bool b))
    (k:wpList P ops Q (⟨d,op,ty,pos,af,none⟩::rest) a w):wpList P ops Q (⟨d,op,ty,pos,af,some (i,b)⟩::rest) a w:=by
  unfold wpList at k ⊢
  rw [if_pos (rB H hg hb)]
  simpa [Region.wanted,Oper.wp,Oper.upon,Oper.asks,execOp] using k
theorem Ja {d:Nat} {i g:Nat} {b c:Bool} (H:Fr N L a) (hg:(ops[i]?).bind (·.dst)=some g) (hc:look L g=some (.bool c)) (hne:(c == b)=false) (hd:Nat.blt d N.n=true)
    (k:∀ a',Fr N ((d,undef)::L) a'→wpStill P ops w Qs rest a'):wpStill P ops w Qs (⟨some d,op,ty,pos,af,some (i,b)⟩::rest) a:=by
  unfold wpStill
  rw [if_neg (by rw [uJ H hg hc hne];simp)]
  exact k _ (H.put _ hd)
theorem An {d:Option Nat} {i g:Nat} {b c:Bool} (H:Fr N L a) (hg:(ops[i]?).bind (·.dst)=some g) (hc:look L g=some (.bool c)) (e:c=b)
    (k:wpStill P ops w Qs (⟨d,op,ty,pos,af,none⟩::rest) a):wpStill P ops w Qs (⟨d,op,ty,pos,af,some (i,b)⟩::rest) a:=by
  subst e
  exact Fa H hg hc k
def gv (c b:Bool) (v:Value):Value:=bif c == b then v else undef
def skips (ops:Array Oper) (i g:Nat) (b:Bool):List Nat→List Oper→Bool
  | _,[]=>true
  | U,o::l=>(match o.guard with
      | some (j,b')=>(Nat.beq j i&&(b' == b))||(match (ops[j]?).bind (·.dst) with|some s=>U.any (Nat.beq s)|none=>false)
      | none=>false)&&(match o.dst with|some d=>!(Nat.beq d g)&&skips ops i g b (d::U) l|none=>skips ops i g b U l)
def clean (L:List (Nat×Value)):List Oper→Bool
  | []=>true
  | o :: l=>(match o.dst with
      | some d=>(match look L d with|none=>true|some _=>false)
      | none=>true)&&clean L l
def kW (t:Nat):List Oper→Bool
  | []=>false
  | o::l=>(match o.dst with|some d=>Nat.beq d t|none=>false)||kW t l
theorem Fr.put_clean (H:Fr N L a) {d:Nat} (v:Value) (hd:look L d=none):Fr N L (a.put (some d) v):=by
  refine ⟨by simp [Act.put,H.size],H.defs,fun t u h=>?_⟩
  have hne:d≠t:=by intro e;subst e;rw [hd] at h;cases h
  simp only [Act.put]
  rw [Array.getElem?_setIfInBounds_ne hne]
  exact H.at_ t u h
theorem rC {i:Nat} {b:Bool} {d:Option Nat} (h:∀ s,(ops[i]?).bind (·.dst)=some s→∀ q,a.tmps[s]?=some (.bool q)→q≠b) :
    Region.wanted ⟨d,op,ty,pos,af,some (i,b)⟩ (yielded ops a.tmps)=false:=by
  simp only [Region.wanted,yielded]
  cases hs:(ops[i]?).bind (·.dst) with
  | none=>simp
  | some s=>
    simp only [Option.bind_some]
    cases hv:a.tmps[s]? with
    | none=>simp
    | some v=>
      cases v with
      | bool q=>have:=h s hs q hv;simp;exact fun e=>this e
      | _=>simp
theorem rD {i g:Nat} {b c:Bool} (hg:(ops[i]?).bind (·.dst)=some g) (hcb:c≠b) :
    ∀ (l:List Oper) (U:List Nat) (a:Act),Fr N L a→a.tmps[g]?=some (.bool c)→(∀ s ∈ U,s<N.n→a.tmps[s]?=some undef) →
      skips ops i g b U l=true→clean L l=true →
      (∀ a',Fr N L a'→(∀ s,(s ∈ U∨kW s l=true)→s<N.n→a'.tmps[s]?=some undef)→Qs a') →
      wpStill P ops w Qs l a:=by
  intro l
  induction l with
  | nil=>intro U a H _ hU _ _ k;exact k a H (fun s hs hlt=>hU s (by simpa [kW] using hs) hlt)
  | cons o l ih=>
    intro U a H hgc hU hs hcl k
    obtain ⟨d,op,ty,pos,af,gd⟩:=o
    simp only [skips,Bool.and_eq_true] at hs
    simp only [clean,Bool.and_eq_true] at hcl
    obtain ⟨hs1,hs2⟩:=hs
    have hw : Region.wanted ⟨d,op,ty,pos,af,gd⟩ (yielded ops a.tmps)=false:=by
      cases gd with
      | none=>simp at hs1
      | some p=>
        obtain ⟨j,b'⟩:=p
        refine rC fun s hsj q hq=>?_
        simp only [Bool.or_eq_true,Bool.and_eq_true] at hs1
        rcases hs1 with ⟨h1,h2⟩|h1
        · have:=Nat.eq_of_beq_eq_true h1
          subst this
          rw [hg,Option.some.injEq] at hsj
          subst hsj
          rw [hgc] at hq
          simp at hq h2
          subst hq;subst h2
          exact hcb
        · rw [hsj] at h1
          simp only [List.any_eq_true] at h1
          obtain ⟨u,hu,he⟩:=h1
          have:=Nat.eq_of_beq_eq_true he
          subst this
          have hlt:s<N.n:=by
            have:=(Array.getElem?_eq_some_iff.1 hq).1
            rw [H.size] at this
            exact this
          rw [hU s hu hlt] at hq
          simp [undef] at hq
    unfold wpStill
    rw [if_neg (by rw [hw];simp)]
    cases d with
    | none=>
      refine ih U _ H hgc hU hs2 hcl.2 fun a' H' h'=>k a' H' fun s hs hlt=>h' s ?_ hlt
      simpa [kW] using hs
    | some d=>
      simp only [Bool.and_eq_true,Bool.not_eq_true'] at hs2
      have hdg:d≠g:=fun e=>by subst e;simp at hs2
      have hld:look L d=none:=by
        cases hl:look L d with
        | none=>rfl
        | some v=>have h0:=hcl.1;simp only [hl] at h0;exact absurd h0 (by simp)
      refine ih (d::U) (a.put (some d) undef) (H.put_clean undef hld) ?_ ?_ hs2.2 hcl.2 ?_
      · simp only [Act.put]
        rw [Array.getElem?_setIfInBounds_ne hdg]
        exact hgc
      · intro s hs hlt
        simp only [Act.put]
        by_cases e:d=s
        · subst e
          simp [H.size,hlt]
        · rw [Array.getElem?_setIfInBounds_ne e]
          rcases List.mem_cons.1 hs with h|h
          · exact absurd h.symm e
          · exact hU s h hlt
      · intro a' H' h'
        refine k a' H' fun s hs hlt=>h' s ?_ hlt
        rcases hs with hs|hs
        · exact .inl (List.mem_cons_of_mem _ hs)
        · simp only [kW,Bool.or_eq_true] at hs
          rcases hs with hs|hs
          · have:=Nat.eq_of_beq_eq_true hs
            subst this
            exact .inl (List.mem_cons_self ..)
          · exact .inr hs
theorem gE {Q1 Q2:Act→Prop} (h:∀ a,Q1 a→Q2 a):∀ (l:List Oper) (a:Act),wpStill P ops w Q1 l a→wpStill P ops w Q2 l a:=by
  intro l
  induction l with
  | nil=>intro a h1;exact h a h1
  | cons o l ih=>
    intro a h1
    unfold wpStill at h1 ⊢
    split
    · rename_i hw;rw [if_pos hw] at h1;exact Oper.still_mono (fun a ha=>ih a ha) h1
    · rename_i hw;rw [if_neg hw] at h1;exact ih _ h1
theorem rE {l2:List Oper}:∀ (l1:List Oper) (a:Act),wpStill P ops w (wpStill P ops w Qs l2) l1 a→wpStill P ops w Qs (l1++l2) a:=by
  intro l1
  induction l1 with
  | nil=>intro a h;exact h
  | cons o l1 ih=>
    intro a h
    simp only [List.cons_append]
    unfold wpStill at h ⊢
    split
    · rename_i hw;rw [if_pos hw] at h;exact Oper.still_mono (fun a ha=>ih a ha) h
    · rename_i hw;rw [if_neg hw] at h;exact ih _ h
theorem xW {i g t:Nat} {b c:Bool} {v:Value} (m:Nat) (H:Fr N L a) (hg:(ops[i]?).bind (·.dst)=some g) (hc:look L g=some (.bool c))
    (hs:skips ops i g b [] (l.take m)=true) (hw:kW t (l.take m)=true) (hcl:clean L (l.take m)=true) (ht:Nat.blt t N.n=true)
    (h1:c=b→wpStill P ops w (fun a'=>Fr N ((t,v)::L) a') (l.take m) a)
    (k:∀ a',Fr N ((t,gv c b v)::L) a'→wpStill P ops w Qs (l.drop m) a'):wpStill P ops w Qs l a:=by
  have key:wpStill P ops w (wpStill P ops w Qs (l.drop m)) (l.take m) a:=by
    by_cases e:c=b
    · refine gE (fun a' ha'=>k a' ?_) _ _ (h1 e)
      simpa [gv,e] using ha'
    · refine rD hg e (l.take m) [] a H (H.at_ _ _ hc) (by simp) hs hcl fun a' H' h'=>k a' ?_
      have hlt:t<N.n:=by simpa using ht
      have:=h' t (.inr hw) hlt
      refine ⟨H'.size,H'.defs,fun s u hu=>?_⟩
      simp only [look] at hu
      cases hb:Nat.beq t s
      · rw [hb] at hu;exact H'.at_ s u hu
      · rw [hb] at hu
        have:=Nat.eq_of_beq_eq_true hb
        subst this
        simp only [cond_true,Option.some.injEq] at hu
        subst hu
        have e':(c == b)=false:=by simpa using e
        simpa [gv,e'] using this
  have:=rE (P:=P) (ops:=ops) (w:=w) (Qs:=Qs) (l2:=l.drop m) (l.take m) a key
  rwa [List.take_append_drop] at this
theorem aW {d:Option Nat} {g:Option (Nat×Bool)} {c x y:Operand} {b r:Bool} (hc:ev L c=some (.bool b)) (hx:ev L x=some (.bool true)) (hy:ev L y=some (gv b false (.bool r))) :
    Does P L ⟨d,.pick c x y,ty,pos,af,g⟩ w (.bool (b||r)):=fun ρ hρ=>by
  simp only [execOp,hρ _ _ hc,hρ _ _ hx,hρ _ _ hy]
  cases b <;> simp [asBool,gv]
theorem iR {d:Option Nat} {g:Option (Nat×Bool)} {c x y:Operand} {b r:Bool} (hc:ev L c=some (.bool b)) (hx:ev L x=some (gv b true (.bool r))) (hy:ev L y=some (.bool false)) :
    Does P L ⟨d,.pick c x y,ty,pos,af,g⟩ w (.bool (b&&r)):=fun ρ hρ=>by
  simp only [execOp,hρ _ _ hc,hρ _ _ hx,hρ _ _ hy]
  cases b <;> simp [asBool,gv]
def rF:Nat→List (Nat×Value)→Bool
  | 0,_=>true
  | _+1,[]=>true
  | k+1,(t,_)::L=>(match look (L.drop k) t with|none=>true|some _=>false)&&rF k L
theorem Ao:∀ (k:Nat) (X:List (Nat×Value)),rF k X=true→∀ t v,look (X.drop k) t=some v→look X t=some v:=by
  intro k
  induction k with
  | zero=>intro X _ t v h;simpa using h
  | succ k ih=>
    intro X hc t v h
    cases X with
    | nil=>simpa using h
    | cons p X=>
      obtain ⟨s,u⟩:=p
      simp only [rF,Bool.and_eq_true] at hc
      simp only [List.drop_succ_cons] at h
      simp only [look]
      cases hb:Nat.beq s t
      · exact ih X hc.2 t v h
      · have:=Nat.eq_of_beq_eq_true hb
        subst this
        rw [h] at hc
        simp at hc
theorem Fr.strip {X:List (Nat×Value)} {t:Nat} {v:Value} (k:Nat) (H:Fr N X a) (ht:look X t=some v) (hc:rF k X=true):Fr N ((t,v)::X.drop k) a:=by
  refine ⟨H.size,H.defs,fun s u hu=>?_⟩
  simp only [look] at hu
  cases hb:Nat.beq t s
  · rw [hb] at hu;exact H.at_ s u (Ao k X hc s u hu)
  · rw [hb] at hu
    have:=Nat.eq_of_beq_eq_true hb
    subst this
    simp only [cond_true,Option.some.injEq] at hu
    subst hu
    exact H.at_ _ _ ht
variable {y:Code} {id:Nat}
theorem seq_list (h:∀ K:Act→World→Prop,(∀ a w,y.wp P Q a w→K a w)→wpList P l.toArray (Exit.then K Q) l a w):(Code.seq (.region id l.toArray false) y).wp P Q a w:=
  wp_seq_k fun K hK=>wp_region_lit (h K hK)
theorem Fg (h:∀ K:Act→Prop,(∀ a,y.wp P Q a w→K a)→wpStill P l.toArray w K l a):(Code.seq (.region id l.toArray false) y).wp P Q a w:=by
  refine wp_seq (wp_region_lit ?_)
  have:=h (fun a=>y.wp P Q a w) (fun _ h=>h)
  have h2:=fJ (P:=P) (ops:=l.toArray) (w:=w) (Q:=Exit.then (y.wp P Q) Q) l [] a (gE (fun a ha=>ha) _ _ this)
  simpa using h2
theorem Ap (hm:P.follows .mixedOrders=true) (hB:Region.lexB .any l.toArray=true) (h:∀ K:Act→Prop,(∀ a,y.wp P Q a w.drew→K a)→wpStill P l.toArray w.drew K l a) :
    (Code.seq (.region id l.toArray true) y).wp P Q a w:=
  wp_seq (wp_region_still_lit hm hB (h _ (fun _ h=>h)))
theorem xX (n:Nat) (hm:P.follows .mixedOrders=true) (hB:Region.lexTailB .any l.toArray n=true)
    (h:∀ K:Act→World→Prop,(∀ a w,y.wp P Q a w→K a w)→wpStill P l.toArray w.drew (fun a'=>wpList P l.toArray (Exit.then K Q) (l.drop n) a' w.drew) (l.take n) a) :
    (Code.seq (.region id l.toArray true) y).wp P Q a w:=
  wp_seq_k fun K hK=>wp_region_still_tail n hm hB (h K hK)
theorem one_list (h:wpList P l.toArray Q l a w):(Code.region id l.toArray false).wp P Q a w:=wp_region_lit h
theorem Fh (h:wpStill P l.toArray w (fun a=>Q .normal a w) l a):(Code.region id l.toArray false).wp P Q a w:=by
  refine wp_region_lit ?_
  have h2:=fJ (P:=P) (ops:=l.toArray) (w:=w) (Q:=Q) l [] a (gE (fun a ha=>ha) _ _ h)
  simpa using h2
theorem Aq (hm:P.follows .mixedOrders=true) (hB:Region.lexB .any l.toArray=true) (h:wpStill P l.toArray w.drew (fun a=>Q .normal a w.drew) l a) :
    (Code.region id l.toArray true).wp P Q a w:=wp_region_still_lit hm hB h
theorem nK (n:Nat) (hm:P.follows .mixedOrders=true) (hB:Region.lexTailB .any l.toArray n=true)
    (h:wpStill P l.toArray w.drew (fun a'=>wpList P l.toArray Q (l.drop n) a' w.drew) (l.take n) a):(Code.region id l.toArray true).wp P Q a w:=
  wp_region_still_tail n hm hB h
theorem cond_ {t:Nat} {x:Code} {b:Bool} (H:Fr N L a) (hc:look L t=some (.bool b)) (h1:b=true→x.wp P Q a w) (h2:b=false→y.wp P Q a w):(Code.cond (.tmp t) x y).wp P Q a w:=
  wp_cond_split (H.eval (x := .tmp t) hc) h1 h2
theorem Jb {x:Code} (M:Act→World→Prop) (h1:∀ K:Act→World→Prop,(∀ a w,M a w→K a w)→x.wp P (Exit.then K Q) a w) (h2:∀ a w,M a w→y.wp P Q a w):(Code.seq x y).wp P Q a w:=
  wp_seq_k fun K hK=>h1 K fun a w h=>hK a w (h2 a w h)
theorem loop_ {c:Code} (I:Nat→Act→World→Prop) (n₀:Nat) (h₀:I n₀ a w)
    (round:∀ n a w,I n a w→∀ K:Act→World→Prop,(∀ n' a' w',n'<n→I n' a' w'→K a' w')→c.wp P (Exit.then K Q) a w):(Code.loop c).wp P Q a w:=
  wp_loop_ghost I n₀ h₀ fun n a w hI=>round n a w hI _ fun n' _ _ hlt h=>⟨n',hlt,h⟩
theorem ret1 {fn:Func} {R:Value→World→Prop} {t:Nat} {v:Value} (hr:fn.results=#[.tmp t]) {q_:Nat} (H:Fr ⟨q_,[]⟩ L a) (hv:look L t=some v) (h:R v w):bodyPost P fn (Ret R) .ret a w:=
  bodyPost_ret (v:=v) (by rw [results_tmp hr];simp [H.at_ _ _ hv]) H.defs h
theorem ret2 {fn:Func} {R:Value→World→Prop} {t u:Nat} {v v':Value} (hr:fn.results=#[.tmp t,.tmp u]) {q_:Nat} (H:Fr ⟨q_,[]⟩ L a) (hv:look L t=some v) (hv':look L u=some v') (h:R (.tuple #[v,v']) w):bodyPost P fn (Ret R) .ret a w:=
  bodyPost_ret (v := .tuple #[v,v']) (by rw [results_tmp2 hr];simp [H.at_ _ _ hv,H.at_ _ _ hv']) H.defs h
theorem ret3 {fn:Func} {R:Value→World→Prop} {t u s:Nat} {v v' v'':Value} (hr:fn.results=#[.tmp t,.tmp u,.tmp s]) {q_:Nat} (H:Fr ⟨q_,[]⟩ L a) (hv:look L t=some v) (hv':look L u=some v') (hv'':look L s=some v'') (h:R (.tuple #[v,v',v'']) w):bodyPost P fn (Ret R) .ret a w:=
  bodyPost_ret (v := .tuple #[v,v',v'']) (by simp [results,hr,H.at_ _ _ hv,H.at_ _ _ hv',H.at_ _ _ hv'']) H.defs h
theorem ret4 {fn:Func} {R:Value→World→Prop} {t u s q:Nat} {v v' v'' v3:Value} (hr:fn.results=#[.tmp t,.tmp u,.tmp s,.tmp q]) {q_:Nat} (H:Fr ⟨q_,[]⟩ L a) (hv:look L t=some v) (hv':look L u=some v') (hv'':look L s=some v'') (hv3:look L q=some v3) (h:R (.tuple #[v,v',v'',v3]) w):bodyPost P fn (Ret R) .ret a w:=
  bodyPost_ret (v := .tuple #[v,v',v'',v3]) (by simp [results,hr,H.at_ _ _ hv,H.at_ _ _ hv',H.at_ _ _ hv'',H.at_ _ _ hv3]) H.defs h
theorem ret0 {fn:Func} {R:Value→World→Prop} (hr:fn.results=#[]) {q_:Nat} (H:Fr ⟨q_,[]⟩ L a) (h:R (.tuple #[]) w):bodyPost P fn (Ret R) .ret a w:=
  bodyPost_ret (v := .tuple #[]) (by simp [results,hr]) H.defs h
theorem retA {fn:Func} {R:Value→World→Prop} {t ty b o:Nat} {vs:List Value} (hr:fn.results=#[.cell t ty]) {q_:Nat} (H:Fr ⟨q_,[]⟩ L a) (ht:look L t=some (.pointer (some ⟨b,o,none⟩)))
    (hA:Agg P ty) (hs:Sz P ty vs.length) (hc:∀ (j:Nat) v,vs[j]?=some v→w.cell? ⟨b,o+j,none⟩=some v) (h:R (.agg vs.toArray) w):bodyPost P fn (Ret R) .ret a w:=by
  have hl:=iB (P:=P) hA hs hc
  simp only [Instr.loadAt,Instr.sureAddr] at hl
  refine bodyPost_ret (v := .agg vs.toArray) ?_ H.defs h
  simp [results,hr,H.at_ _ _ ht,asAddr]
  simpa using hl
theorem retA1 {fn:Func} {R:Value→World→Prop} {t ty b o u:Nat} {vs:List Value} {v:Value} (hr:fn.results=#[.cell t ty,.tmp u]) {q_:Nat} (H:Fr ⟨q_,[]⟩ L a) (ht:look L t=some (.pointer (some ⟨b,o,none⟩)))
    (hA:Agg P ty) (hs:Sz P ty vs.length) (hc:∀ (j:Nat) v,vs[j]?=some v→w.cell? ⟨b,o+j,none⟩=some v) (hu:look L u=some v) (h:R (.tuple #[.agg vs.toArray,v]) w):bodyPost P fn (Ret R) .ret a w:=by
  have hl:=iB (P:=P) hA hs hc
  simp only [Instr.loadAt,Instr.sureAddr] at hl
  refine bodyPost_ret (v := .tuple #[.agg vs.toArray,v]) ?_ H.defs h
  have hl':(loadVar ty ⟨b,o,none⟩).run P w = .ok (.agg vs.toArray) w:=by simpa using hl
  simp [results,hr,H.at_ _ _ ht,H.at_ _ _ hu,asAddr,hl']
theorem aA {d f:Nat} {fn:Func} {xs:Array Operand} {ats:Array TypeId} {vs:List Value} {R:Value→World→Prop} (H:Fr N L a) (hd:Nat.blt d N.n=true) (hxs:evs L xs.toList=some vs)
    (hf : P.funcs[f]? = some fn) (hb : fn.body.isNone = false) (hn : (fn.name == "runtime.NumGoroutine") = false)
    (hc:Calls P f vs.toArray w (Ret R)) (k:∀ v w' a',R v w'→Fr N ((d,v)::L) a'→wpList P ops Q rest a' w') :
    wpList P ops Q (⟨some d,.call ⟨.value (.func f),xs,ats⟩,ty,pos,af,none⟩::rest) a w:=by
  refine wpList_plain rfl fun K hK=>?_
  have e1:xs.map a.eval=vs.toArray:=by rw [←H.evals hxs,←Array.toList_map,Array.toArray_toList]
  have hrun:(execOp a.eval ⟨some d,.call ⟨.value (.func f),xs,ats⟩,ty,pos,af,none⟩).run P w = .ok (.enter f vs.toArray) w:=by
    have hb':fn.body≠none:=by intro e;rw [e] at hb;simp at hb
    have hn' : ¬ fn.name = "runtime.NumGoroutine" := by simpa using hn
    simp [execOp,resolve,Act.eval,Deferred.ofValue,e1,invoke,callFunc,hf,hn',hb']
  unfold Oper.wp
  rw [hrun]
  refine hc.mono fun e w' he=>?_
  cases e with
  | returned v=>exact hK _ _ (k v w' _ he (H.put v hd))
  | panicked _=>exact he.elim
  | outgrown=>exact he.elim
theorem iS {d f t:Nat} {fn:Func} {xs:Array Operand} {ats:Array TypeId} {vs fs cs:List Value} {R:Value→World→Prop} (H:Fr N L a) (hd:Nat.blt d N.n=true) (hxs:evs L xs.toList=some vs)
    (ht : look L t = some (.func (.func f) fs.toArray cs.toArray)) (hf : P.funcs[f]? = some fn) (hb : fn.body.isNone = false) (hn : (fn.name == "runtime.NumGoroutine") = false)
    (hc:Calls P f (fs++vs++cs).toArray w (Ret R)) (k:∀ v w' a',R v w'→Fr N ((d,v)::L) a'→wpList P ops Q rest a' w') :
    wpList P ops Q (⟨some d,.call ⟨.value (.tmp t),xs,ats⟩,ty,pos,af,none⟩::rest) a w:=by
  refine wpList_plain rfl fun K hK=>?_
  have e1:xs.map a.eval=vs.toArray:=by rw [←H.evals hxs,←Array.toList_map,Array.toArray_toList]
  have hrun:(execOp a.eval ⟨some d,.call ⟨.value (.tmp t),xs,ats⟩,ty,pos,af,none⟩).run P w = .ok (.enter f (fs++vs++cs).toArray) w:=by
    have hb':fn.body≠none:=by intro e;rw [e] at hb;simp at hb
    have hn' : ¬ fn.name = "runtime.NumGoroutine" := by simpa using hn
    have e2:a.eval (.tmp t) = .func (.func f) fs.toArray cs.toArray:=H.eval (x := .tmp t) ht
    simp [execOp,resolve,e2,Deferred.ofValue,e1,invoke,callFunc,hf,hn',hb']
  unfold Oper.wp
  rw [hrun]
  refine hc.mono fun e w' he=>?_
  cases e with
  | returned v=>exact hK _ _ (k v w' _ he (H.put v hd))
  | panicked _=>exact he.elim
  | outgrown=>exact he.elim
theorem Ar {d f:Nat} {fn:Func} {xs:Array Operand} {ats:Array TypeId} {vs:List Value} {v:Value} (H:Fr N L a) (hd:Nat.blt d N.n=true) (hxs:evs L xs.toList=some vs)
    (hf : P.funcs[f]? = some fn) (hb : fn.body.isNone = false) (hn : (fn.name == "runtime.NumGoroutine") = false)
    (hc:Calls P f vs.toArray w (Ret fun u w'=>u=v∧w'=w)) (k:∀ a',Fr N ((d,v)::L) a'→wpStill P ops w Qs rest a') :
    wpStill P ops w Qs (⟨some d,.call ⟨.value (.func f),xs,ats⟩,ty,pos,af,none⟩::rest) a:=by
  refine wpStill_step fun K hK=>?_
  simp only [Region.wanted,if_true]
  have e1:xs.map a.eval=vs.toArray:=by rw [←H.evals hxs,←Array.toList_map,Array.toArray_toList]
  have hrun:(execOp a.eval ⟨some d,.call ⟨.value (.func f),xs,ats⟩,ty,pos,af,none⟩).run P w = .ok (.enter f vs.toArray) w:=by
    have hb':fn.body≠none:=by intro e;rw [e] at hb;simp at hb
    have hn' : ¬ fn.name = "runtime.NumGoroutine" := by simpa using hn
    simp [execOp,resolve,Act.eval,Deferred.ofValue,e1,invoke,callFunc,hf,hn',hb']
  unfold Oper.still
  rw [hrun]
  refine ⟨rfl,v,hc.mono fun e w' he=>?_,hK _ (k _ (H.put v hd))⟩
  cases e with
  | returned u=>obtain ⟨rfl,rfl⟩:=he;exact ⟨rfl,rfl⟩
  | panicked _=>exact he.elim
  | outgrown=>exact he.elim
end
def Zero (P:Program) (t:Nat) (zs:List Value):Prop:=(P.info? t).map (fun i=>(i.zero.map fun z=>z.cells.toList))=some (some zs)
def Bytes (P:Program) (t n:Nat):Prop:=(P.info? t).map (·.bytes)=some n
def gW:List Value→Nat→List Value→List Value
  | cs,0,[]=>cs
  | _::cs,0,v::vs=>v::gW cs 0 vs
  | c::cs,o+1,vs=>c::gW cs o vs
  | [],_,_=>[]
theorem jO:∀ (cs:List Value) (o:Nat) (vs:List Value),o+vs.length≤cs.length→gW cs o vs=cs.take o++vs++cs.drop (o+vs.length):=by
  intro cs
  induction cs with
  | nil=>
    intro o vs h
    have:vs=[]:=by cases vs with|nil=>rfl|cons _ _=>simp at h
    subst this
    cases o with
    | zero=>rfl
    | succ o=>simp at h
  | cons c cs ih=>
    intro o vs h
    cases o with
    | zero=>
      cases vs with
      | nil=>rfl
      | cons v vs=>
        simp only [gW]
        have:=ih 0 vs (by simp at h ⊢;omega)
        simp at this
        simp [this]
    | succ o=>
      simp only [gW]
      have:=ih o vs (by simp at h;omega)
      rw [this]
      simp [Nat.add_right_comm]
theorem mL (cs:List Value) (o:Nat) (vs:List Value) (h:o+vs.length≤cs.length):(gW cs o vs).length=cs.length:=by
  rw [jO cs o vs h];simp;omega
section
variable {P:Program} {ops:Array Oper} {w w0:World} {F0:Nat→Prop} {R:List Mem} {Q:Exit→Act→World→Prop} {Qs:Act→Prop} {rest l:List Oper} {N:FN} {L:List (Nat×Value)} {a:Act} {ty:TypeId} {pos:String} {af:Array Edge} {op:Op} {o:Oper}
theorem St.alloc (S:St w0 F0 R w) (cs:Array Value) (t:TypeId) {m:Mem} (hm:m.holds (w.alloc (.cells cs t))) (hf:∀ k,m.fp k→k=w.heap.size):St w0 F0 (m::R) (w.alloc (.cells cs t)):=
  S.new (Keeps.alloc w _ _) hm fun k hk=>by rw [hf k hk];simp
theorem boxM.new (S:St w0 F0 R w) (cs:List Value) (t:TypeId):St w0 F0 (boxM w.heap.size t cs::R) (w.alloc (.cells cs.toArray t)):=
  S.alloc _ _ (heap_alloc_new w _) (fun _ h=>h)
theorem aN {d t:Nat} {x:Operand} {v:Value} {cs:List Value} (H:Fr N L a) (hd:Nat.blt d N.n=true) (S:St w0 F0 R w) (hx:ev L x=some v) (hv:v.cells=cs.toArray)
    (k:∀ b w' a',b<w'.heap.size→w0.heap.size≤b→St w0 F0 (boxM b t cs::R) w'→Fr N ((d,.pointer (some ⟨b,0,none⟩))::L) a'→wpList P ops Q rest a' w') :
    wpList P ops Q (⟨some d,.box t x,ty,pos,af,none⟩::rest) a w:=by
  refine wpList_plain rfl fun K hK=>?_
  unfold Oper.wp
  have e:(execOp a.eval ⟨some d,.box t x,ty,pos,af,none⟩).run P w = .ok (.value (.pointer (some ⟨w.heap.size,0,none⟩))) (w.alloc (.cells cs.toArray t)):=by
    simp [execOp,H.eval hx,Instr.box,newVar,newRow,newObj,hv,Sem.run]
  rw [e]
  exact hK _ _ (k w.heap.size _ _ (by simp) S.size (boxM.new S cs t) (H.put _ hd))
theorem aI {d t:Nat} {cs:List Value} (H:Fr N L a) (hd:Nat.blt d N.n=true) (S:St w0 F0 R w) (hz:Zero P t cs)
    (k:∀ b w' a',b<w'.heap.size→w0.heap.size≤b→St w0 F0 (boxM b t cs::R) w'→Fr N ((d,.pointer (some ⟨b,0,none⟩))::L) a'→wpList P ops Q rest a' w') :
    wpList P ops Q (⟨some d,.alloc t,ty,pos,af,none⟩::rest) a w:=by
  refine wpList_plain rfl fun K hK=>?_
  unfold Oper.wp
  unfold Zero at hz
  cases hi:P.info? t with
  | none=>rw [hi] at hz;simp at hz
  | some i=>
    rw [hi] at hz
    simp at hz
    obtain ⟨z,hz1,hz2⟩:=hz
    have hz3:z.cells=cs.toArray:=by rw [←hz2,Array.toArray_toList]
    have e:(execOp a.eval ⟨some d,.alloc t,ty,pos,af,none⟩).run P w = .ok (.value (.pointer (some ⟨w.heap.size,0,none⟩))) (w.alloc (.cells cs.toArray t)):=by
      simp [execOp,Instr.alloc,zeroValue,typeInfo,hi,hz1,newVar,newRow,newObj,hz3,Sem.run]
    rw [e]
    exact hK _ _ (k w.heap.size _ _ (by simp) S.size (boxM.new S cs t) (H.put _ hd))
theorem kB (w:World) (g:Nat) (cs:Array Value):Keeps w (w.setRow g cs) (fun k=>k=g):=
  ⟨rfl,rfl,rfl,by simp,fun k _ hk=>setRow_other w g k _ (fun e=>hk e)⟩
theorem kC {t b o:Nat} {v:Value} {vs:List Value} {cur:Array Value} {e:TypeId} (hs:Sz P t vs.length) (hv:v.cells=vs.toArray) (hg:w.heap[b]?=some (.cells cur e (0,0)))
    (hle:o+vs.length≤cur.size) (h1:∀ u ∈ vs,u.oneCell'=true) :
    (Instr.storeAt t (.pointer (some ⟨b,o,none⟩)) v).run P w = .ok () (w.setRow b (gW cur.toList o vs).toArray):=by
  have h:=run_storeCells_at P b o e vs 0 cur w hg (by simpa using hle) h1
  simp only [Nat.add_zero] at h
  rw [jO _ _ _ (by simpa using hle)]
  simp [Instr.storeAt,Instr.sureAddr,storeVar,hs.run,hv,h]
theorem aC {t b off i:Nat} {bt:TypeId} {x y:Operand} {v:Value} {vs cs:List Value} (H:Fr N L a) (S:St w0 F0 R w) (hi:R[i]?=some (boxM b bt cs))
    (hx:ev L x=some (.pointer (some ⟨b,off,none⟩))) (hy:ev L y=some v) (hv:v.cells=vs.toArray) (hs:Sz P t vs.length) (hle:Nat.ble (off+vs.length) cs.length=true) (h1:vs.all (fun u=>u.oneCell')=true)
    (k:∀ w' a',St w0 F0 (R.set i (boxM b bt (gW cs off vs))) w'→Fr N L a'→wpList P ops Q rest a' w') :
    wpList P ops Q (⟨none,.store t x y,ty,pos,af,none⟩::rest) a w:=by
  refine wpList_plain rfl fun K hK=>?_
  unfold Oper.wp
  have hle':off+vs.length≤cs.length:=by simpa using hle
  have hr:=kC (P:=P) (w:=w) hs hv (S.holds hi) (by simpa using hle') (fun u hu=>by simpa using List.all_eq_true.1 h1 u hu)
  have e:(execOp a.eval ⟨none,.store t x y,ty,pos,af,none⟩).run P w = .ok .skip (w.setRow b (gW cs off vs).toArray):=by
    simp [execOp,H.eval hx,H.eval hy,hr]
  rw [e]
  refine hK _ _ (k _ _ (S.updSame hi (kB w b _) ?_ (fun _ h=>h)) (H.put_none _))
  exact setRow_heap w b _ _ bt (0,0) (S.holds hi)
def cput (cell:Nat→Nat→Value) (k j:Nat) (v:Value):Nat→Nat→Value:=fun k' j'=>if k'=k∧j'=j then v else cell k' j'
theorem Oh {sz k j k' j':Nat} (hj:j<sz) (hj':j'<sz) (h:¬ (k'=k∧j'=j)):k*sz+j≠k'*sz+j':=by
  intro e
  apply h
  have h1:(k*sz+j)/sz=k:=by rw [Nat.add_comm,Nat.add_mul_div_right _ _ (by omega),Nat.div_eq_of_lt hj];omega
  have h2:(k'*sz+j')/sz=k':=by rw [Nat.add_comm,Nat.add_mul_div_right _ _ (by omega),Nat.div_eq_of_lt hj'];omega
  have:k=k':=by rw [←h1,e,h2]
  subst this
  omega
theorem cT {t e sz i kk j n c:Nat} {A:Option Addr} {cell:Nat→Nat→Value} {x y:Operand} {v:Value} (H:Fr N L a) (S:St w0 F0 R w) (hi:R[i]?=some (ownM e sz A n c cell))
    (hx:ev L x=some (.pointer (some (pt A sz kk j)))) (hy:ev L y=some v) (hk:kk<n) (hj:j<sz) (hs:Sz P t 1) (h1:v.oneCell'=true)
    (k:∀ w' a',St w0 F0 (R.set i (ownM e sz A n c (cput cell kk j v))) w'→Fr N L a'→wpList P ops Q rest a' w') :
    wpList P ops Q (⟨none,.store t x y,ty,pos,af,none⟩::rest) a w:=by
  refine wpList_plain rfl fun K hK=>?_
  unfold Oper.wp
  rcases S.holds hi with ⟨_,h,_⟩|⟨b,cs,rfl,hb,hnc,hcm,hsz,hc⟩
  · omega
  have hv:v.cells=[v].toArray:=by cases v <;> first|rfl|simp [Value.oneCell'] at h1
  have hlt:kk*sz+j<cs.size:=by
    rw [hsz]
    have:(kk+1)*sz≤c*sz:=Nat.mul_le_mul_right _ (by omega)
    rw [Nat.add_mul] at this
    omega
  have hp:pt (some ⟨b,0,none⟩) sz kk j=⟨b,kk*sz+j,none⟩:=by simp [pt,adr]
  rw [hp] at hx
  have hr:=kC (P:=P) (w:=w) (t:=t) (b:=b) (o:=kk*sz+j) (v:=v) (vs:=[v]) (by simpa using hs) hv hb (by simp;omega) (by simpa using h1)
  have e1:(execOp a.eval ⟨none,.store t x y,ty,pos,af,none⟩).run P w = .ok .skip (w.setRow b (gW cs.toList (kk*sz+j) [v]).toArray):=by
    simp [execOp,H.eval hx,H.eval hy,hr]
  rw [e1]
  refine hK _ _ (k _ _ (S.updSame hi ((kB w b _).mono ?_) ?_ (fun _ h=>h)) (H.put_none _))
  · rintro q rfl;exact ⟨_,rfl,rfl⟩
  · refine .inr ⟨b,_,rfl,setRow_heap w b _ _ e (0,0) hb,hnc,hcm,?_,?_⟩
    · rw [List.size_toArray,mL _ _ _ (by simp;omega)];simpa using hsz
    · intro k' j' hk' hj'
      rw [List.getElem?_toArray,jO _ _ _ (by simp;omega)]
      have hk2:k'*sz+j'<cs.size:=by
        rw [hsz]
        have:(k'+1)*sz≤c*sz:=Nat.mul_le_mul_right _ (by omega)
        rw [Nat.add_mul] at this
        omega
      by_cases hh:k'=kk∧j'=j
      · obtain ⟨rfl,rfl⟩:=hh
        rw [List.append_assoc,List.getElem?_append_right (by simp;omega)]
        simp [cput,Nat.min_eq_left (Nat.le_of_lt hk2)]
      · have hne:=Oh hj hj' hh
        have hcell:=hc k' j' hk' hj'
        have:cput cell kk j v k' j'=cell k' j':=by simp [cput,hh]
        rw [this,←hcell]
        rcases Nat.lt_or_ge (k'*sz+j') (kk*sz+j) with h|h
        · rw [List.append_assoc,List.getElem?_append_left (by simp;omega),List.getElem?_take_of_lt h];simp
        · have h':kk*sz+j<k'*sz+j':=by omega
          rw [List.getElem?_append_right (by simp;omega),List.getElem?_drop]
          simp only [List.length_append,List.length_take,List.length_cons,List.length_nil,Array.length_toList]
          rw [Nat.min_eq_left (by omega)]
          rw [show kk*sz+j+(0+1)+(k'*sz+j'-(kk*sz+j+(0+1)))=k'*sz+j' by omega]
          simp
theorem St.newNil (S:St w0 F0 R w) (e sz:Nat) (cell:Nat→Nat→Value):St w0 F0 (ownM e sz none 0 0 cell::R) w:=
  S.new (Keeps.refl _ _) (.inl ⟨rfl,rfl,rfl⟩) fun k ⟨_,h,_⟩=>by cases h
theorem oW {d t e sz by_:Nat} {x y:Operand} {n:Nat} {zs:List Value} (H:Fr N L a) (hd:Nat.blt d N.n=true) (S:St w0 F0 R w) (ht:SlT P t e) (hs:Sz P e sz) (hz:Zero P e zs) (hby:Bytes P e by_) (hzs:zs.length=sz) (hpos:0<sz)
    (hx:ev L x=some (.int .i64 (n:Int))) (hy:ev L y=some (.int .i64 (n:Int))) (hn:by_*n≤140737488355328) (hn2:n≤9223372036854775807)
    (k:∀ A w' a',(0<n→A=some ⟨(adr A).block,(adr A).off,none⟩)→St w0 F0 (ownM e sz A n n (fun _ j=>zs.getD j undef)::R) w'→Fr N ((d,.slice A n n)::L) a'→wpList P ops Q rest a' w') :
    wpList P ops Q (⟨some d,.makeSlice t x y,ty,pos,af,none⟩::rest) a w:=by
  refine wpList_plain rfl fun K hK=>?_
  unfold Oper.wp
  unfold Zero at hz
  unfold Sz at hs
  unfold Bytes at hby
  cases hi:P.info? e with
  | none=>rw [hi] at hz;simp at hz
  | some i=>
    rw [hi] at hz hs hby
    simp at hz hs hby
    obtain ⟨z,hz1,hz2⟩:=hz
    have hz3:z.cells=zs.toArray:=by rw [←hz2,Array.toArray_toList]
    have hb1:(i.bytes:Int)*(n:Int)≤281474976710656:=by
      rw [hby]
      have:((by_*n:Nat):Int)≤140737488355328:=by omega
      rw [Int.natCast_mul] at this
      omega
    have hr:=run_make (P:=P) w t e i z ht hi hz1 .i64 .i64 (n:Int) (n:Int) (by omega) (Int.le_refl _) hb1 (by omega)
    simp only [Int.toNat_natCast,hs,hz3] at hr
    have e1:(execOp a.eval ⟨some d,.makeSlice t x y,ty,pos,af,none⟩).run P w = .ok (.value (.slice (some ⟨w.heap.size,0,none⟩) n n)) (w.alloc (.cells (madeCells zs.toArray (n*sz)) e)):=by
      simp [execOp,H.eval hx,H.eval hy,hr]
    rw [e1]
    refine hK _ _ (k (some ⟨w.heap.size,0,none⟩) _ _ (fun _=>rfl) (S.alloc _ _ (.inr ⟨w.heap.size,_,rfl,heap_alloc_new w _,Nat.le_refl _,by simp only [maxLen];omega,size_madeCells _ _,?_⟩) ?_) (H.put _ hd))
    · intro k' j' hk' hj'
      have hlt:k'*sz+j'<n*sz:=by
        have:(k'+1)*sz≤n*sz:=Nat.mul_le_mul_right _ (by omega)
        rw [Nat.add_mul] at this
        omega
      have hm:(k'*sz+j')%sz=j':=by rw [Nat.add_comm,Nat.add_mul_mod_self_right,Nat.mod_eq_of_lt hj']
      simp only [madeCells,Array.getElem?_map]
      rw [Array.getElem?_range,if_pos hlt]
      simp only [Option.map_some,List.size_toArray,hzs,hm,Option.some.injEq]
      rw [List.getD_eq_getElem?_getD,List.getElem?_eq_getElem (by omega)]
      simp [hzs,hj']
    · rintro q ⟨_,h,rfl⟩;cases h;rfl
theorem xY:∀ (vs:List Value) (k off:Nat) (cs:Array Value) (i:Nat),off+k+vs.length≤cs.size →
    ((vs.zipIdx k).foldl (fun (cs:Array Value) (p:Value×Nat)=>cs.setIfInBounds (off+p.2) p.1) cs)[i]?=(if off+k≤i∧i<off+k+vs.length then vs[i-(off+k)]? else cs[i]?):=by
  intro vs
  induction vs with
  | nil=>intro k off cs i _;simp;intro h1 h2;omega
  | cons v vs ih=>
    intro k off cs i h
    simp only [List.length_cons] at h
    simp only [List.zipIdx_cons,List.foldl_cons,List.length_cons]
    rw [ih (k+1) off _ i (by simp;omega)]
    by_cases h1:off+(k+1)≤i∧i<off+(k+1)+vs.length
    · rw [if_pos h1,if_pos (by omega)]
      rw [show i-(off+k)=(i-(off+(k+1)))+1 by omega]
      simp
    · rw [if_neg h1]
      by_cases h2:i=off+k
      · subst h2
        have hlt:off+k<cs.size:=by omega
        rw [if_pos (by omega)]
        simp [hlt]
      · rw [if_neg (by omega),Array.getElem?_setIfInBounds_ne (by omega)]
theorem Fi:∀ (vs:List Value) (k off:Nat) (cs:Array Value),((vs.zipIdx k).foldl (fun (cs:Array Value) (p:Value×Nat)=>cs.setIfInBounds (off+p.2) p.1) cs).size=cs.size:=by
  intro vs
  induction vs with
  | nil=>intro k off cs;rfl
  | cons v vs ih=>intro k off cs;simp only [List.zipIdx_cons,List.foldl_cons];rw [ih];simp
def nL:Nat→List Operand→List (Nat×Operand)
  | _,[]=>[]
  | i,x::xs=>(i,x)::nL (i+1) xs
def jB:Nat→List Value→List (Nat×Value)
  | _,[]=>[]
  | i,x::xs=>(i,x)::jB (i+1) xs
theorem Jc {sz:Nat}:∀ (vs:List Value) (css:List (List Value)) (i0:Nat) (cs:Array Value),vs.map (fun v=>v.cells.toList)=css→(∀ c ∈ css,c.length=sz)→(i0+vs.length)*sz≤cs.size →
    ∃ cs',Instr.fill (fun i=>some (i*sz,sz)) cs (jB i0 vs)=some cs'∧cs'.size=cs.size ∧
      ∀ k j,j<sz→cs'[k*sz+j]?=(if i0≤k∧k<i0+vs.length then some ((css.getD (k-i0) []).getD j undef) else cs[k*sz+j]?):=by
  intro vs
  induction vs with
  | nil=>intro css i0 cs _ _ _;exact ⟨cs,rfl,rfl,fun k j _=>by rw [if_neg (by simp)]⟩
  | cons v vs ih=>
    intro css i0 cs hcss hall hle
    cases css with
    | nil=>simp at hcss
    | cons c css=>
      simp only [List.map_cons,List.cons.injEq] at hcss
      obtain ⟨hc,hcss⟩:=hcss
      have hcl:c.length=sz:=hall c (List.mem_cons_self ..)
      have hvs:v.cells.size=sz:=by rw [←hcl,←hc];simp
      simp only [List.length_cons] at hle
      have hle1:i0*sz+sz≤cs.size:=by
        have:(i0+1)*sz≤(i0+(vs.length+1))*sz:=Nat.mul_le_mul_right _ (by omega)
        rw [Nat.add_mul] at this
        omega
      let cs1:=(c.zipIdx 0).foldl (fun (cs:Array Value) (p:Value×Nat)=>cs.setIfInBounds (i0*sz+p.2) p.1) cs
      have hs1:cs1.size=cs.size:=Fi c 0 (i0*sz) cs
      obtain ⟨cs',h1,h2,h3⟩:=ih css (i0+1) cs1 hcss (fun x hx=>hall x (List.mem_cons_of_mem _ hx)) (by rw [hs1,show i0+1+vs.length=i0+(vs.length+1) by omega];exact hle)
      refine ⟨cs',?_,by rw [h2,hs1],?_⟩
      · simp only [jB,Instr.fill]
        rw [if_neg (by simp [hvs];omega)]
        have e:v.cells.zipIdx.foldl (fun (cs:Array Value) (x:Value×Nat)=>cs.setIfInBounds (i0*sz+x.2) x.1) cs=cs1:=by
          rw [←Array.foldl_toList,Array.toList_zipIdx,hc]
        exact (congrArg (fun q=>Instr.fill (fun i=>some (i*sz,sz)) q (jB (i0+1) vs)) e).trans h1
      · intro k j hj
        rw [h3 k j hj]
        by_cases hk:i0+1≤k∧k<i0+1+vs.length
        · rw [if_pos hk,if_pos (by simp;omega)]
          rw [show k-i0=(k-(i0+1))+1 by omega]
          simp
        · rw [if_neg hk]
          have hf:=xY c 0 (i0*sz) cs (k*sz+j) (by rw [hcl];omega)
          simp only [Nat.add_zero] at hf
          show cs1[k*sz+j]?=_
          rw [hf]
          by_cases hki:k=i0
          · subst hki
            rw [if_pos (by omega),if_pos (by simp)]
            have:k*sz+j-k*sz=j:=by omega
            rw [this,List.getElem?_eq_getElem (by omega)]
            simp [hcl,hj]
          · have hne:¬ (i0*sz≤k*sz+j∧k*sz+j<i0*sz+c.length):=by
              rw [hcl]
              rintro ⟨ha,hb⟩
              rcases Nat.lt_or_ge k i0 with h|h
              · have:(k+1)*sz≤i0*sz:=Nat.mul_le_mul_right _ (by omega)
                rw [Nat.add_mul] at this;omega
              · have:(i0+1)*sz≤k*sz:=Nat.mul_le_mul_right _ (by omega)
                rw [Nat.add_mul] at this;omega
            rw [if_neg hne,if_neg (by simp;omega)]
theorem As {d t e sz len:Nat} {parts:Array (Nat×Operand)} {xs:List Operand} {vs:List Value} {css:List (List Value)} {zs:List Value} (H:Fr N L a) (hd:Nat.blt d N.n=true) (S:St w0 F0 R w) (ht:SlT P t e) (hs:Sz P e sz) (hz:Zero P e zs) (hzs:Nat.beq zs.length sz=true) (hpos:Nat.blt 0 sz=true)
    (hparts:parts.toList=nL 0 xs) (hxs:evs L xs=some vs) (hlen:len=vs.length) (hlp:Nat.blt 0 len=true) (hcss:vs.map (fun v=>v.cells.toList)=css) (hall:css.all (fun c=>Nat.beq c.length sz)=true) (hsm:Nat.ble (len*sz) 16777216=true)
    (k:∀ A w' a',(0<len→A=some ⟨(adr A).block,(adr A).off,none⟩)→St w0 F0 (ownM e sz A len len (fun k j=>(css.getD k []).getD j undef)::R) w'→Fr N ((d,.slice A len len)::L) a'→wpList P ops Q rest a' w') :
    wpList P ops Q (⟨some d,.buildSlice t len parts,ty,pos,af,none⟩::rest) a w:=by
  refine wpList_plain rfl fun K hK=>?_
  unfold Oper.wp
  have hzs':zs.length=sz:=Nat.eq_of_beq_eq_true hzs
  have hpos':0<sz:=by simpa using hpos
  have hsm':len*sz≤16777216:=by simpa using hsm
  have hlp':0<len:=by simpa using hlp
  unfold Zero at hz
  cases hi:P.info? e with
  | none=>rw [hi] at hz;simp at hz
  | some i=>
    rw [hi] at hz
    simp at hz
    obtain ⟨z,hz1,hz2⟩:=hz
    obtain ⟨cs',hf1,hf2,hf3⟩:=Jc (sz:=sz) vs css 0 ((Array.range (len*sz)).map (z.cells[·%z.cells.size]!)) hcss (fun c hc=>Nat.eq_of_beq_eq_true (by simpa using List.all_eq_true.1 hall c hc)) (by simp [←hlen])
    have hne:¬ len*sz=0:=by have:=Nat.mul_pos hlp' hpos';omega
    have hpv:(parts.map fun (p:Nat×Operand)=>(p.1,a.eval p.2)).toList=jB 0 vs:=by
      rw [Array.toList_map,hparts]
      have key:∀ (xs:List Operand) (vs:List Value) (i:Nat),evs L xs=some vs→(nL i xs).map (fun (p:Nat×Operand)=>(p.1,a.eval p.2))=jB i vs:=by
        intro xs
        induction xs with
        | nil=>intro vs i h;simp only [evs,Option.some.injEq] at h;subst h;rfl
        | cons x xs ih=>
          intro vs i h
          simp only [evs] at h
          split at h
          · rename_i v hv
            split at h
            · rename_i us hus
              simp only [Option.some.injEq] at h
              subst h
              simp only [nL,jB,List.map_cons,H.eval hv,ih _ _ hus]
            · cases h
          · cases h
      exact key xs vs 0 hxs
    have e1:(execOp a.eval ⟨some d,.buildSlice t len parts,ty,pos,af,none⟩).run P w = .ok (.value (.slice (some ⟨w.heap.size,0,none⟩) len len)) (w.alloc (.cells cs' e)):=by
      have hpv':(parts.map fun (p:Nat×Operand)=>(p.1,a.eval p.2))=(jB 0 vs).toArray:=by rw [←hpv]
      simp only [execOp]
      have:(Instr.buildSlice t len (parts.map fun (p:Nat×Operand)=>(p.1,a.eval p.2))).run P w = .ok (.slice (some ⟨w.heap.size,0,none⟩) len len) (w.alloc (.cells cs' e)):=by
        rw [hpv']
        have hnl:¬ (16777216<len*sz):=by omega
        simp [Instr.buildSlice,bU ht,hs.run,hnl,hne,zeroValue,typeInfo,hi,hz1,hf1,newRow,newObj,Sem.run]
      simp [this]
    rw [e1]
    refine hK _ _ (k (some ⟨w.heap.size,0,none⟩) _ _ (fun _=>rfl) (S.alloc _ _ (.inr ⟨w.heap.size,cs',rfl,heap_alloc_new w _,Nat.le_refl _,?_,?_,?_⟩) ?_) (H.put _ hd))
    · simp only [maxLen]
      have:len*1≤len*sz:=Nat.mul_le_mul_left _ hpos'
      omega
    · rw [hf2];simp
    · intro k' j' hk' hj'
      rw [hf3 k' j' hj',if_pos (by omega)]
      simp
    · rintro q ⟨_,h,rfl⟩;cases h;rfl
theorem aV {d t e sz len:Nat} {parts:Array (Nat×Operand)} {vs:List Value} {css:List (List Value)} {zs:List Value} (H:Fr N L a) (hd:Nat.blt d N.n=true) (S:St w0 F0 R w) (ht:SlT P t e) (hs:Sz P e sz) (hz:Zero P e zs) (hzs:Nat.beq zs.length sz=true) (hpos:Nat.blt 0 sz=true)
    (hparts:parts.toList=nL 0 (parts.toList.map (·.2))) (hxs:evs L (parts.toList.map (·.2))=some vs) (hlen:len=vs.length) (hlp:Nat.blt 0 len=true) (hcss:vs.map (fun v=>v.cells.toList)=css) (hall:css.all (fun c=>Nat.beq c.length sz)=true) (hsm:Nat.ble (len*sz) 16777216=true)
    (k:∀ A w' a',(0<len→A=some ⟨(adr A).block,(adr A).off,none⟩)→St w0 F0 (ownM e sz A len len (fun k j=>(css.getD k []).getD j undef)::R) w'→Fr N ((d,.slice A len len)::L) a'→wpList P ops Q rest a' w') :
    wpList P ops Q (⟨some d,.buildSlice t len parts,ty,pos,af,none⟩::rest) a w:=
  As H hd S ht hs hz hzs hpos hparts hxs hlen hlp hcss hall hsm k
def flat (sz n:Nat) (cell:Nat→Nat→Value):List Value:=(List.range (n*sz)).map fun i=>cell (i/sz) (i%sz)
theorem iT {sz n k j:Nat} {cell:Nat→Nat→Value} (hk:k<n) (hj:j<sz):(flat sz n cell)[k*sz+j]?=some (cell k j):=by
  have hlt:k*sz+j<n*sz:=by
    have:(k+1)*sz≤n*sz:=Nat.mul_le_mul_right _ (by omega)
    rw [Nat.add_mul] at this
    omega
  have h1:(k*sz+j)/sz=k:=by rw [Nat.add_comm,Nat.add_mul_div_right _ _ (by omega),Nat.div_eq_of_lt hj];omega
  have h2:(k*sz+j)%sz=j:=by rw [Nat.add_comm,Nat.add_mul_mod_self_right,Nat.mod_eq_of_lt hj]
  simp [flat,hlt,h1,h2]
theorem Oi {e sz n c:Nat} {A:Option Addr} {cell:Nat→Nat→Value} (hpos:0<sz) (h:(ownM e sz A n c cell).holds w):w.ownsRow 0 e sz (.slice A n c) n (flat sz n cell):=by
  refine ⟨by simp [flat],?_⟩
  rcases h with ⟨rfl,rfl,rfl⟩|⟨b,cs,rfl,hb,hnc,hcm,hsz,hc⟩
  · exact .inl ⟨rfl,rfl⟩
  · refine .inr ⟨b,c,cs,rfl,Nat.zero_le _,hb,hnc,hcm,hsz,?_⟩
    apply List.ext_getElem?
    intro i
    have hle:n*sz≤cs.size:=by rw [hsz];exact Nat.mul_le_mul_right _ hnc
    rw [List.getElem?_take]
    by_cases hi:i<n*sz
    · rw [if_pos hi]
      have hk:i/sz<n:=(Nat.div_lt_iff_lt_mul hpos).2 hi
      have hj:i%sz<sz:=Nat.mod_lt _ hpos
      have he:i/sz*sz+i%sz=i:=by rw [Nat.mul_comm];exact Nat.div_add_mod i sz
      have h1:=hc (i/sz) (i%sz) hk hj
      have h2:=iT (cell:=cell) hk hj
      rw [he] at h1 h2
      rw [h2,←h1]
      simp
    · rw [if_neg hi,List.getElem?_eq_none (by simp [flat];omega)]
theorem Dc {e sz n:Nat} {v:Value} {xs:List Value} {cell:Nat→Nat→Value} (h:w.ownsRow 0 e sz v n xs) (hx:∀ k j,k<n→j<sz→xs[k*sz+j]?=some (cell k j)) :
    ∃ A c,v = .slice A n c∧(ownM e sz A n c cell).holds w∧v.ownBlock=A.map (·.block):=by
  rcases h.2 with ⟨rfl,rfl⟩|⟨g,cap,cur,rfl,_,hg,hnc,hcm,hsz,htake⟩
  · exact ⟨none,0,rfl,.inl ⟨rfl,rfl,rfl⟩,rfl⟩
  · refine ⟨some ⟨g,0,none⟩,cap,rfl,.inr ⟨g,cur,rfl,hg,hnc,hcm,hsz,?_⟩,rfl⟩
    intro k j hk hj
    have h1:=hx k j hk hj
    have hlt:k*sz+j<n*sz:=by
      have:(k+1)*sz≤n*sz:=Nat.mul_le_mul_right _ (by omega)
      rw [Nat.add_mul] at this
      omega
    rw [←htake,List.getElem?_take,if_pos hlt] at h1
    simpa using h1
theorem xZ (base:Nat) (t ty e:TypeId) (i:TypeInfo) (size:Nat) (ht:P.underlying t=some (.slice e)) (hi:P.info? e=some i)
    (v:Value) (n:Nat) (xs:List Value) (hown:w.ownsRow base e size v n xs) (A:Option Addr) (hA:A=none) (c:Nat):(Builtin.append_ #[t,t] ty #[v,.slice A 0 c]).run P w = .ok v w:=by
  subst hA
  rcases hown.2 with ⟨rfl,rfl⟩|⟨g,cap,cur,rfl,_,_,hnc,_⟩
  · simp [Builtin.append_,run_underlying ht,sizeOf,typeInfo,hi,Builtin.lenOf,Builtin.firstCells]
  · simp [Builtin.append_,run_underlying ht,sizeOf,typeInfo,hi,Builtin.lenOf,Builtin.firstCells,hnc,storeCells]
def capp (n:Nat) (cell cell':Nat→Nat→Value):Nat→Nat→Value:=fun k j=>if k<n then cell k j else cell' (k-n) j
theorem Oj {t e sz by_:Nat} {zs:List Value} {A B:Option Addr} {n c m c':Nat} {cell cell':Nat→Nat→Value} (ht:SlT P t e) (hs:Sz P e sz) (hz:Zero P e zs) (hby:Bytes P e by_) (hzs:zs.length=sz) (hpos:0<sz)
    (h:(ownM e sz A n c cell).holds w) (hB:InS w noF sz B m cell') (hone:∀ k j,k<m→j<sz→(cell' k j).oneCell'=true) (hlen:(n+m)*by_≤140737488355328) (hlen2:n+m≤9223372036854775807) (ty:TypeId) :
    ∃ A' c1 w',(Builtin.append_ #[t,t] ty #[.slice A n c,.slice B m c']).run P w = .ok (.slice A' (n+m) c1) w'∧(ownM e sz A' (n+m) c1 (capp n cell cell')).holds w'∧Keeps w w' (ownM e sz A n c cell).fp ∧
      (∀ k,(ownM e sz A' (n+m) c1 (capp n cell cell')).fp k→(ownM e sz A n c cell).fp k∨(w.heap.size≤k∧k<w'.heap.size)):=by
  unfold Zero at hz
  unfold Sz at hs
  unfold Bytes at hby
  have hown:=Oi hpos h
  have hfl:∀ k j,k<n+m→j<sz→(flat sz n cell++flat sz m cell')[k*sz+j]?=some (capp n cell cell' k j):=by
    intro k j hk hj
    have hl:(flat sz n cell).length=n*sz:=by simp [flat]
    unfold capp
    by_cases hkn:k<n
    · rw [if_pos hkn]
      have hlt:k*sz+j<n*sz:=by
        have:(k+1)*sz≤n*sz:=Nat.mul_le_mul_right _ (by omega)
        rw [Nat.add_mul] at this
        omega
      rw [List.getElem?_append_left (by omega)]
      exact iT hkn hj
    · rw [if_neg hkn]
      have hge:n*sz≤k*sz:=Nat.mul_le_mul_right _ (by omega)
      rw [List.getElem?_append_right (by omega),hl]
      have:k*sz+j-n*sz=(k-n)*sz+j:=by rw [Nat.sub_mul];omega
      rw [this]
      exact iT (by omega) hj
  cases hi:P.info? e with
  | none=>rw [hi] at hz;simp at hz
  | some i=>
    rw [hi] at hz hs hby
    simp at hz hs hby
    obtain ⟨z,hz1,hz2⟩:=hz
    have hzsz:z.cells.size=sz:=by rw [←hzs,←hz2];simp
    have hblk:(Value.slice A n c).ownBlock=A.map (·.block):=by cases A <;> rfl
    rcases B with _|ad
    · have hm:m=0:=by
        rcases Nat.eq_zero_or_pos m with h0|h0
        · exact h0
        · obtain ⟨b,o,hA,_⟩:=hB h0;cases hA
      subst hm
      have hr:=xZ (P:=P) (w:=w) 0 t ty e i sz ht hi _ n _ hown none rfl c'
      refine ⟨A,c,w,hr,?_,Keeps.refl _ _,fun k hk => .inl hk⟩
      rcases h with ⟨h1,h2,h3⟩|⟨b,cs,h1,h2,h3,h4,h5,h6⟩
      · exact .inl ⟨h1,h2,h3⟩
      · exact .inr ⟨b,cs,h1,h2,h3,h4,h5,fun k j hk hj=>by rw [h6 k j hk hj];simp [capp];intro hh;omega⟩
    · have hnews:∀ (j:Nat) u,(flat sz m cell')[j]?=some u→w.cell? (ad.add j)=some u:=by
        intro j u hu
        have hjl:j<m*sz:=by
          have:=(List.getElem?_eq_some_iff.1 hu).1
          simpa [flat] using this
        have hm0:0<m:=by
          rcases Nat.eq_zero_or_pos m with h0|h0
          · subst h0;omega
          · exact h0
        obtain ⟨b,o,hA,_,_,hc⟩:=hB hm0
        injection hA with hA
        subst hA
        rw [iN]
        have hk:j/sz<m:=(Nat.div_lt_iff_lt_mul hpos).2 hjl
        have hj:j%sz<sz:=Nat.mod_lt _ hpos
        have he:j/sz*sz+j%sz=j:=by rw [Nat.mul_comm];exact Nat.div_add_mod j sz
        have h1:=hc _ _ hk hj
        have h2:=iT (cell:=cell') hk hj
        rw [he,hu,Option.some.injEq] at h2
        rw [Nat.add_assoc,he] at h1
        rw [h1,h2]
      have hone':∀ u ∈ flat sz m cell',u.oneCell'=true:=by
        intro u hu
        simp only [flat,List.mem_map,List.mem_range] at hu
        obtain ⟨q,hq,rfl⟩:=hu
        exact hone _ _ ((Nat.div_lt_iff_lt_mul hpos).2 hq) (Nat.mod_lt _ hpos)
      obtain ⟨v',w',h1,h2,h3,_,h5⟩:=run_append_own_at (P:=P) w 0 t ty e i z sz by_ ht hi hz1 hs hby hzsz hpos _ n _ hown ad m c' (flat sz m cell') (by simp [flat]) hnews hone' (by simp only [maxLen];omega) hlen (Nat.zero_le _)
      obtain ⟨A',c1,rfl,h6,h7⟩:=Dc (cell:=capp n cell cell') h2 hfl
      refine ⟨A',c1,w',h1,h6,?_,?_⟩
      · refine (Keeps.of_grown h3).mono fun k hk=>?_
        cases A with
        | none=>cases hk
        | some aa=>exact ⟨aa,rfl,by simpa [Value.ownBlock] using hk⟩
      · rintro k ⟨aa,rfl,rfl⟩
        rcases h5 with h5|h5
        · rw [hblk] at h5
          cases A with
          | none=>simp [Value.ownBlock] at h5
          | some a0=>
            refine .inl ⟨a0,rfl,?_⟩
            simpa [Value.ownBlock] using h5.symm
        · refine .inr ?_
          have e1:aa.block=w.heap.size:=by simpa [Value.ownBlock] using h5
          have e2:=h2.lt aa.block (by simp [Value.ownBlock])
          exact ⟨by omega,e2.2⟩
theorem aZ {d t e sz by_ i n c m c':Nat} {x y:Operand} {zs:List Value} {A B:Option Addr} {cell cell':Nat→Nat→Value} (H:Fr N L a) (hd:Nat.blt d N.n=true) (S:St w0 F0 R w) (ht:SlT P t e) (hs:Sz P e sz) (hz:Zero P e zs) (hby:Bytes P e by_) (hzs:Nat.beq zs.length sz=true) (hpos:Nat.blt 0 sz=true)
    (hi:R[i]?=some (ownM e sz A n c cell)) (hx:ev L x=some (.slice A n c)) (hy:ev L y=some (.slice B m c')) (hB:InS w noF sz B m cell') (hone:∀ k j,k<m→j<sz→(cell' k j).oneCell'=true)
    (hlen:(n+m)*by_≤140737488355328) (hlen2:n+m≤9223372036854775807)
    (k:∀ A' c1 w' a',St w0 F0 (R.set i (ownM e sz A' (n+m) c1 (capp n cell cell'))) w'→Fr N ((d,.slice A' (n+m) c1)::L) a'→wpList P ops Q rest a' w') :
    wpList P ops Q (⟨some d,.call ⟨.builtin .append,#[x,y],#[t,t]⟩,ty,pos,af,none⟩::rest) a w:=by
  refine wpList_plain rfl fun K hK=>?_
  unfold Oper.wp
  obtain ⟨A',c1,w',h1,h2,h3,h4⟩:=Oj (P:=P) (w:=w) (c':=c') ht hs hz hby (Nat.eq_of_beq_eq_true hzs) (by simpa using hpos) (S.holds hi) hB hone hlen hlen2 ty
  have e1:(execOp a.eval ⟨some d,.call ⟨.builtin .append,#[x,y],#[t,t]⟩,ty,pos,af,none⟩).run P w = .ok (.value (.slice A' (n+m) c1)) w':=by
    simp [execOp,resolve,H.eval hx,H.eval hy,invoke,builtin,h1]
  rw [e1]
  exact hK _ _ (k A' c1 _ _ (S.upd hi h3 h2 h4) (H.put _ hd))
theorem cA {i b:Nat} {t:TypeId} {cs:List Value} (S:St w0 F0 R w) (hi:R[i]?=some (boxM b t cs)):∀ (j:Nat) v,cs[j]?=some v→w.cell? ⟨b,0+j,none⟩=some v:=by
  intro j v hv
  rw [Nat.zero_add]
  exact boxM.rd S hi hv
section
variable {d:Option Nat} {g:Option (Nat×Bool)}
theorem aB {x:Operand} {t n b o i:Nat} {bt:TypeId} {cs:List Value} (hA:Agg P t) (hs:Sz P t n) (hx:ev L x=some (.pointer (some ⟨b,o,none⟩))) (S:St w0 F0 R w) (hi:R[i]?=some (boxM b bt cs)) (hle:Nat.ble (o+n) cs.length=true) :
    Does P L ⟨d,.load t x,ty,pos,af,g⟩ w (.agg ((cs.drop o).take n).toArray):=by
  have hle':o+n≤cs.length:=by simpa using hle
  refine cC hA (by           have:((cs.drop o).take n).length=n:=by simp;omega
                             rw [this];exact hs) hx fun j v hv=>?_
  refine boxM.rd S hi ?_
  rw [List.getElem?_take] at hv
  split at hv
  · rw [List.getElem?_drop] at hv;exact hv
  · cases hv
def cellsOf (cell:Nat→Nat→Value) (k:Nat):Nat→Nat→List Value
  | _,0=>[]
  | j,n+1=>cell k j::cellsOf cell k (j+1) n
theorem jC (cell:Nat→Nat→Value) (k:Nat):∀ (n j:Nat),(cellsOf cell k j n).length=n:=by
  intro n;induction n with
  | zero=>intro j;rfl
  | succ n ih=>intro j;simp [cellsOf,ih]
theorem pR (cell:Nat→Nat→Value) (k:Nat):∀ (n j i:Nat),i<n→(cellsOf cell k j n)[i]?=some (cell k (j+i)):=by
  intro n;induction n with
  | zero=>intro j i h;omega
  | succ n ih=>
    intro j i h
    cases i with
    | zero=>rfl
    | succ i=>
      simp only [cellsOf,List.getElem?_cons_succ]
      rw [ih (j+1) i (by omega)]
      congr 2;omega
theorem aT {x:Operand} {t n sz k j m:Nat} {A:Option Addr} {cell:Nat→Nat→Value} (hA:Agg P t) (hs:Sz P t n) (hx:ev L x=some (.pointer (some (pt A sz k j)))) (S:St w0 F0 R w) (hl:InS w0 F0 sz A m cell) (hk:k<m) (hj:j+n≤sz) :
    Does P L ⟨d,.load t x,ty,pos,af,g⟩ w (.agg (cellsOf cell k j n).toArray):=by
  refine cC hA (by rw [jC];exact hs) hx fun i v hv=>?_
  have hin:i<n:=by have:=(List.getElem?_eq_some_iff.1 hv).1;rw [jC] at this;exact this
  rw [pR cell k n j i hin,Option.some.injEq] at hv
  rw [←hv,Nat.add_assoc]
  exact hl.rd S hk (by omega)
theorem vK {x:Operand} {t n sz k j m c i:Nat} {e:TypeId} {A:Option Addr} {cell:Nat→Nat→Value} (hA:Agg P t) (hs:Sz P t n) (hx:ev L x=some (.pointer (some (pt A sz k j)))) (S:St w0 F0 R w) (hi:R[i]?=some (ownM e sz A m c cell)) (hk:k<m) (hj:j+n≤sz) :
    Does P L ⟨d,.load t x,ty,pos,af,g⟩ w (.agg (cellsOf cell k j n).toArray):=by
  refine cC hA (by rw [jC];exact hs) hx fun q v hv=>?_
  have hin:q<n:=by have:=(List.getElem?_eq_some_iff.1 hv).1;rw [jC] at this;exact this
  rw [pR cell k n j q hin,Option.some.injEq] at hv
  rw [←hv,Nat.add_assoc]
  exact ownM.rd S hi hk (by omega)
theorem vL {t e sz len b o:Nat} {k:IntKind} {i:Int} (hu:P.underlying t=some (.array len e)) (hs:Sz P e sz) (h0:0≤i) (hn:i<len) :
    (Instr.indexAt t (.pointer (some ⟨b,o,none⟩)) (.int k i)).run P w = .ok (.pointer (some ⟨b,o+i.toNat*sz,none⟩)) w:=by
  simp [Instr.indexAt,asIntOf,bU hu,h0,hn,hs.run,Instr.sureAddr,iN]
theorem eD {x i:Operand} {t e sz len b o:Nat} {k:IntKind} {j:Int} (hu:P.underlying t=some (.array len e)) (hs:Sz P e sz) (hx:ev L x=some (.pointer (some ⟨b,o,none⟩))) (hi:ev L i=some (.int k j)) (h0:0≤j) (hn:j<len) :
    Does P L ⟨d,.indexAddr t x i,ty,pos,af,g⟩ w (.pointer (some ⟨b,o+j.toNat*sz,none⟩)):=fun ρ hρ=>by
  simp [execOp,hρ _ _ hx,hρ _ _ hi,vL hu hs h0 hn]
def fillL (place:List (Nat×Nat)):List Value→List (Nat×List Value)→Option (List Value)
  | cs,[]=>some cs
  | cs,(i,vs)::rest=>match place[i]? with
    | none=>none
    | some (off,size)=>bif Nat.beq vs.length size&&Nat.ble (off+vs.length) cs.length then fillL place (gW cs off vs) rest else none
theorem yA (cs:Array Value) (off:Nat) (v:Value) (h:off+v.cells.toList.length≤cs.size) :
    v.cells.zipIdx.foldl (fun (cs:Array Value) (x:Value×Nat)=>cs.setIfInBounds (off+x.2) x.1) cs=(gW cs.toList off v.cells.toList).toArray:=by
  have e:v.cells.zipIdx.foldl (fun (cs:Array Value) (x:Value×Nat)=>cs.setIfInBounds (off+x.2) x.1) cs=(v.cells.toList.zipIdx 0).foldl (fun (cs:Array Value) (p:Value×Nat)=>cs.setIfInBounds (off+p.2) p.1) cs:=by
    rw [←Array.foldl_toList,Array.toList_zipIdx]
  rw [e]
  apply Array.ext_getElem?
  intro i
  have hf:=xY v.cells.toList 0 off cs i (by omega)
  rw [hf,jO _ _ _ (by simpa using h)]
  simp only [Nat.add_zero,List.getElem?_toArray]
  by_cases h1:off≤i∧i<off+v.cells.toList.length
  · rw [if_pos h1,List.append_assoc,List.getElem?_append_right (by simp;omega)]
    simp only [List.length_take,Array.length_toList]
    rw [Nat.min_eq_left (by omega),List.getElem?_append_left (by simp at h1 ⊢;omega)]
  · rw [if_neg h1]
    rcases Nat.lt_or_ge i off with h2|h2
    · rw [List.append_assoc,List.getElem?_append_left (by simp;omega),List.getElem?_take_of_lt h2];simp
    · have h3:off+v.cells.toList.length≤i:=by omega
      rw [List.getElem?_append_right (by simp at h3 ⊢;omega),List.getElem?_drop]
      simp only [List.length_append,List.length_take,Array.length_toList]
      simp at h h3
      rw [Nat.min_eq_left (by omega),show off+v.cells.size+(i-(off+v.cells.size))=i by omega]
      simp
theorem Ol (place:List (Nat×Nat)) (f:Nat→Option (Nat×Nat)) (hf:∀ i p,place[i]?=some p→f i=some p):∀ (parts:List (Nat×Value)) (cs cs':List Value),fillL place cs (parts.map fun p=>(p.1,p.2.cells.toList))=some cs' →
    Instr.fill f cs.toArray parts=some cs'.toArray:=by
  intro parts
  induction parts with
  | nil=>intro cs cs' h;simp only [List.map_nil,fillL,Option.some.injEq] at h;subst h;rfl
  | cons p parts ih=>
    intro cs cs' h
    obtain ⟨i,v⟩:=p
    simp only [List.map_cons,fillL] at h
    simp only [Instr.fill]
    cases hp:place[i]? with
    | none=>rw [hp] at h;cases h
    | some q=>
      obtain ⟨off,size⟩:=q
      rw [hp] at h
      rw [hf i _ hp]
      simp only at h ⊢
      cases hc:(Nat.beq v.cells.toList.length size&&Nat.ble (off+v.cells.toList.length) cs.length)
      · rw [hc] at h;cases h
      · rw [hc] at h
        simp only [cond_true] at h
        simp only [Bool.and_eq_true] at hc
        have h1:v.cells.size=size:=by have:=Nat.eq_of_beq_eq_true hc.1;simpa using this
        have h2:off+v.cells.toList.length≤cs.length:=by have:=hc.2;simpa using this
        have hne:¬ ((decide (v.cells.size≠size)||decide (off+v.cells.size > cs.toArray.size))=true):=by
          simp [h1];simp at h2;omega
        rw [if_neg hne,yA _ _ _ (by simpa using h2)]
        exact ih _ _ h
def dE (P:Program) (t:Nat) (place:List (Nat×Nat)) (zs:List Value):Prop:=
  Zero P t zs∧match P.underlying t with
    | some (.struct fs)=>fs.toList.map (fun f=>(f.offset,((P.info? f.type).map (·.size)).getD 0))=place∧(fs.toList.all fun f=>(P.info? f.type).isSome)=true
    | some (.array n e)=>((P.info? e).map (·.size)).isSome=true∧(List.range n).map (fun i=>(i*((P.info? e).map (·.size)).getD 0,((P.info? e).map (·.size)).getD 0))=place∧place.length=n
    | _=>False
def nM (L:List (Nat×Value)):List (Nat×Operand)→Option (List (Nat×List Value))
  | []=>some []
  | (i,x)::r=>match ev L x with
    | some v=>match nM L r with
      | some q=>some ((i,v.cells.toList)::q)
      | none=>none
    | none=>none
theorem At {ρ:Operand→Value} (hρ:∀ x u,ev L x=some u→ρ x=u):∀ (l:List (Nat×Operand)) (pv:List (Nat×List Value)),nM L l=some pv→(l.map fun p=>(p.1,ρ p.2)).map (fun p=>(p.1,p.2.cells.toList))=pv:=by
  intro l
  induction l with
  | nil=>intro pv h;simp only [nM,Option.some.injEq] at h;subst h;rfl
  | cons p l ih=>
    intro pv h
    obtain ⟨i,x⟩:=p
    simp only [nM] at h
    split at h
    · rename_i v hv
      split at h
      · rename_i q hq
        simp only [Option.some.injEq] at h
        subst h
        simp only [List.map_cons,hρ _ _ hv,ih _ hq]
      · cases h
    · cases h
theorem Fj:∀ (l:List Field),(l.all fun f=>(P.info? f.type).isSome)=true →
    (l.mapM (m:=Sem) fun f=>do pure (f.offset,←sizeOf f.type)).run P w = .ok (l.map (fun f=>(f.offset,((P.info? f.type).map (·.size)).getD 0))) w:=by
  intro l
  induction l with
  | nil=>intro _;simp
  | cons f l ih=>
    intro h
    simp only [List.all_cons,Bool.and_eq_true] at h
    cases hi:P.info? f.type with
    | none=>rw [hi] at h;simp at h
    | some i=>
      have hs:(sizeOf f.type).run P w = .ok i.size w:=by simp [sizeOf,typeInfo,hi]
      rw [List.mapM_cons]
      simp only [Sem.run_bind,hs,Result.andThen_ok,Sem.run_pure,ih h.2,List.map_cons,hi,Option.map_some,Option.getD_some]
theorem aO {t:Nat} {parts:Array (Nat×Operand)} {place:List (Nat×Nat)} {zs cs:List Value} {pv:List (Nat×List Value)} (hb:dE P t place zs) (hp:nM L parts.toList=some pv) (hf:fillL place zs pv=some cs) :
    Does P L ⟨d,.build t parts,ty,pos,af,g⟩ w (.agg cs.toArray):=fun ρ hρ=>by
  obtain ⟨hz,hb⟩:=hb
  have hpe:=At hρ _ _ hp
  have hfe:=fun f hff=>Ol place f hff ((parts.toList.map fun p=>(p.1,ρ p.2))) zs cs (by rw [hpe];exact hf)
  have hpa:(parts.map fun (p:Nat×Operand)=>(p.1,ρ p.2)).toList=parts.toList.map fun p=>(p.1,ρ p.2):=by simp
  unfold Zero at hz
  cases hi:P.info? t with
  | none=>rw [hi] at hz;simp at hz
  | some i=>
    rw [hi] at hz
    simp at hz
    obtain ⟨z,hz1,hz2⟩:=hz
    have hz3:z.cells=zs.toArray:=by rw [←hz2,Array.toArray_toList]
    cases hu:P.underlying t with
    | none=>rw [hu] at hb;exact hb.elim
    | some dsc=>
      rw [hu] at hb
      have key : (Instr.build t (parts.map fun (p:Nat×Operand)=>(p.1,ρ p.2))).run P w = .ok (.agg cs.toArray) w:=by
        cases dsc with
        | struct fs=>
          obtain ⟨h1,h2⟩:=hb
          have hm:(fs.mapM (m:=Sem) fun f=>do pure (f.offset,←sizeOf f.type)).run P w = .ok place.toArray w:=by
            rw [Array.mapM_eq_mapM_toList]
            have:=Fj (P:=P) (w:=w) fs.toList h2
            simp only [map_eq_pure_bind,Sem.run_bind,this,h1]
            simp
          have hfe':Instr.fill (fun i=>place.toArray[i]?) zs.toArray (parts.map fun (p:Nat×Operand)=>(p.1,ρ p.2)).toList=some cs.toArray:=by
            rw [hpa]
            exact hfe _ (fun i p h=>by simpa using h)
          simp only [Instr.build,zeroValue,typeInfo,Sem.run_bind,run_program,Result.andThen_ok,hi,Sem.run_pure,hz1,bU hu,hm,hz3]
          simp only [hfe']
          simp
        | array n e=>
          obtain ⟨h1,h2,h3⟩:=hb
          cases he:P.info? e with
          | none=>rw [he] at h1;simp at h1
          | some ie=>
            have hs:(sizeOf e).run P w = .ok ie.size w:=by simp [sizeOf,typeInfo,he]
            have hfe':Instr.fill (fun i=>some (i*ie.size,ie.size)) zs.toArray (parts.map fun (p:Nat×Operand)=>(p.1,ρ p.2)).toList=some cs.toArray:=by
              rw [hpa]
              refine hfe _ (fun i p h=>?_)
              rw [←h2,he] at h
              simp only [List.getElem?_map,Option.map_some,Option.getD_some] at h
              cases hr:(List.range n)[i]? with
              | none=>rw [hr] at h;cases h
              | some q=>
                rw [hr] at h
                have hq:q=i:=by
                  have:=List.getElem?_eq_some_iff.1 hr
                  obtain ⟨hh,hh2⟩:=this
                  simp at hh2
                  exact hh2.symm
                subst hq
                exact h
            simp only [Instr.build,zeroValue,typeInfo,Sem.run_bind,run_program,Result.andThen_ok,hi,Sem.run_pure,hz1,bU hu,hs,hz3]
            simp only [hfe']
            simp
        | _=>exact hb.elim
      simp only [execOp]
      have e2:(parts.map fun x=>match x with|(i,x)=>(i,ρ x))=(parts.map fun (p:Nat×Operand)=>(p.1,ρ p.2)):=rfl
      simp [e2,key]
end
theorem loop_st {c:Code} {X:Type} {L0:List (Nat×Value)} {R0:List Mem} (ks:List Nat) (H:Fr N L a) (_hk:pick ks L=some L0) (F:X→List (Nat×Value)) (M:X→List Mem) (Pr:Nat→X→Prop)
    (n0:Nat) (x0:X) (h0:Pr n0 x0) (S0:St w0 F0 (M x0++R0) w) (H0:Fr N (F x0++L0) a)
    (round:∀ g x a w,Pr g x→St w0 F0 (M x++R0) w→Fr N (F x++L0) a→∀ K:Act→World→Prop,(∀ g' x' a' w',g'<g→Pr g' x'→St w0 F0 (M x'++R0) w'→Fr N (F x'++L0) a'→K a' w')→c.wp P (Exit.then K Q) a w) :
    (Code.loop c).wp P Q a w:=
  loop_ (fun g a w=>∃ x,Pr g x∧St w0 F0 (M x++R0) w∧Fr N (F x++L0) a) n0 ⟨x0,h0,S0,H0⟩
    fun g a w ⟨x,hp,S,H⟩ K hK=>round g x a w hp S H K fun g' x' a' w' hlt hp' S' H'=>hK g' a' w' hlt ⟨x',hp',S',H'⟩
theorem meet_sr {x y:Code} {X:Type} {L0:List (Nat×Value)} {R0:List Mem} (ks:List Nat) (H:Fr N L a) (_hk:pick ks L=some L0) (F:X→List (Nat×Value)) (M:X→List Mem) (Pr:X→Prop)
    (_SR:St w0 F0 R0 w)
    (h1:∀ K:Act→World→Prop,(∀ x a' w',Pr x→St w0 F0 (M x++R0) w'→Fr N (F x++L0) a'→K a' w')→x.wp P (Exit.then K Q) a w)
    (h2:∀ x a' w',Pr x→St w0 F0 (M x++R0) w'→Fr N (F x++L0) a'→y.wp P Q a' w'):(Code.seq x y).wp P Q a w:=
  Jb (fun a w=>∃ x,Pr x∧St w0 F0 (M x++R0) w∧Fr N (F x++L0) a) (fun K hK=>h1 K fun x a' w' hp S' H'=>hK a' w' ⟨x,hp,S',H'⟩) fun a w ⟨x,hp,S',H'⟩=>h2 x a w hp S' H'
end
section
variable {P:Program} {ops:Array Oper} {w w0:World} {F0:Nat→Prop} {R:List Mem} {Q:Exit→Act→World→Prop} {rest:List Oper} {N:FN} {L:List (Nat×Value)} {a:Act} {ty:TypeId} {pos:String} {af:Array Edge}
end
section
variable {P:Program} {w:World} {L:List (Nat×Value)} {ty:TypeId} {pos:String} {af:Array Edge} {dd:Option Nat} {g:Option (Nat×Bool)} {x y:Operand} {xt yt:TypeId} {k:IntKind} {m n:Int}
theorem oX (hx:ev L x=some (.int k m)) (hy:ev L y=some (.int k n)) (h:n<m):Does P L ⟨dd,.binOp .gtr xt x y yt,ty,pos,af,g⟩ w (.bool true):=(bX hx hy).to (congrArg Value.bool (decide_eq_true h))
theorem oY (hx:ev L x=some (.int k m)) (hy:ev L y=some (.int k n)) (h:¬ n<m):Does P L ⟨dd,.binOp .gtr xt x y yt,ty,pos,af,g⟩ w (.bool false):=(bX hx hy).to (congrArg Value.bool (decide_eq_false h))
end
end
section
def NoQ:Exit→Act→World→Prop:=fun _ _ _=>False
section
variable {P:Program} {ops:Array Oper} {C:World→Prop} {Qn:Act→World→Prop}
def Yd (P:Program) (ops:Array Oper) (C:World→Prop) (o:Oper) (v:Value) (a:Act):Prop:=
  (Region.wanted o (yielded ops a.tmps)=true∧∀ w,C w→(execOp a.eval o).run P w = .ok (.value v) w)∨(Region.wanted o (yielded ops a.tmps)=false∧v=undef)
theorem Yd.same {o:Oper} {v:Value} {a a':Act} (hy:Yd P ops C o v a) (he:execOp a'.eval o=execOp a.eval o) (hw:Region.wanted o (yielded ops a'.tmps)=Region.wanted o (yielded ops a.tmps)):Yd P ops C o v a':=by
  unfold Yd at *;rw [he,hw];exact hy
def anyC (P:Program) (ops:Array Oper) (C:World→Prop) (Qn:Act→World→Prop):Nat→Array Bool→Act→World→Prop
  | 0,listed,a,w=>Region.ready .any ops listed=[]∧Qn a w
  | fuel+1,listed,a,w=>(Region.ready .any ops listed=[]→Qn a w) ∧
      ∀ i ∈ Region.ready .any ops listed,wpOp P ops NoQ i (fun a' w'=>C w'∧anyC P ops C Qn fuel (listed.setIfInBounds i true) a' w') a w
theorem Au {o:Oper} {a:Act} {K:Act→World→Prop} {Q:Exit→Act→World→Prop} {r:Result Next} (h:o.upon P a K NoQ r):o.upon P a K Q r:=by
  cases r with
  | ok n w'=>
    cases n <;> simp only [Oper.upon] at h ⊢ <;> first
      | exact h
      | exact Calls.mono h (fun e w'' he=>by
          cases e with
          | returned v=>exact he
          | panicked c=>exact he.elim
          | outgrown=>obtain ⟨_,_,hh⟩:=he;exact hh.elim)
  | halt x w'=>cases x <;> simp only [Oper.upon] at h ⊢ <;> first|exact h|exact h.elim
theorem Jd {Q:Exit→Act→World→Prop} {i:Nat} {K:Act→World→Prop} {a:Act} {w:World} (h:wpOp P ops NoQ i K a w):wpOp P ops Q i K a w:=by
  unfold wpOp at *
  split
  · rename_i ho;simp only [ho] at h;exact h
  · rename_i o ho
    simp only [ho] at h
    split
    · rename_i hw
      simp only [hw,if_true] at h
      rcases h with h|⟨_,_,_,h⟩
      · exact .inl (Au h)
      · exact h.elim
    · rename_i hw
      simp only [hw] at h
      exact h
theorem pS {Q:Exit→Act→World→Prop} (hQ:∀ a w,Qn a w→Q .normal a w):∀ (fuel:Nat) (listed:Array Bool) (a:Act) (w:World),anyC P ops C Qn fuel listed a w→wpAny P .any ops Q fuel listed a w
  | 0,_,_,_,h=>⟨h.1,hQ _ _ h.2⟩
  | fuel+1,_,_,_,h=>⟨fun hr=>hQ _ _ (h.1 hr),fun i hi=>wpOp_mono (fun a' w' h'=>pS hQ fuel _ a' w' h'.2) (Jd (h.2 i hi))⟩
theorem Av {i j:Nat} {oi oj:Oper} {v:Value} (hj:ops[j]?=some oj) (hap:oi.apart ops oj=true) (hsi:∀ cs b,oi.op ≠ .select cs b) (hsj:∀ cs b,oj.op ≠ .select cs b)
    {K:Act→World→Prop} {a:Act} {w:World} (hy:Yd P ops C oi v a) (h:wpOp P ops NoQ j K (a.put oi.dst v) w) :
    wpOp P ops NoQ j (fun a' w'=>Yd P ops C oi v a'∧K (a'.put oi.dst v) w') a w:=by
  obtain ⟨h1,h2,h3⟩:=Oper.apart_spec hap
  have keep:∀ (b:Act),Yd P ops C oi v b→∀ u,Yd P ops C oi v (b.put oj.dst u):=fun b hb u=>hb.same (execOp_put oi hsi b oj.dst u h3) (wanted_put oi b oj.dst u h3)
  unfold wpOp at *
  simp only [hj] at *
  rw [wanted_put oj a oi.dst v h1] at h
  by_cases hw:Region.wanted oj (yielded ops a.tmps)=true
  · rw [if_pos hw] at h ⊢
    rcases h with h|⟨_,_,_,hf⟩
    · refine .inl ?_
      unfold Oper.wp at *
      rw [execOp_put oj hsj a oi.dst v h1] at h
      revert h
      generalize (execOp a.eval oj).run P w=r
      intro h
      cases r with
      | ok n w'=>
        cases n with
        | value u=>exact ⟨keep a hy u,by rw [←Act.put_comm a v u h2];exact h⟩
        | skip=>exact ⟨keep a hy _,by rw [←Act.put_comm a v undef h2];exact h⟩
        | defer d=>
          have hd:Yd P ops C oi v { a with defers:=d::a.defers }:=hy.same G G
          refine ⟨keep _ hd _,?_⟩
          rw [←Act.put_comm _ v undef h2,←Act.put_defers]
          exact h
        | enter f args=>
          refine Calls.mono h fun e w'' he=>?_
          cases e with
          | returned u=>exact ⟨keep a hy u,by rw [←Act.put_comm a v u h2];exact he⟩
          | panicked c=>exact he
          | outgrown=>exact he
        | row row args=>exact Rows.mono h fun u w'' he=>⟨keep a hy u,by rw [←Act.put_comm a v u h2];exact he⟩
        | _=>exact h
      | halt x w'=>cases x <;> exact h
    · exact hf.elim
  · rw [if_neg hw] at h ⊢
    exact ⟨keep a hy _,by rw [←Act.put_comm a v undef h2];exact h⟩
theorem iO {i:Nat} {o:Oper} {v:Value} {a:Act} {w:World} {K:Act→World→Prop} (hi:ops[i]?=some o) (hy:Yd P ops C o v a) (hC:C w) (h:K (a.put o.dst v) w):wpOp P ops NoQ i K a w:=by
  unfold wpOp
  simp only [hi]
  rcases hy with ⟨hw,hv⟩|⟨hw,rfl⟩
  · rw [if_pos hw]
    refine .inl ?_
    unfold Oper.wp
    rw [hv w hC]
    exact h
  · rw [if_neg (by rw [hw];simp)]
    exact h
theorem Aw {i:Nat} {oi:Oper} {v:Value} (hi:ops[i]?=some oi) (hsel:∀ (j:Nat) (o:Oper) cs b,ops[j]?=some o→o.op ≠ .select cs b) :
    ∀ (fuel:Nat) (listed:Array Bool) (a:Act) (w:World),
      (∀ j oj,ops[j]?=some oj→j≠i→listed.getD j true=false→(∀ e ∈ oj.after,Region.binds .any e=true→e.on≠i)→oi.apart ops oj=true) →
      i ∈ Region.ready .any ops listed→Yd P ops C oi v a→C w →
      anyC P ops C Qn fuel (listed.setIfInBounds i true) (a.put oi.dst v) w→anyC P ops C Qn (fuel+1) listed a w:=by
  intro fuel
  induction fuel with
  | zero=>
    intro listed a w _ hr hy hC H
    refine ⟨fun h=>(by rw [h] at hr;cases hr),fun j hj=>?_⟩
    by_cases hji:j=i
    · subst hji;exact iO hi hy hC ⟨hC,H⟩
    · have h1:=ready_mono hj hji
      rw [H.1] at h1
      cases h1
  | succ fuel ih=>
    intro listed a w hfree hr hy hC H
    refine ⟨fun h=>(by rw [h] at hr;cases hr),fun j hj=>?_⟩
    by_cases hji:j=i
    · subst hji;exact iO hi hy hC ⟨hC,H⟩
    · have h1:=H.2 j (ready_mono hj hji)
      obtain ⟨hjun,oj,hoj,hall⟩:=mem_ready.1 hj
      have hiun:=(mem_ready.1 hr).1
      have hnot:∀ e ∈ oj.after,Region.binds .any e=true→e.on≠i:=by
        intro e he hb heq
        have h2:=hall e he hb
        rw [heq] at h2
        rcases Nat.lt_or_ge i listed.size with h'|h'
        · simp [h'] at hiun h2;rw [hiun] at h2;cases h2
        · simp [Array.getElem?_eq_none h'] at h2
      have h2:=Av (i:=i) hoj (hfree j oj hoj hji hjun hnot) (fun cs b=>hsel i oi cs b hi) (fun cs b=>hsel j oj cs b hoj) hy h1
      refine wpOp_mono (fun a' w' h3=>?_) h2
      obtain ⟨hy',hC',h3⟩:=h3
      refine ⟨hC',ih (listed.setIfInBounds j true) a' w' ?_ (ready_mono hr (fun e=>hji e.symm)) hy' hC' ?_⟩
      · intro k ok hk hki hun hno
        refine hfree k ok hk hki ?_ hno
        by_cases hjk:j=k
        · subst hjk;exact hjun
        · rw [getD_set_ne true hjk] at hun;exact hun
      · rw [Array.setIfInBounds_comm _ _ hji]
        exact h3
def wq (P:Program) (ops:Array Oper) (C:World→Prop) (Qn:Act→World→Prop):List (Nat×Bool)→Act→World→Prop
  | [],a,w=>Qn a w
  | (i,true)::π,a,w=>∃ o v,ops[i]?=some o∧Yd P ops C o v a∧wq P ops C Qn π (a.put o.dst v) w
  | (i,false)::π,a,w=>wpOp P ops NoQ i (fun a' w'=>C w'∧wq P ops C Qn π a' w') a w
def ckq (ops:Array Oper):List (Nat×Bool)→Array Bool→Bool
  | [],listed=>(Region.ready .any ops listed).isEmpty
  | (i,true)::π,listed=>(Region.ready .any ops listed).contains i&&Region.free .any ops listed i&&ckq ops π (listed.setIfInBounds i true)
  | (i,false)::π,listed=>(match Region.ready .any ops listed with|[j]=>Nat.beq i j|_=>false)&&ckq ops π (listed.setIfInBounds i true)
theorem rG (hs:Region.noSelect ops=true):∀ (π:List (Nat×Bool)) (listed:Array Bool) (a:Act) (w:World),ckq ops π listed=true→C w→wq P ops C Qn π a w→anyC P ops C Qn π.length listed a w:=by
  intro π
  induction π with
  | nil=>
    intro listed a w hc _ h
    exact ⟨by simpa [ckq] using hc,h⟩
  | cons p π ih=>
    intro listed a w hc hC h
    obtain ⟨i,b⟩:=p
    cases b with
    | true=>
      simp only [ckq,Bool.and_eq_true] at hc
      obtain ⟨⟨hr,hf⟩,hc'⟩:=hc
      obtain ⟨o,v,ho,hy,h'⟩:=h
      exact Aw ho (Region.noSelect_spec hs) π.length listed a w (Region.free_spec ho hf) (by simpa using hr) hy hC (ih _ _ _ hc' hC h')
    | false=>
      simp only [ckq,Bool.and_eq_true] at hc
      obtain ⟨hr,hc'⟩:=hc
      have hri:Region.ready .any ops listed=[i]:=by
        revert hr
        cases Region.ready .any ops listed with
        | nil=>intro hr;cases hr
        | cons j t=>
          cases t with
          | nil=>intro hr;have:=Nat.eq_of_beq_eq_true hr;rw [this]
          | cons _ _=>intro hr;cases hr
      refine ⟨fun h0=>(by rw [hri] at h0;cases h0),fun j hj=>?_⟩
      rw [hri] at hj
      have:j=i:=by simpa using hj
      subst this
      exact wpOp_mono (fun a' w' h'=>⟨h'.1,ih _ _ _ hc' h'.1 h'.2⟩) h
def ckAll (ops:Array Oper) (π:List (Nat×Bool)):Bool:=Region.noSelect ops&&ckq ops π (Array.replicate ops.size false)&&Nat.beq π.length ops.size
theorem region_wq {id:Nat} {Q:Exit→Act→World→Prop} {a:Act} {w:World} (π:List (Nat×Bool)) (hm:P.follows .mixedOrders=true) (hck:ckAll ops π=true) (hC:C w.drew)
    (h:wq P ops C (fun a w=>Q .normal a w) π a w.drew):(Code.region id ops true).wp P Q a w:=by
  simp only [ckAll,Bool.and_eq_true] at hck
  obtain ⟨⟨h1,h2⟩,h3⟩:=hck
  refine wp_region_any hm (pS (C:=C) (Qn:=fun a w=>Q .normal a w) (fun _ _ h=>h) _ _ _ _ ?_)
  have h4:=rG h1 π _ a _ h2 hC h
  rw [Nat.eq_of_beq_eq_true h3] at h4
  exact h4
end
section
variable {P:Program} {w w0:World} {F0:Nat→Prop} {R RE:List Mem} {Q:Exit→Act→World→Prop} {Qn:Act→World→Prop} {l:List Oper} {N:FN} {L:List (Nat×Value)} {a:Act} {ty:TypeId} {pos:String} {af:Array Edge} {op:Op} {y:Code} {id:Nat} {ops:Array Oper} {π:List (Nat×Bool)}
theorem seq_wq (π:List (Nat×Bool)) (hm:P.follows .mixedOrders=true) (hck:ckAll l.toArray π=true) (SE:St w0 F0 RE w.drew)
    (h:∀ K:Act→World→Prop,(∀ a w,y.wp P Q a w→K a w)→wq P l.toArray (fun w'=>St w0 F0 RE w') K π a w.drew):(Code.seq (.region id l.toArray true) y).wp P Q a w:=
  wp_seq (region_wq π hm hck SE (h _ (fun _ _ h=>h)))
theorem one_wq (π:List (Nat×Bool)) (hm:P.follows .mixedOrders=true) (hck:ckAll l.toArray π=true) (SE:St w0 F0 RE w.drew)
    (h:wq P l.toArray (fun w'=>St w0 F0 RE w') (fun a w=>Q .normal a w) π a w.drew):(Code.region id l.toArray true).wp P Q a w:=region_wq π hm hck SE h
theorem bM {C:World→Prop} (h:Qn a w):wq P ops C Qn [] a w:=h
theorem Om {C:World→Prop} {i d:Nat} {v:Value} (H:Fr N L a) (hi:ops[i]?=some ⟨some d,op,ty,pos,af,none⟩) (hd:Nat.blt d N.n=true) (h:∀ w',C w'→Does P L ⟨some d,op,ty,pos,af,none⟩ w' v)
    (k:∀ a',Fr N ((d,v)::L) a'→wq P ops C Qn π a' w):wq P ops C Qn ((i,true)::π) a w:=
  ⟨_,v,hi,.inl ⟨rfl,fun w' hC=>h w' hC a.eval (fun x u hx=>H.eval hx)⟩,k _ (H.put v hd)⟩
theorem aF {C:World→Prop} {i d j g:Nat} {b:Bool} {v:Value} (H:Fr N L a) (hi:ops[i]?=some ⟨some d,op,ty,pos,af,some (j,b)⟩) (hd:Nat.blt d N.n=true) (hg:(ops[j]?).bind (·.dst)=some g) (hb:look L g=some (.bool b))
    (h:∀ w',C w'→Does P L ⟨some d,op,ty,pos,af,some (j,b)⟩ w' v)
    (k:∀ a',Fr N ((d,v)::L) a'→wq P ops C Qn π a' w):wq P ops C Qn ((i,true)::π) a w:=
  ⟨_,v,hi,.inl ⟨rB H hg hb,fun w' hC=>h w' hC a.eval (fun x u hx=>H.eval hx)⟩,k _ (H.put v hd)⟩
theorem aJ {C:World→Prop} {i d j g:Nat} {b c:Bool} (H:Fr N L a) (hi:ops[i]?=some ⟨some d,op,ty,pos,af,some (j,b)⟩) (hd:Nat.blt d N.n=true) (hg:(ops[j]?).bind (·.dst)=some g) (hc:look L g=some (.bool c)) (hne:(c == b)=false)
    (k:∀ a',Fr N ((d,undef)::L) a'→wq P ops C Qn π a' w):wq P ops C Qn ((i,true)::π) a w:=
  ⟨_,undef,hi,.inr ⟨uJ H hg hc hne,rfl⟩,k _ (H.put undef hd)⟩
def onlyN (K:Act→World→Prop):Exit→Act→World→Prop
  | .normal,a,w=>K a w
  | _,_,_=>False
theorem oZ {o:Oper} {K K':Act→World→Prop} {r:Result Next} (h:o.upon P a K (onlyN K') r):o.upon P a K NoQ r:=by
  cases r with
  | ok n w'=>
    cases n <;> simp only [Oper.upon] at h ⊢ <;> first
      | exact h
      | exact Calls.mono h (fun e w'' he=>by
          cases e with
          | returned v=>exact he
          | panicked c=>exact he.elim
          | outgrown=>obtain ⟨_,_,hh⟩:=he;exact hh.elim)
  | halt x w'=>cases x <;> simp only [Oper.upon] at h ⊢ <;> first|exact h|exact h.elim
theorem aU {C:World→Prop} {i:Nat} {o:Oper} (hi:ops[i]?=some o) (h:wpList P ops (onlyN fun a' w'=>C w'∧wq P ops C Qn π a' w') [o] a w):wq P ops C Qn ((i,false)::π) a w:=by
  show wpOp P ops NoQ i _ a w
  unfold wpOp
  simp only [hi]
  unfold wpList at h
  split
  · rename_i hw
    rw [if_pos hw] at h
    rcases h with h|⟨_,_,_,h⟩
    · exact .inl (oZ h)
    · exact h.elim
  · rename_i hw
    rw [if_neg hw] at h
    exact h
end
inductive Wt where
  | nil
  | q (i:Nat) (t:Wt)
  | p (i:Nat) (t:Wt)
  | e (i:Nat) (t:Wt)
  | b2 (i:Nat) (t:Wt) (j:Nat) (u:Wt)
  | b3 (i:Nat) (t:Wt) (j:Nat) (u:Wt) (k:Nat) (v:Wt)
section
variable {P:Program} {ops:Array Oper} {C:World→Prop} {Qn:Act→World→Prop}
def anyZ (P:Program) (ops:Array Oper) (C:World→Prop) (z:Nat) (Qn:Act→World→Prop):Bool→Nat→Array Bool→Act→World→Prop
  | _,0,listed,a,w=>Region.ready .any ops listed=[]∧Qn a w
  | f,fuel+1,listed,a,w=>(Region.ready .any ops listed=[]→Qn a w) ∧
      ∀ i ∈ Region.ready .any ops listed,wpOp P ops NoQ i (fun a' w'=>((f||Nat.beq i z)=true∨C w')∧anyZ P ops C z Qn (f||Nat.beq i z) fuel (listed.setIfInBounds i true) a' w') a w
theorem pT {z:Nat} {Q:Exit→Act→World→Prop} (hQ:∀ a w,Qn a w→Q .normal a w):∀ (f:Bool) (fuel:Nat) (listed:Array Bool) (a:Act) (w:World),anyZ P ops C z Qn f fuel listed a w→wpAny P .any ops Q fuel listed a w
  | _,0,_,_,_,h=>⟨h.1,hQ _ _ h.2⟩
  | f,fuel+1,_,_,_,h=>⟨fun hr=>hQ _ _ (h.1 hr),fun i hi=>wpOp_mono (fun a' w' h'=>pT hQ (f||Nat.beq i z) fuel _ a' w' h'.2) (Jd (h.2 i hi))⟩
theorem Je {i j:Nat} {listed:Array Bool} {oj:Oper} (hiun:listed.getD i true=false) (hall:∀ e ∈ oj.after,Region.binds .any e=true→listed.getD e.on false=true):∀ e ∈ oj.after,Region.binds .any e=true→e.on≠i:=by
  intro e he hb heq
  have h2:=hall e he hb
  rw [heq] at h2
  rcases Nat.lt_or_ge i listed.size with h'|h'
  · simp [h'] at hiun h2;rw [hiun] at h2;cases h2
  · simp [Array.getElem?_eq_none h'] at h2
theorem Ax {z i:Nat} {oi:Oper} {v:Value} (hi:ops[i]?=some oi) (hiz:Nat.beq i z=false) (hz:∀ oz,ops[z]?=some oz→∃ e ∈ oz.after,Region.binds .any e=true∧e.on=i) (hsel:∀ (j:Nat) (o:Oper) cs b,ops[j]?=some o→o.op ≠ .select cs b) :
    ∀ (fuel:Nat) (listed:Array Bool) (a:Act) (w:World),
      (∀ j oj,ops[j]?=some oj→j≠i→listed.getD j true=false→(∀ e ∈ oj.after,Region.binds .any e=true→e.on≠i)→oi.apart ops oj=true) →
      i ∈ Region.ready .any ops listed→Yd P ops C oi v a→C w →
      anyZ P ops C z Qn false fuel (listed.setIfInBounds i true) (a.put oi.dst v) w→anyZ P ops C z Qn false (fuel+1) listed a w:=by
  intro fuel
  induction fuel with
  | zero=>
    intro listed a w _ hr hy hC H
    refine ⟨fun h=>(by rw [h] at hr;cases hr),fun j hj=>?_⟩
    by_cases hji:j=i
    · subst hji;rw [hiz];exact iO hi hy hC ⟨.inr hC,H⟩
    · have h1:=ready_mono hj hji
      rw [H.1] at h1
      cases h1
  | succ fuel ih=>
    intro listed a w hfree hr hy hC H
    refine ⟨fun h=>(by rw [h] at hr;cases hr),fun j hj=>?_⟩
    by_cases hji:j=i
    · subst hji;rw [hiz];exact iO hi hy hC ⟨.inr hC,H⟩
    · have h1:=H.2 j (ready_mono hj hji)
      obtain ⟨hjun,oj,hoj,hall⟩:=mem_ready.1 hj
      have hnot:=Je (j:=j) (mem_ready.1 hr).1 hall
      have hjz:Nat.beq j z=false:=by
        cases hq:Nat.beq j z with
        | false=>rfl
        | true=>
          have:=Nat.eq_of_beq_eq_true hq
          subst this
          obtain ⟨e,he,hb,ho⟩:=hz oj hoj
          exact absurd ho (hnot e he hb)
      rw [hjz] at h1 ⊢
      have h2:=Av (i:=i) hoj (hfree j oj hoj hji hjun hnot) (fun cs b=>hsel i oi cs b hi) (fun cs b=>hsel j oj cs b hoj) hy h1
      refine wpOp_mono (fun a' w' h3=>?_) h2
      obtain ⟨hy',hC',h3⟩:=h3
      have hC2:C w':=by
        rcases hC' with h|h
        · cases h
        · exact h
      refine ⟨.inr hC2,ih (listed.setIfInBounds j true) a' w' ?_ (ready_mono hr (fun e=>hji e.symm)) hy' hC2 ?_⟩
      · intro k ok hk hki hun hno
        refine hfree k ok hk hki ?_ hno
        by_cases hjk:j=k
        · subst hjk;exact hjun
        · rw [getD_set_ne true hjk] at hun;exact hun
      · rw [Array.setIfInBounds_comm _ _ hji]
        exact h3
theorem Fk {z i:Nat} {oi:Oper} {v:Value} (hi:ops[i]?=some oi) (hiz:Nat.beq i z=false) (hsel:∀ (j:Nat) (o:Oper) cs b,ops[j]?=some o→o.op ≠ .select cs b) :
    ∀ (fuel:Nat) (f:Bool) (listed:Array Bool) (a:Act) (w:World),
      (∀ j oj,ops[j]?=some oj→j≠i→listed.getD j true=false→(∀ e ∈ oj.after,Region.binds .any e=true→e.on≠i)→oi.apart ops oj=true) →
      i ∈ Region.ready .any ops listed→Yd P ops (fun _=>True) oi v a→(f=true∨C w) →
      anyZ P ops C z Qn f fuel (listed.setIfInBounds i true) (a.put oi.dst v) w→anyZ P ops C z Qn f (fuel+1) listed a w:=by
  intro fuel
  induction fuel with
  | zero=>
    intro f listed a w _ hr hy hC H
    refine ⟨fun h=>(by rw [h] at hr;cases hr),fun j hj=>?_⟩
    by_cases hji:j=i
    · subst hji;rw [hiz,Bool.or_false];exact iO (C:=fun _=>True) hi hy trivial ⟨hC,H⟩
    · have h1:=ready_mono hj hji
      rw [H.1] at h1
      cases h1
  | succ fuel ih=>
    intro f listed a w hfree hr hy hC H
    refine ⟨fun h=>(by rw [h] at hr;cases hr),fun j hj=>?_⟩
    by_cases hji:j=i
    · subst hji;rw [hiz,Bool.or_false];exact iO (C:=fun _=>True) hi hy trivial ⟨hC,H⟩
    · have h1:=H.2 j (ready_mono hj hji)
      obtain ⟨hjun,oj,hoj,hall⟩:=mem_ready.1 hj
      have hnot:=Je (j:=j) (mem_ready.1 hr).1 hall
      have h2:=Av (C:=fun _=>True) (i:=i) hoj (hfree j oj hoj hji hjun hnot) (fun cs b=>hsel i oi cs b hi) (fun cs b=>hsel j oj cs b hoj) hy h1
      refine wpOp_mono (fun a' w' h3=>?_) h2
      obtain ⟨hy',hC',h3⟩:=h3
      refine ⟨hC',ih (f||Nat.beq j z) (listed.setIfInBounds j true) a' w' ?_ (ready_mono hr (fun e=>hji e.symm)) hy' hC' ?_⟩
      · intro k ok hk hki hun hno
        refine hfree k ok hk hki ?_ hno
        by_cases hjk:j=k
        · subst hjk;exact hjun
        · rw [getD_set_ne true hjk] at hun;exact hun
      · rw [Array.setIfInBounds_comm _ _ hji]
        exact h3
def vM (ops:Array Oper) (z i:Nat):Bool:=match ops[z]? with
  | some oz=>oz.after.any fun e=>Region.binds .any e&&Nat.beq e.on i
  | none=>true
theorem vO {z i:Nat} (h:vM ops z i=true):∀ oz,ops[z]?=some oz→∃ e ∈ oz.after,Region.binds .any e=true∧e.on=i:=by
  intro oz ho
  unfold vM at h
  rw [ho] at h
  obtain ⟨e,he,hb⟩:=Array.any_eq_true'.1 h
  simp only [Bool.and_eq_true] at hb
  exact ⟨e,he,hb.1,Nat.eq_of_beq_eq_true hb.2⟩
def wt (P:Program) (ops:Array Oper) (C:World→Prop) (z:Nat) (Qn:Act→World→Prop):Wt→Act→World→Prop
  | .nil,a,w=>Qn a w
  | .q i t,a,w=>∃ o v,ops[i]?=some o∧Yd P ops C o v a∧wt P ops C z Qn t (a.put o.dst v) w
  | .p i t,a,w=>∃ o v,ops[i]?=some o∧Yd P ops (fun _=>True) o v a∧wt P ops C z Qn t (a.put o.dst v) w
  | .e i t,a,w=>wpOp P ops NoQ i (fun a' w'=>(i=z∨C w')∧wt P ops C z Qn t a' w') a w
  | .b2 i t j u,a,w=>wpOp P ops NoQ i (fun a' w'=>(i=z∨C w')∧wt P ops C z Qn t a' w') a w∧wpOp P ops NoQ j (fun a' w'=>(j=z∨C w')∧wt P ops C z Qn u a' w') a w
  | .b3 i t j u k v,a,w=>wpOp P ops NoQ i (fun a' w'=>(i=z∨C w')∧wt P ops C z Qn t a' w') a w∧wpOp P ops NoQ j (fun a' w'=>(j=z∨C w')∧wt P ops C z Qn u a' w') a w∧wpOp P ops NoQ k (fun a' w'=>(k=z∨C w')∧wt P ops C z Qn v a' w') a w
def eqL:List Nat→List Nat→Bool
  | [],[]=>true
  | x::xs,y::ys=>Nat.beq x y&&eqL xs ys
  | _,_=>false
theorem kX {n:Nat} (h:Nat.blt 0 n=true):∃ m,n=m+1:=by
  have:0<n:=by simpa using h
  exact ⟨n-1,by omega⟩
theorem Ay:∀ {xs ys:List Nat},eqL xs ys=true→xs=ys:=by
  intro xs
  induction xs with
  | nil=>intro ys h;cases ys with
    | nil=>rfl
    | cons _ _=>cases h
  | cons x xs ih=>intro ys h;cases ys with
    | nil=>cases h
    | cons y ys=>
      simp only [eqL,Bool.and_eq_true] at h
      rw [Nat.eq_of_beq_eq_true h.1,ih h.2]
def ckt (ops:Array Oper) (z:Nat):Wt→Bool→Nat→Array Bool→Bool
  | .nil,_,n,listed=>Nat.beq n 0&&(Region.ready .any ops listed).isEmpty
  | .q i t,f,n,listed=>Nat.blt 0 n&&(Region.ready .any ops listed).contains i&&Region.free .any ops listed i&&vM ops z i&&!Nat.beq i z&&!f&&ckt ops z t f (n-1) (listed.setIfInBounds i true)
  | .p i t,f,n,listed=>Nat.blt 0 n&&(Region.ready .any ops listed).contains i&&Region.free .any ops listed i&&!Nat.beq i z&&ckt ops z t f (n-1) (listed.setIfInBounds i true)
  | .e i t,f,n,listed=>Nat.blt 0 n&&eqL (Region.ready .any ops listed) [i]&&ckt ops z t (f||Nat.beq i z) (n-1) (listed.setIfInBounds i true)
  | .b2 i t j u,f,n,listed=>Nat.blt 0 n&&eqL (Region.ready .any ops listed) [i,j]&&ckt ops z t (f||Nat.beq i z) (n-1) (listed.setIfInBounds i true)&&ckt ops z u (f||Nat.beq j z) (n-1) (listed.setIfInBounds j true)
  | .b3 i t j u k v,f,n,listed=>Nat.blt 0 n&&eqL (Region.ready .any ops listed) [i,j,k]&&ckt ops z t (f||Nat.beq i z) (n-1) (listed.setIfInBounds i true)&&ckt ops z u (f||Nat.beq j z) (n-1) (listed.setIfInBounds j true)&&ckt ops z v (f||Nat.beq k z) (n-1) (listed.setIfInBounds k true)
theorem flag {f:Bool} {i z:Nat} {p:Prop} (h:i=z∨p):(f||Nat.beq i z)=true∨p:=by
  rcases h with rfl|h
  · exact .inl (by simp)
  · exact .inr h
theorem rH {z:Nat} (hs:Region.noSelect ops=true):∀ (π:Wt) (f:Bool) (n:Nat) (listed:Array Bool) (a:Act) (w:World),ckt ops z π f n listed=true→(f=true∨C w)→wt P ops C z Qn π a w→anyZ P ops C z Qn f n listed a w:=by
  intro π
  induction π with
  | nil=>
    intro f n listed a w hc _ h
    simp only [ckt,Bool.and_eq_true] at hc
    have:n=0:=Nat.eq_of_beq_eq_true hc.1
    subst this
    exact ⟨by simpa using hc.2,h⟩
  | q i t ih=>
    intro f n listed a w hc hC h
    simp only [ckt,Bool.and_eq_true] at hc
    obtain ⟨⟨⟨⟨⟨⟨hn,hr⟩,hf⟩,hb⟩,hiz⟩,hff⟩,hc'⟩:=hc
    obtain ⟨m,rfl⟩:∃ m,n=m+1:=kX hn
    obtain ⟨o,v,ho,hy,h'⟩:=h
    have hf0:f=false:=by simpa using hff
    subst hf0
    have hC2:C w:=by
      rcases hC with h|h
      · cases h
      · exact h
    exact Ax ho (by simpa using hiz) (vO hb) (Region.noSelect_spec hs) m listed a w (Region.free_spec ho hf) (by simpa using hr) hy hC2 (ih _ _ _ _ _ hc' (.inr hC2) h')
  | p i t ih=>
    intro f n listed a w hc hC h
    simp only [ckt,Bool.and_eq_true] at hc
    obtain ⟨⟨⟨⟨hn,hr⟩,hf⟩,hiz⟩,hc'⟩:=hc
    obtain ⟨m,rfl⟩:∃ m,n=m+1:=kX hn
    obtain ⟨o,v,ho,hy,h'⟩:=h
    exact Fk ho (by simpa using hiz) (Region.noSelect_spec hs) m f listed a w (Region.free_spec ho hf) (by simpa using hr) hy hC (ih _ _ _ _ _ hc' hC h')
  | e i t ih=>
    intro f n listed a w hc hC h
    simp only [ckt,Bool.and_eq_true] at hc
    obtain ⟨⟨hn,hr⟩,hc'⟩:=hc
    obtain ⟨m,rfl⟩:∃ m,n=m+1:=kX hn
    have hri:=Ay hr
    refine ⟨fun h0=>(by rw [hri] at h0;cases h0),fun j hj=>?_⟩
    rw [hri] at hj
    simp only [List.mem_cons,List.not_mem_nil,or_false] at hj
    subst hj
    exact wpOp_mono (fun a' w' h'=>⟨flag h'.1,ih _ _ _ _ _ hc' (flag h'.1) h'.2⟩) h
  | b2 i t j u ih1 ih2=>
    intro f n listed a w hc hC h
    simp only [ckt,Bool.and_eq_true] at hc
    obtain ⟨⟨⟨hn,hr⟩,hc1⟩,hc2⟩:=hc
    obtain ⟨m,rfl⟩:∃ m,n=m+1:=kX hn
    have hri:=Ay hr
    refine ⟨fun h0=>(by rw [hri] at h0;cases h0),fun j hj=>?_⟩
    rw [hri] at hj
    simp only [List.mem_cons,List.not_mem_nil,or_false] at hj
    rcases hj with rfl|rfl
    · exact wpOp_mono (fun a' w' h'=>⟨flag h'.1,ih1 _ _ _ _ _ hc1 (flag h'.1) h'.2⟩) h.1
    · exact wpOp_mono (fun a' w' h'=>⟨flag h'.1,ih2 _ _ _ _ _ hc2 (flag h'.1) h'.2⟩) h.2
  | b3 i t j u k v ih1 ih2 ih3=>
    intro f n listed a w hc hC h
    simp only [ckt,Bool.and_eq_true] at hc
    obtain ⟨⟨⟨⟨hn,hr⟩,hc1⟩,hc2⟩,hc3⟩:=hc
    obtain ⟨m,rfl⟩:∃ m,n=m+1:=kX hn
    have hri:=Ay hr
    refine ⟨fun h0=>(by rw [hri] at h0;cases h0),fun j hj=>?_⟩
    rw [hri] at hj
    simp only [List.mem_cons,List.not_mem_nil,or_false] at hj
    rcases hj with rfl|rfl|rfl
    · exact wpOp_mono (fun a' w' h'=>⟨flag h'.1,ih1 _ _ _ _ _ hc1 (flag h'.1) h'.2⟩) h.1
    · exact wpOp_mono (fun a' w' h'=>⟨flag h'.1,ih2 _ _ _ _ _ hc2 (flag h'.1) h'.2⟩) h.2.1
    · exact wpOp_mono (fun a' w' h'=>⟨flag h'.1,ih3 _ _ _ _ _ hc3 (flag h'.1) h'.2⟩) h.2.2
def kY (ops:Array Oper) (z:Nat) (π:Wt):Bool:=Region.noSelect ops&&ckt ops z π false ops.size (Array.replicate ops.size false)
theorem region_wt {z:Nat} {id:Nat} {Q:Exit→Act→World→Prop} {a:Act} {w:World} (π:Wt) (hm:P.follows .mixedOrders=true) (hck:kY ops z π=true) (hC:C w.drew)
    (h:wt P ops C z (fun a w=>Q .normal a w) π a w.drew):(Code.region id ops true).wp P Q a w:=by
  simp only [kY,Bool.and_eq_true] at hck
  exact wp_region_any hm (pT (C:=C) (z:=z) (Qn:=fun a w=>Q .normal a w) (fun _ _ h=>h) _ _ _ _ _ (rH hck.1 π false _ _ a _ hck.2 (.inr hC) h))
end
section
variable {P:Program} {w w0:World} {F0:Nat→Prop} {R RE:List Mem} {Q:Exit→Act→World→Prop} {Qn:Act→World→Prop} {l:List Oper} {N:FN} {L:List (Nat×Value)} {a:Act} {ty:TypeId} {pos:String} {af:Array Edge} {op:Op} {y:Code} {id z:Nat} {ops:Array Oper} {π t u v3:Wt}
theorem seq_wt (z:Nat) (π:Wt) (hm:P.follows .mixedOrders=true) (hck:kY l.toArray z π=true) (SE:St w0 F0 RE w.drew)
    (h:∀ K:Act→World→Prop,(∀ a w,y.wp P Q a w→K a w)→wt P l.toArray (fun w'=>St w0 F0 RE w') z K π a w.drew):(Code.seq (.region id l.toArray true) y).wp P Q a w:=
  wp_seq (region_wt π hm hck SE (h _ (fun _ _ h=>h)))
theorem one_wt (z:Nat) (π:Wt) (hm:P.follows .mixedOrders=true) (hck:kY l.toArray z π=true) (SE:St w0 F0 RE w.drew)
    (h:wt P l.toArray (fun w'=>St w0 F0 RE w') z (fun a w=>Q .normal a w) π a w.drew):(Code.region id l.toArray true).wp P Q a w:=region_wt π hm hck SE h
theorem bC {C:World→Prop} (h:Qn a w):wt P ops C z Qn .nil a w:=h
theorem aH {C:World→Prop} {i d:Nat} {v:Value} (H:Fr N L a) (hi:ops[i]?=some ⟨some d,op,ty,pos,af,none⟩) (hd:Nat.blt d N.n=true) (h:∀ w',C w'→Does P L ⟨some d,op,ty,pos,af,none⟩ w' v)
    (k:∀ a',Fr N ((d,v)::L) a'→wt P ops C z Qn π a' w):wt P ops C z Qn (.q i π) a w:=
  ⟨_,v,hi,.inl ⟨rfl,fun w' hC=>h w' hC a.eval (fun x u hx=>H.eval hx)⟩,k _ (H.put v hd)⟩
theorem bH {C:World→Prop} {i d:Nat} {v:Value} (H:Fr N L a) (hi:ops[i]?=some ⟨some d,op,ty,pos,af,none⟩) (hd:Nat.blt d N.n=true) (h:∀ w',Does P L ⟨some d,op,ty,pos,af,none⟩ w' v)
    (k:∀ a',Fr N ((d,v)::L) a'→wt P ops C z Qn π a' w):wt P ops C z Qn (.p i π) a w:=
  ⟨_,v,hi,.inl ⟨rfl,fun w' _=>h w' a.eval (fun x u hx=>H.eval hx)⟩,k _ (H.put v hd)⟩
theorem pA {C:World→Prop} {i:Nat} {o:Oper} (hi:ops[i]?=some o) (h:wpList P ops (onlyN fun a' w'=>(i=z∨C w')∧wt P ops C z Qn π a' w') [o] a w):wpOp P ops NoQ i (fun a' w'=>(i=z∨C w')∧wt P ops C z Qn π a' w') a w:=by
  unfold wpOp
  simp only [hi]
  unfold wpList at h
  split
  · rename_i hw
    rw [if_pos hw] at h
    rcases h with h|⟨_,_,_,h⟩
    · exact .inl (oZ h)
    · exact h.elim
  · rename_i hw
    rw [if_neg hw] at h
    exact h
theorem aM {C:World→Prop} {i:Nat} {o:Oper} (hi:ops[i]?=some o) (h:wpList P ops (onlyN fun a' w'=>(i=z∨C w')∧wt P ops C z Qn π a' w') [o] a w):wt P ops C z Qn (.e i π) a w:=pA hi h
theorem dW {C:World→Prop} {i j:Nat} {o o':Oper} (hi:ops[i]?=some o) (hj:ops[j]?=some o') (h:wpList P ops (onlyN fun a' w'=>(i=z∨C w')∧wt P ops C z Qn t a' w') [o] a w) (h':wpList P ops (onlyN fun a' w'=>(j=z∨C w')∧wt P ops C z Qn u a' w') [o'] a w):wt P ops C z Qn (.b2 i t j u) a w:=⟨pA hi h,pA hj h'⟩
theorem uK {C:World→Prop} {i j k:Nat} {o o' o'':Oper} (hi:ops[i]?=some o) (hj:ops[j]?=some o') (hk:ops[k]?=some o'') (h:wpList P ops (onlyN fun a' w'=>(i=z∨C w')∧wt P ops C z Qn t a' w') [o] a w) (h':wpList P ops (onlyN fun a' w'=>(j=z∨C w')∧wt P ops C z Qn u a' w') [o'] a w) (h'':wpList P ops (onlyN fun a' w'=>(k=z∨C w')∧wt P ops C z Qn v3 a' w') [o''] a w):wt P ops C z Qn (.b3 i t j u k v3) a w:=⟨pA hi h,pA hj h',pA hk h''⟩
end
def cutA (A:Option Addr) (c lo sz:Nat):Option Addr:=if c=lo then A else A.map (·.add (lo*sz))
section
variable {P:Program} {ops:Array Oper} {w w0:World} {F0 F:Nat→Prop} {R:List Mem} {Q:Exit→Act→World→Prop} {rest:List Oper} {N:FN} {L:List (Nat×Value)} {a:Act} {ty:TypeId} {pos:String} {af:Array Edge} {d:Option Nat} {g:Option (Nat×Bool)}
theorem Fm {t e sz:Nat} {A:Option Addr} {n c lo hi:Nat} {vl vh:Option Value} (ht:SlT P t e) (hs:Sz P e sz) (hlo:vl=none∧lo=0∨∃ k,vl=some (.int k (lo:Int))) (hhi:vh=none∧hi=n∨∃ k,vh=some (.int k (hi:Int))) (h1:lo≤hi) (h2:hi≤c) :
    (Instr.sliceAt t (.slice A n c) vl vh none).run P w = .ok (.slice (cutA A c lo sz) (hi-lo) (c-lo)) w:=by
  have hb:(Instr.sliceBounds true n c vl vh none).run P w = .ok (lo,hi,c) w:=by
    have e1:(0:Int)≤(lo:Int)∧(lo:Int)≤(hi:Int):=⟨by omega,by omega⟩
    have e2:(0:Int)≤(hi:Int)∧(hi:Int)≤(c:Int):=⟨by omega,by omega⟩
    rcases hlo with ⟨rfl,rfl⟩|⟨k,rfl⟩ <;> rcases hhi with ⟨rfl,rfl⟩|⟨k',rfl⟩ <;> simp [Instr.sliceBounds,Instr.sliceBound,asIntOf,h1,h2]
  have hst:Instr.sliceAt t (.slice A n c) vl vh none=(do
      match ←underlying t with
      | .array n elem=>
        let a ←Instr.sureAddr (.slice A n c)
        let (l,h,m) ←Instr.sliceBounds false n n vl vh none
        let size ←sizeOf elem
        pure (.slice (some (if m=l then a else a.add (l*size))) (h-l) (m-l))
      | _=>Instr.slice t (.slice A n c) vl vh none):=rfl
  rw [hst]
  simp only [Sem.run_bind,bU ht,Result.andThen_ok,Instr.slice,hb,hs.run,Sem.run_pure,cutA]
theorem mQ {t e sz:Nat} {x:Operand} {xl xh:Option Operand} {A:Option Addr} {n c lo hi:Nat} (ht:SlT P t e) (hs:Sz P e sz) (hx:ev L x=some (.slice A n c))
    (hlo:xl=none∧lo=0∨∃ y,xl=some y∧∃ k,ev L y=some (.int k (lo:Int))) (hhi:xh=none∧hi=n∨∃ y,xh=some y∧∃ k,ev L y=some (.int k (hi:Int))) (h1:lo≤hi) (h2:hi≤c) :
    Does P L ⟨d,.slice t x xl xh none,ty,pos,af,g⟩ w (.slice (cutA A c lo sz) (hi-lo) (c-lo)):=fun ρ hρ=>by
  have hr:=Fm (P:=P) (w:=w) (A:=A) (n:=n) (c:=c) (lo:=lo) (hi:=hi) (vl:=xl.map ρ) (vh:=xh.map ρ) ht hs
    (by rcases hlo with ⟨rfl,rfl⟩|⟨y,rfl,k,hy⟩
        · exact .inl ⟨rfl,rfl⟩
        · exact .inr ⟨k,by simp [hρ _ _ hy]⟩)
    (by rcases hhi with ⟨rfl,rfl⟩|⟨y,rfl,k,hy⟩
        · exact .inl ⟨rfl,rfl⟩
        · exact .inr ⟨k,by simp [hρ _ _ hy]⟩) h1 h2
  simp [execOp,hρ _ _ hx,hr]
theorem InS.cut {sz n c lo hi:Nat} {A:Option Addr} {cell:Nat→Nat→Value} (h:InS w F sz A n cell) (h1:lo≤hi) (h2:hi≤n) (h3:n≤c):InS w F sz (cutA A c lo sz) (hi-lo) (fun k j=>cell (lo+k) j):=by
  intro hn
  obtain ⟨b,o,rfl,hb,hF,hc⟩:=h (by omega)
  have hne:¬ c=lo:=by omega
  refine ⟨b,o+lo*sz,?_,hb,hF,fun k j hk hj=>?_⟩
  · simp [cutA,hne,iN]
  · have:=hc (lo+k) j (by omega) hj
    rw [Nat.add_mul] at this
    rw [←this]
    congr 2
    omega
theorem InS.sub {sz n m:Nat} {A:Option Addr} {cell:Nat→Nat→Value} (h:InS w F sz A n cell) (hm:m≤n):InS w F sz A m cell:=by
  intro hn
  obtain ⟨b,o,rfl,hb,hF,hc⟩:=h (by omega)
  exact ⟨b,o,rfl,hb,hF,fun k j hk hj=>hc k j (by omega) hj⟩
theorem InS.congr {sz n:Nat} {A:Option Addr} {cell cell':Nat→Nat→Value} (h:InS w F sz A n cell) (hc:∀ k j,k<n→j<sz→cell k j=cell' k j):InS w F sz A n cell':=by
  intro hn
  obtain ⟨b,o,rfl,hb,hF,h1⟩:=h hn
  exact ⟨b,o,rfl,hb,hF,fun k j hk hj=>by rw [h1 k j hk hj,hc k j hk hj]⟩
theorem InS.nil {sz:Nat} {A:Option Addr} {cell:Nat→Nat→Value}:InS w F sz A 0 cell:=fun h=>absurd h (by omega)
theorem St.recell {e sz n c i:Nat} {A:Option Addr} {cell cell':Nat→Nat→Value} (S:St w0 F0 R w) (hi:R[i]?=some (ownM e sz A n c cell)) (h:∀ k j,k<n→j<sz→cell k j=cell' k j):St w0 F0 (R.set i (ownM e sz A n c cell')) w:=by
  refine S.imp hi ?_ (fun _ h=>h)
  rintro (h1|⟨b,cs,h1,h2,h3,h4,h5,h6⟩)
  · exact .inl h1
  · exact .inr ⟨b,cs,h1,h2,h3,h4,h5,fun k j hk hj=>by rw [h6 k j hk hj,h k j hk hj]⟩
end
def updN (f:Nat→Nat) (k v:Nat):Nat→Nat:=fun i=>if i=k then v else f i
def mrow (M:Nat→Nat→Int) (k:Nat) (f:Nat→Int):Nat→Nat→Int:=fun a b=>if a=k then f b else M a b
def icl (l:List Int) (k _j:Nat):Value := .int .i64 (l.getD k 0)
def Th (n:Int) (_j:Nat):Value := .int .i64 n
def icell (f:Nat→Int):Nat→Nat→Value:=fun j _ => .int .i64 (f j)
def rowsM (e:TypeId) (k m:Nat) (rb rc:Nat→Nat) (M:Nat→Nat→Int):Mem where
  fp:=fun q=>∃ i,i<k∧q=rb i
  holds:=fun w=>(∀ i,i<k→m≤rc i∧rc i≤maxLen∧∃ rs:Array Value,w.heap[rb i]?=some (.cells rs e (0,0))∧rs.size=rc i∧∀ j,j<m→rs[j]?=some (.int .i64 (M i j))) ∧
    ∀ i i',i<k→i'<k→rb i=rb i'→i=i'
  stable:=fun w w' h ⟨h1,h2⟩=>⟨fun i hi=>by
    obtain ⟨ha,hb,rs,hc,hd⟩:=h1 i hi
    exact ⟨ha,hb,rs,(h _ ⟨i,hi,rfl⟩).trans hc,hd⟩,h2⟩
section
variable {P:Program} {ops:Array Oper} {w w0:World} {F0 F:Nat→Prop} {R:List Mem} {Q:Exit→Act→World→Prop} {rest:List Oper} {N:FN} {L:List (Nat×Value)} {a:Act} {ty:TypeId} {pos:String} {af:Array Edge}
variable {e k m:Nat} {rb rc:Nat→Nat} {M:Nat→Nat→Int}
theorem rowsM.rd {i p q:Nat} (S:St w0 F0 R w) (hi:R[i]?=some (rowsM e k m rb rc M)) (hp:p<k) (hq:q<m):w.cell? (pt (some ⟨rb p,0,none⟩) 1 q 0)=some (.int .i64 (M p q)):=by
  obtain ⟨h1,_⟩:=S.holds hi
  obtain ⟨_,_,rs,hc,_,hd⟩:=h1 p hp
  have:pt (some ⟨rb p,0,none⟩) 1 q 0=⟨rb p,q,none⟩:=by simp [pt,adr]
  rw [this,cell_of_row w (rb p) q rs e (0,0) hc]
  exact hd q hq
theorem rowsM.inS {i p:Nat} (S:St w0 F0 R w) (hi:R[i]?=some (rowsM e k m rb rc M)) (hp:p<k):InS w noF 1 (some ⟨rb p,0,none⟩) m (icell (M p)):=by
  intro _
  obtain ⟨h1,_⟩:=S.holds hi
  obtain ⟨_,_,rs,hc,_,hd⟩:=h1 p hp
  refine ⟨rb p,0,rfl,dC hc,fun h=>h,fun q j hq hj=>?_⟩
  have hj0:j=0:=by omega
  subst hj0
  have h3:=cell_of_row w (rb p) q rs e (0,0) hc
  simp only [Nat.zero_add,Nat.mul_one,Nat.add_zero]
  rw [h3]
  exact hd q hq
theorem rowsM.zero (S:St w0 F0 R w) (e m:Nat) (rb rc:Nat→Nat) (M:Nat→Nat→Int):St w0 F0 (rowsM e 0 m rb rc M::R) w:=
  S.new (Keeps.refl _ _) ⟨fun i h=>absurd h (by omega),fun i i' h=>absurd h (by omega)⟩ fun q ⟨i,h,_⟩=>absurd h (by omega)
theorem rowsM.congr {i:Nat} {M':Nat→Nat→Int} {rb' rc':Nat→Nat} (S:St w0 F0 R w) (hi:R[i]?=some (rowsM e k m rb rc M)) (h:∀ p q,p<k→q<m→M p q=M' p q) (hb:∀ p,p<k→rb p=rb' p) (hc:∀ p,p<k→rc p=rc' p):St w0 F0 (R.set i (rowsM e k m rb' rc' M')) w:=by
  refine S.imp hi ?_ ?_
  · rintro ⟨h1,h2⟩
    refine ⟨fun p hp=>?_,fun p p' hp hp' hh=>h2 p p' hp hp' (by rw [hb p hp,hb p' hp',hh])⟩
    obtain ⟨ha,hb1,rs,hc1,hd,he⟩:=h1 p hp
    rw [←hb p hp,←hc p hp]
    exact ⟨ha,hb1,rs,hc1,hd,fun q hq=>by rw [he q hq,h p q hp hq]⟩
  · rintro q ⟨p,hp,rfl⟩
    exact ⟨p,hp,(hb p hp).symm⟩
theorem rowsM.add {A:Option Addr} {c:Nat} {f:Nat→Int} {cell:Nat→Nat→Value} (S:St w0 F0 (ownM e 1 A m c cell::rowsM e k m rb rc M::R) w) (hA:A≠none) (hf:∀ j,j<m→cell j 0 = .int .i64 (f j)) :
    ∃ b,A=some ⟨b,0,none⟩∧St w0 F0 (rowsM e (k+1) m (updN rb k b) (updN rc k c) (mrow M k f)::R) w:=by
  have h0:=S.holds (i:=0) rfl
  rcases h0 with ⟨h,_,_⟩|⟨b,cs,rfl,hb,hnc,hcm,hsz,hc⟩
  · exact absurd h hA
  refine ⟨b,rfl,?_⟩
  obtain ⟨h1,h2⟩:=S.holds (i:=1) rfl
  have hne:∀ i,i<k→rb i≠b:=fun i hi e1=>S.disj 0 1 _ _ G G (by omega) b ⟨_,rfl,rfl⟩ ⟨i,hi,e1.symm⟩
  have hfp:∀ q,(rowsM e (k+1) m (updN rb k b) (updN rc k c) (mrow M k f)).fp q→(ownM e 1 (some ⟨b,0,none⟩) m c cell).fp q∨(rowsM e k m rb rc M).fp q:=by
    rintro q ⟨i,hi,rfl⟩
    by_cases hik:i=k
    · subst hik;exact .inl ⟨_,rfl,by simp [updN]⟩
    · exact .inr ⟨i,by omega,by simp [updN,hik]⟩
  refine ⟨S.os,S.tape,S.out,S.size,S.ro,?_,?_,?_⟩
  · intro x hx
    rcases List.mem_cons.1 hx with rfl|hx
    · refine ⟨fun i hi=>?_,?_⟩
      · by_cases hik:i=k
        · subst hik
          simp only [updN,if_pos]
          refine ⟨hnc,hcm,cs,hb,by omega,fun j hj=>?_⟩
          have:=hc j 0 hj (by omega)
          simp only [Nat.mul_one,Nat.add_zero] at this
          rw [this,hf j hj];simp [mrow]
        · simp only [updN,if_neg hik]
          obtain ⟨ha,hb1,rs,hc1,hd,he⟩:=h1 i (by omega)
          exact ⟨ha,hb1,rs,hc1,hd,fun j hj=>by rw [he j hj];simp [mrow,hik]⟩
      · intro i i' hi hi' heq
        simp only [updN] at heq
        by_cases hik:i=k <;> by_cases hik':i'=k
        · omega
        · rw [if_pos hik,if_neg hik'] at heq;exact absurd heq.symm (hne i' (by omega))
        · rw [if_neg hik,if_pos hik'] at heq;exact absurd heq (hne i (by omega))
        · rw [if_neg hik,if_neg hik'] at heq;exact h2 i i' (by omega) (by omega) heq
    · exact S.res x (List.mem_cons_of_mem _ (List.mem_cons_of_mem _ hx))
  · intro x hx q hq
    rcases List.mem_cons.1 hx with rfl|hx
    · rcases hfp q hq with h|h
      · exact S.inn _ (List.mem_cons_self ..) q h
      · exact S.inn _ (List.mem_cons_of_mem _ (List.mem_cons_self ..)) q h
    · exact S.inn x (List.mem_cons_of_mem _ (List.mem_cons_of_mem _ hx)) q hq
  · intro i j x y hi hj hij q hq hq'
    cases i with
    | zero=>
      cases j with
      | zero=>omega
      | succ j=>
        simp at hi hj;subst hi
        rcases hfp q hq with h|h
        · exact S.disj 0 (j+2) _ y rfl hj (by omega) q h hq'
        · exact S.disj 1 (j+2) _ y rfl hj (by omega) q h hq'
    | succ i=>
      cases j with
      | zero=>
        simp at hi hj;subst hj
        rcases hfp q hq' with h|h
        · exact S.disj (i+2) 0 x _ hi rfl (by omega) q hq h
        · exact S.disj (i+2) 1 x _ hi rfl (by omega) q hq h
      | succ j=>
        simp at hi hj
        exact S.disj (i+2) (j+2) x y hi hj (by omega) q hq hq'
end
section
variable {w0 w w':World} {F0 F:Nat→Prop} {R M:List Mem} {sz n c:Nat} {A:Option Addr} {cell:Nat→Nat→Value} {e:TypeId}
theorem InS.nowR (h:InS w0 F0 sz A n cell) (S:St w0 F0 R w):InS w (fps R) sz A n cell:=by
  intro hn
  obtain ⟨b,o,rfl,hb,hF,hc⟩:=h hn
  refine ⟨b,o,rfl,Nat.lt_of_lt_of_le hb S.size,fun ⟨m,hm,hk⟩=>hF ((S.inn m hm b hk).2 hb),fun k j hk hj=>?_⟩
  rw [←hc k j hk hj]
  exact World.cell?_of_block (w:=w0) (S.ro b hb hF)
end
section
variable {P:Program} {w:World} {N:FN} {L:List (Nat×Value)} {a:Act}
theorem mR {fn:Func} {R:Value→World→Prop} {t ty b o t' ty' b' o' u:Nat} {vs vs':List Value} {v:Value} (hr:fn.results=#[.cell t ty,.cell t' ty',.tmp u]) {q_:Nat} (H:Fr ⟨q_,[]⟩ L a) (ht:look L t=some (.pointer (some ⟨b,o,none⟩))) (ht':look L t'=some (.pointer (some ⟨b',o',none⟩)))
    (hA:Agg P ty) (hs:Sz P ty vs.length) (hc:∀ (j:Nat) v,vs[j]?=some v→w.cell? ⟨b,o+j,none⟩=some v) (hA':Agg P ty') (hs':Sz P ty' vs'.length) (hc':∀ (j:Nat) v,vs'[j]?=some v→w.cell? ⟨b',o'+j,none⟩=some v) (hu:look L u=some v) (h:R (.tuple #[.agg vs.toArray,.agg vs'.toArray,v]) w):bodyPost P fn (Ret R) .ret a w:=by
  have hl:=iB (P:=P) hA hs hc
  simp only [Instr.loadAt,Instr.sureAddr] at hl
  have hl2:=iB (P:=P) hA' hs' hc'
  simp only [Instr.loadAt,Instr.sureAddr] at hl2
  refine bodyPost_ret (v := .tuple #[.agg vs.toArray,.agg vs'.toArray,v]) ?_ H.defs h
  have hl':(loadVar ty ⟨b,o,none⟩).run P w = .ok (.agg vs.toArray) w:=by simpa using hl
  have hl2':(loadVar ty' ⟨b',o',none⟩).run P w = .ok (.agg vs'.toArray) w:=by simpa using hl2
  simp [results,hr,H.at_ _ _ ht,H.at_ _ _ ht',H.at_ _ _ hu,asAddr,hl',hl2']
end
section
variable {P:Program} {ops:Array Oper} {w w0:World} {F0:Nat→Prop} {R:List Mem} {Q:Exit→Act→World→Prop} {rest l:List Oper} {N:FN} {L:List (Nat×Value)} {a:Act} {ty:TypeId} {pos:String} {af:Array Edge} {op:Op}
theorem Dd {o:Oper} {K K':Act→World→Prop} {K1:Act→World→Prop} (h:o.wp P a w K (onlyN K1)) (hK:∀ a w,K a w→K' a w):o.wp P a w K' Q:=
  Oper.wp_mono hK (Au (oZ h))
theorem uC {l2:List Oper}:∀ (l1:List Oper) (a:Act) (w:World),wpList P ops (onlyN fun a w=>wpList P ops Q l2 a w) l1 a w→wpList P ops Q (l1++l2) a w:=by
  intro l1
  induction l1 with
  | nil=>intro a w h;exact h
  | cons o l1 ih=>
    intro a w h
    simp only [List.cons_append]
    unfold wpList at h ⊢
    split
    · rename_i hw
      rw [if_pos hw] at h
      rcases h with h|⟨_,_,_,h⟩
      · exact .inl (Dd h ih)
      · exact h.elim
    · rename_i hw
      rw [if_neg hw] at h
      exact ih _ _ h
theorem pU {K K':Act→World→Prop} (hK:∀ a w,K a w→K' a w):∀ (l:List Oper) (a:Act) (w:World),wpList P ops (onlyN K) l a w→wpList P ops (onlyN K') l a w:=by
  intro l
  induction l with
  | nil=>intro a w h;exact hK a w h
  | cons o l ih=>
    intro a w h
    unfold wpList at h ⊢
    split
    · rename_i hw
      rw [if_pos hw] at h
      rcases h with h|⟨_,_,_,h⟩
      · exact .inl (Dd h ih)
      · exact h.elim
    · rename_i hw
      rw [if_neg hw] at h
      exact ih _ _ h
theorem bY {d:Option Nat} {i g:Nat} {b c:Bool} (H:Fr N L a) (hg:(ops[i]?).bind (·.dst)=some g) (hc:look L g=some (.bool c)) (e:c=b)
    (k:wpList P ops Q (⟨d,op,ty,pos,af,none⟩::rest) a w):wpList P ops Q (⟨d,op,ty,pos,af,some (i,b)⟩::rest) a w:=by
  subst e
  exact aX H hg hc k
theorem uL {d:Option Nat} {i g:Nat} {b:Bool} (H:Fr N L a) (hg:(ops[i]?).bind (·.dst)=some g) (hc:look L g=some undef) :
    Region.wanted ⟨d,op,ty,pos,af,some (i,b)⟩ (yielded ops a.tmps)=false:=
  rC fun s hs q hq=>by
    rw [hg,Option.some.injEq] at hs
    subst hs
    rw [H.at_ _ _ hc] at hq
    simp [undef] at hq
theorem kD {d i g:Nat} {b:Bool} (H:Fr N L a) (hg:(ops[i]?).bind (·.dst)=some g) (hc:look L g=some undef) (hd:Nat.blt d N.n=true)
    (k:∀ a',Fr N ((d,undef)::L) a'→wpList P ops Q rest a' w):wpList P ops Q (⟨some d,op,ty,pos,af,some (i,b)⟩::rest) a w:=by
  unfold wpList
  rw [if_neg (by rw [uL H hg hc];simp)]
  exact k _ (H.put _ hd)
theorem bN {i g t:Nat} {b c:Bool} {v:Value} (m:Nat) (H:Fr N L a) (S:St w0 F0 R w) (hg:(ops[i]?).bind (·.dst)=some g) (hc:look L g=some (.bool c))
    (hs:skips ops i g b [] (l.take m)=true) (hw:kW t (l.take m)=true) (hcl:clean L (l.take m)=true) (ht:Nat.blt t N.n=true)
    (h1:c=b→wpList P ops (onlyN fun a' w'=>Fr N ((t,v)::L) a'∧St w0 F0 R w') (l.take m) a w)
    (k:∀ a' w',Fr N ((t,gv c b v)::L) a'→St w0 F0 R w'→wpList P ops Q (l.drop m) a' w'):wpList P ops Q l a w:=by
  by_cases e:c=b
  · have h2:=uC (P:=P) (ops:=ops) (Q:=Q) (l2:=l.drop m) (l.take m) a w (pU (fun a' w' ⟨h3,h4⟩=>k a' w' (by simpa [gv,e] using h3) h4) _ _ _ (h1 e))
    rwa [List.take_append_drop] at h2
  · refine rA m ?_
    refine rD hg e (l.take m) [] a H (H.at_ _ _ hc) (by simp) hs hcl fun a' H' h'=>k a' w ?_ S
    have hlt:t<N.n:=by simpa using ht
    have:=h' t (.inr hw) hlt
    refine ⟨H'.size,H'.defs,fun s u hu=>?_⟩
    simp only [look] at hu
    cases hb:Nat.beq t s
    · rw [hb] at hu;exact H'.at_ s u hu
    · rw [hb] at hu
      have:=Nat.eq_of_beq_eq_true hb
      subst this
      simp only [cond_true,Option.some.injEq] at hu
      subst hu
      have e':(c == b)=false:=by simpa using e
      simpa [gv,e'] using this
end
theorem bQ {P:Program} {ops:Array Oper} {w:World} {N:FN} {L:List (Nat×Value)} {a:Act} {ty:TypeId} {pos:String} {af:Array Edge} {op:Op} {C:World→Prop} {Qn:Act→World→Prop} {π:List (Nat×Bool)} {i d j g:Nat} {b:Bool} (H:Fr N L a) (hi:ops[i]?=some ⟨some d,op,ty,pos,af,some (j,b)⟩) (hd:Nat.blt d N.n=true) (hg:(ops[j]?).bind (·.dst)=some g) (hc:look L g=some undef)
    (k:∀ a',Fr N ((d,undef)::L) a'→wq P ops C Qn π a' w):wq P ops C Qn ((i,true)::π) a w:=
  ⟨_,undef,hi,.inr ⟨uL H hg hc,rfl⟩,k _ (H.put undef hd)⟩
theorem o1 {a b:Bool}:((a||b)=true)=(a=true∨b=true):=Bool.or_eq_true a b
theorem o2 {a b:Bool}:((a&&b)=true)=(a=true∧b=true):=Bool.and_eq_true a b
theorem o3 {a:Bool}:((!a)=true)=(a=false):=Bool.not_eq_true' a
theorem o4 {a b:Bool}:((a||b)=false)↔(a=false∧b=false):=Bool.or_eq_false_iff
theorem o5 {a b:Bool}:((a&&b)=false)↔(a=false∨b=false):=Bool.and_eq_false_iff
theorem o6 {a:Bool}:((!a)=false)=(a=true):=Bool.not_eq_false' a
theorem o7 {p:Prop} [Decidable p]:(decide p=true)=p:=decide_eq_true_eq
theorem o8 {p:Prop} [Decidable p]:(decide p=false)=(¬ p):=by rw [decide_eq_false_iff_not]
theorem o9 {a b:Int}:¬ a<b↔b≤a:=Int.not_lt
theorem oa {a b:Int}:¬ a≤b↔b<a:=Int.not_le
def exec1 (L:List (Nat×Value)):Op→Option Value
  | .move x=>ev L x
  | .assign x=>ev L x
  | .nilCheck x=>match ev L x with
    | some (.pointer (some a))=>some (.pointer (some a))
    | _=>none
  | .extract x i=>match ev L x with
    | some (.tuple vs)=>vs[i]?
    | _=>none
  | .unOp .not _ x=>match ev L x with
    | some (.bool b)=>some (.bool (!b))
    | _=>none
  | .binOp op _ x y _=>match ev L x with
    | some (.int .i64 m)=>match ev L y with
      | some (.int .i64 n)=>match op with
        | .lss=>some (.bool (decide (m<n)))
        | .leq=>some (.bool (decide (m≤n)))
        | .gtr=>some (.bool (decide (n<m)))
        | .geq=>some (.bool (decide (n≤m)))
        | .eql=>some (.bool (decide (m=n)))
        | .neq=>some (.bool (!decide (m=n)))
        | _=>none
      | _=>none
    | _=>none
  | .makeFunc fn xs ys=>match evs L xs.toList with
    | some us=>match evs L ys.toList with
      | some vs=>some (.func fn us.toArray vs.toArray)
      | none=>none
    | none=>none
  | _=>none
section
variable {P:Program} {L:List (Nat×Value)} {w:World} {ty:TypeId} {pos:String} {af:Array Edge} {d:Option Nat} {g:Option (Nat×Bool)}
theorem yB {op:Op} {v:Value} (h:exec1 L op=some v):Does P L ⟨d,op,ty,pos,af,g⟩ w v:=by
  cases op <;> simp only [exec1] at h <;> try (cases h;done)
  case move x=>exact aL h
  case assign x=>exact bE h
  case nilCheck x=>
    split at h
    · rename_i a ha;cases h;exact cN ha
    · cases h
  case extract x i=>
    split at h
    · rename_i vs hv;exact aQ hv h
    · cases h
  case unOp u t x=>
    cases u <;> simp only at h <;> try (cases h;done)
    split at h
    · rename_i b hb;cases h;exact cP hb
    · cases h
  case binOp op xt x y yt=>
    split at h
    · rename_i m hm
      split at h
      · rename_i n hn
        cases op <;> simp only at h <;> cases h
        · exact kU hm hn
        · exact Ix hm hn
        · exact cY hm hn
        · exact Iw hm hn
        · exact bX hm hn
        · exact qY hm hn
      · cases h
    · cases h
  case makeFunc fn xs ys=>
    split at h
    · rename_i us hu
      split at h
      · rename_i vs hv;cases h;exact uB hu hv
      · cases h
    · cases h
end
def run (N:FN):Nat→List Oper→List (Nat×Value)→Option (List Oper×List (Nat×Value))
  | 0,l,L=>some (l,L)
  | n + 1,⟨some d,op,_,_,_,none⟩::l,L=>match exec1 L op with
    | some v=>match Nat.blt d N.n with
      | true=>run N n l ((d,v)::L)
      | false=>none
    | none=>none
  | _+1,_,_=>none
section
variable {P:Program} {ops:Array Oper} {w w0:World} {F0:Nat→Prop} {R:List Mem} {Q:Exit→Act→World→Prop} {Qs:Act→Prop} {rest l l':List Oper} {N:FN} {L L':List (Nat×Value)} {a:Act} {ty:TypeId} {pos:String} {af:Array Edge} {op:Op} {d:Nat}
def SF (P:Program) (ops:Array Oper) (w:World) (Qs:Act→Prop) (N:FN) (l:List Oper) (L:List (Nat×Value)):Prop:=∀ a,Fr N L a→wpStill P ops w Qs l a
theorem sF (H:Fr N L a) (h:SF P ops w Qs N l L):wpStill P ops w Qs l a:=h a H
theorem sE (h:∀ a,Fr N L a→Qs a):SF P ops w Qs N [] L:=fun a H=>wpStill_nil (h a H)
theorem sd {v:Value} (h:Does P L ⟨some d,op,ty,pos,af,none⟩ w v) (k:SF P ops w Qs N rest ((d,v)::L)) (hd:Nat.blt d N.n=true:=by rfl):SF P ops w Qs N (⟨some d,op,ty,pos,af,none⟩::rest) L:=
  fun a H=>Am H hd h k
theorem sr1 : ∀ (n:Nat) (l:List Oper) (L:List (Nat×Value)),run N n l L=some (l',L')→SF P ops w Qs N l' L'→SF P ops w Qs N l L:=by
  intro n
  induction n with
  | zero=>intro l L h k;simp only [run,Option.some.injEq,Prod.mk.injEq] at h;obtain ⟨rfl,rfl⟩:=h;exact k
  | succ n ih =>
    intro l L h k
    cases l with
    | nil=>simp only [run] at h;cases h
    | cons o l=>
      obtain ⟨d,op,ty,pos,af,gd⟩:=o
      cases d with
      | none=>simp only [run] at h;cases h
      | some d=>
        cases gd with
        | some _=>simp only [run] at h;cases h
        | none=>
          simp only [run] at h
          split at h
          · rename_i v hv
            split at h
            · rename_i hd
              exact sd (yB hv) (ih _ _ h k) hd
            · cases h
          · cases h
theorem sr (n:Nat) (h:run N n l L=some (l',L')) (k:SF P ops w Qs N l' L'):SF P ops w Qs N l L:=sr1 n l L h k
theorem sy {dd:Option Nat} {i g:Nat} {b c:Bool} (e:c=b) (k:SF P ops w Qs N (⟨dd,op,ty,pos,af,none⟩::rest) L) (hg:(ops[i]?).bind (·.dst)=some g:=by rfl) (hc:look L g=some (.bool c):=by rfl) :
    SF P ops w Qs N (⟨dd,op,ty,pos,af,some (i,b)⟩::rest) L:=fun a H=>An H hg hc e (k a H)
theorem sn {i g:Nat} {b c:Bool} (hg:(ops[i]?).bind (·.dst)=some g) (hc:look L g=some (.bool c)) (hne:(c == b)=false) (k:SF P ops w Qs N rest ((d,undef)::L)) (hd:Nat.blt d N.n=true:=by rfl) :
    SF P ops w Qs N (⟨some d,op,ty,pos,af,some (i,b)⟩::rest) L:=fun a H=>Ja H hg hc hne hd k
theorem sg (m i g t:Nat) (b:Bool) {c:Bool} {v:Value} (hg:(ops[i]?).bind (·.dst)=some g) (hc:look L g=some (.bool c))
    (h1:c=b→SF P ops w (fun a'=>Fr N ((t,v)::L) a') N (l.take m) L) (k:SF P ops w Qs N (l.drop m) ((t,gv c b v)::L))
    (hs:skips ops i g b [] (l.take m)=true:=by kernel_rfl) (hw:kW t (l.take m)=true:=by kernel_rfl) (hcl:clean L (l.take m)=true:=by rfl) (ht:Nat.blt t N.n=true:=by rfl):SF P ops w Qs N l L:=
  fun a H=>xW m H hg hc hs hw hcl ht (fun e=>h1 e a H) k
theorem sz {t:Nat} {v:Value} {X:List (Nat×Value)} (k:Nat) (ht:look X t=some v) (hc:rF k X=true) (hL:X.drop k=L):SF P ops w (fun a'=>Fr N ((t,v)::L) a') N [] X:=
  fun a H=>by subst hL;exact wpStill_nil (H.strip k ht hc)
theorem sl {x:Operand} {t b off bt:Nat} {cs:List Value} {v:Value} (S:St w0 F0 R w) (j:Nat) (h1:One P t) (hx:ev L x=some (.pointer (some ⟨b,off,none⟩))) (hi:R[j]?=some (boxM b bt cs)) (hv:cs[off]?=some v)
    (k:SF P ops w Qs N rest ((d,v)::L)) (hd:Nat.blt d N.n=true:=by rfl):SF P ops w Qs N (⟨some d,.load t x,ty,pos,af,none⟩::rest) L:=sd (aG h1 hx (boxM.rd S hi hv)) k hd
theorem slm {x:Operand} {t:Nat} {a:Addr} {v:Value} (h1:One P t) (hx:ev L x=some (.pointer (some a))) (h:w.cell? a=some v)
    (k:SF P ops w Qs N rest ((d,v)::L)) (hd:Nat.blt d N.n=true:=by rfl):SF P ops w Qs N (⟨some d,.load t x,ty,pos,af,none⟩::rest) L:=sd (aG h1 hx h) k hd
theorem sf {x:Operand} {t f off b o:Nat} (h:FOff P t f off) (hx:ev L x=some (.pointer (some ⟨b,o,none⟩))) (k:SF P ops w Qs N rest ((d,.pointer (some ⟨b,o+off,none⟩))::L)) (hd:Nat.blt d N.n=true:=by rfl) :
    SF P ops w Qs N (⟨some d,.fieldAddr t x f,ty,pos,af,none⟩::rest) L:=sd (aD h hx) k hd
theorem sp {x:Operand} {t f off sz k j:Nat} {A:Option Addr} (h:FOff P t f off) (hx:ev L x=some (.pointer (some (pt A sz k j)))) (K:SF P ops w Qs N rest ((d,.pointer (some (pt A sz k (j+off))))::L)) (hd:Nat.blt d N.n=true:=by rfl) :
    SF P ops w Qs N (⟨some d,.fieldAddr t x f,ty,pos,af,none⟩::rest) L:=sd (bI h hx) K hd
theorem si {x i:Operand} {t e s:Nat} {A:Option Addr} {n c:Nat} {q:IntKind} {j:Nat} (ht:SlT P t e) (hs:Sz P e s) (hx:ev L x=some (.slice A n c)) (hi:ev L i=some (.int q (j:Int)))
    (hA:A=some ⟨(adr A).block,(adr A).off,none⟩) (hn:j<n) (k:SF P ops w Qs N rest ((d,.pointer (some (pt A s j 0)))::L)) (hd:Nat.blt d N.n=true:=by rfl) :
    SF P ops w Qs N (⟨some d,.indexAddr t x i,ty,pos,af,none⟩::rest) L:=sd (bP ht hs hx hi hA hn) k hd
theorem sI {x i:Operand} {t e s:Nat} {A:Option Addr} {n c:Nat} {q:IntKind} {j:Int} (ht:SlT P t e) (hs:Sz P e s) (hx:ev L x=some (.slice A n c)) (hi:ev L i=some (.int q j))
    (hA:A=some ⟨(adr A).block,(adr A).off,none⟩) (h0:0≤j) (hn:j<n) (k:SF P ops w Qs N rest ((d,.pointer (some (pt A s j.toNat 0)))::L)) (hd:Nat.blt d N.n=true:=by rfl) :
    SF P ops w Qs N (⟨some d,.indexAddr t x i,ty,pos,af,none⟩::rest) L:=sd (bV ht hs hx hi hA h0 hn) k hd
theorem sL {x:Operand} {t e:Nat} {A:Option Addr} {n c:Nat} (ht:SlT P t e) (hx:ev L x=some (.slice A n c)) (k:SF P ops w Qs N rest ((d,.int .i64 (n:Int))::L)) (hd:Nat.blt d N.n=true:=by rfl) :
    SF P ops w Qs N (⟨some d,.call ⟨.builtin .len,#[x],#[t]⟩,ty,pos,af,none⟩::rest) L:=sd (cH ht hx) k hd
theorem so {c x y:Operand} {b r:Bool} (hc:ev L c=some (.bool b)) (hx:ev L x=some (.bool true)) (hy:ev L y=some (gv b false (.bool r))) (k:SF P ops w Qs N rest ((d,.bool (b||r))::L)) (hd:Nat.blt d N.n=true:=by rfl) :
    SF P ops w Qs N (⟨some d,.pick c x y,ty,pos,af,none⟩::rest) L:=sd (aW hc hx hy) k hd
theorem sa {c x y:Operand} {b r:Bool} (hc:ev L c=some (.bool b)) (hx:ev L x=some (gv b true (.bool r))) (hy:ev L y=some (.bool false)) (k:SF P ops w Qs N rest ((d,.bool (b&&r))::L)) (hd:Nat.blt d N.n=true:=by rfl) :
    SF P ops w Qs N (⟨some d,.pick c x y,ty,pos,af,none⟩::rest) L:=sd (iR hc hx hy) k hd
theorem sc {f:Nat} {fn:Func} {xs:Array Operand} {ats:Array TypeId} {vs:List Value} {v:Value} (hxs:evs L xs.toList=some vs)
    (hf : P.funcs[f]? = some fn) (hb : fn.body.isNone = false) (hn : (fn.name == "runtime.NumGoroutine") = false)
    (hc:Calls P f vs.toArray w (Ret fun u w'=>u=v∧w'=w)) (k:SF P ops w Qs N rest ((d,v)::L)) (hd:Nat.blt d N.n=true:=by rfl) :
    SF P ops w Qs N (⟨some d,.call ⟨.value (.func f),xs,ats⟩,ty,pos,af,none⟩::rest) L:=fun a H=>Ar H hd hxs hf hb hn hc k
theorem ls (m:Nat) (H:Fr N L a) (h:SF P ops w (fun a'=>wpList P ops Q (l.drop m) a' w) N (l.take m) L):wpList P ops Q l a w:=rA m (h a H)
theorem sS {y:Code} {id:Nat} (H:Fr N L a) (h:∀ K:Act→Prop,(∀ a,y.wp P Q a w→K a)→SF P l.toArray w K N l L):(Code.seq (.region id l.toArray false) y).wp P Q a w:=Fg fun K hK=>h K hK a H
theorem sO {id:Nat} (H:Fr N L a) (h:SF P l.toArray w (fun a=>Q .normal a w) N l L):(Code.region id l.toArray false).wp P Q a w:=Fh (h a H)
theorem sD {y:Code} {id:Nat} (H:Fr N L a) (h:∀ K:Act→Prop,(∀ a,y.wp P Q a w.drew→K a)→SF P l.toArray w.drew K N l L) (hm:P.follows .mixedOrders=true:=by kernel_rfl) (hB:Region.lexB .any l.toArray=true:=by kernel_rfl) :
    (Code.seq (.region id l.toArray true) y).wp P Q a w:=Ap hm hB fun K hK=>h K hK a H
theorem sP {id:Nat} (H:Fr N L a) (h:SF P l.toArray w.drew (fun a=>Q .normal a w.drew) N l L) (hm:P.follows .mixedOrders=true:=by kernel_rfl) (hB:Region.lexB .any l.toArray=true:=by kernel_rfl):(Code.region id l.toArray true).wp P Q a w:=Aq hm hB (h a H)
variable {x y:Code} {t:Nat} {m n:Int}
theorem condL (H:Fr N L a) (hc:look L t=some (.bool (decide (m<n)))) (h1:m<n→x.wp P Q a w) (h2:n≤m→y.wp P Q a w):(Code.cond (.tmp t) x y).wp P Q a w:=
  cond_ H hc (fun h=>h1 (by simpa using h)) (fun h=>h2 (by simpa using h))
theorem condG (H:Fr N L a) (hc:look L t=some (.bool (decide (m≤n)))) (h1:m≤n→x.wp P Q a w) (h2:n<m→y.wp P Q a w):(Code.cond (.tmp t) x y).wp P Q a w:=
  cond_ H hc (fun h=>h1 (by simpa using h)) (fun h=>h2 (by simpa using h))
theorem condE (H:Fr N L a) (hc:look L t=some (.bool (decide (m=n)))) (h1:m=n→x.wp P Q a w) (h2:¬ m=n→y.wp P Q a w):(Code.cond (.tmp t) x y).wp P Q a w:=
  cond_ H hc (fun h=>h1 (by simpa using h)) (fun h=>h2 (by simpa using h))
theorem condN (H:Fr N L a) (hc:look L t=some (.bool (!decide (m=n)))) (h1:¬ m=n→x.wp P Q a w) (h2:m=n→y.wp P Q a w):(Code.cond (.tmp t) x y).wp P Q a w:=
  cond_ H hc (fun h=>h1 (by simpa using h)) (fun h=>h2 (by simpa using h))
end
def runq (N:FN) (ops:Array Oper):Nat→List (Nat×Bool)→List (Nat×Value)→Option (List (Nat×Bool)×List (Nat×Value))
  | 0,π,L=>some (π,L)
  | n + 1,(i,true)::π,L=>match ops[i]? with
    | some ⟨some d,op,_,_,_,none⟩=>match exec1 L op with
      | some v=>match Nat.blt d N.n with
        | true=>runq N ops n π ((d,v)::L)
        | false=>none
      | none=>none
    | _=>none
  | _+1,_,_=>none
section
variable {P:Program} {ops:Array Oper} {w w0:World} {C:World→Prop} {Qn:Act→World→Prop} {π π':List (Nat×Bool)} {N:FN} {L L':List (Nat×Value)} {a:Act} {ty:TypeId} {pos:String} {af:Array Edge} {op:Op} {d i:Nat}
def QF (P:Program) (ops:Array Oper) (C:World→Prop) (Qn:Act→World→Prop) (w:World) (N:FN) (π:List (Nat×Bool)) (L:List (Nat×Value)):Prop:=∀ a,Fr N L a→wq P ops C Qn π a w
theorem qF (H:Fr N L a) (h:QF P ops C Qn w N π L):wq P ops C Qn π a w:=h a H
theorem qK (h:∀ a,Fr N L a→wq P ops C Qn π a w):QF P ops C Qn w N π L:=h
theorem qd {v:Value} (hi:ops[i]?=some ⟨some d,op,ty,pos,af,none⟩) (h:∀ w',C w'→Does P L ⟨some d,op,ty,pos,af,none⟩ w' v) (k:QF P ops C Qn w N π ((d,v)::L)) (hd:Nat.blt d N.n=true:=by rfl):QF P ops C Qn w N ((i,true)::π) L:=
  fun a H=>Om H hi hd h k
theorem qr1 : ∀ (n:Nat) (π:List (Nat×Bool)) (L:List (Nat×Value)),runq N ops n π L=some (π',L')→QF P ops C Qn w N π' L'→QF P ops C Qn w N π L:=by
  intro n
  induction n with
  | zero=>intro π L h k;simp only [runq,Option.some.injEq,Prod.mk.injEq] at h;obtain ⟨rfl,rfl⟩:=h;exact k
  | succ n ih =>
    intro π L h k
    cases π with
    | nil=>simp only [runq] at h;cases h
    | cons p π=>
      obtain ⟨i,b⟩:=p
      cases b with
      | false=>simp only [runq] at h;cases h
      | true=>
        simp only [runq] at h
        split at h
        · rename_i d op _ _ _ ho
          split at h
          · rename_i v hv
            split at h
            · rename_i hd
              exact qd ho (fun _ _=>yB hv) (ih _ _ h k) hd
            · cases h
          · cases h
        · cases h
theorem qr (n:Nat) (h:runq N ops n π L=some (π',L')) (k:QF P ops C Qn w N π' L'):QF P ops C Qn w N π L:=qr1 n π L h k
end
section
variable {P:Program} {ops:Array Oper} {w w0:World} {F0 F:Nat→Prop} {R:List Mem} {Q:Exit→Act→World→Prop} {rest:List Oper} {N:FN} {L:List (Nat×Value)} {a:Act} {ty:TypeId} {pos:String} {af:Array Edge}
theorem dK {d t e sz:Nat} (H:Fr N L a) (hd:Nat.blt d N.n=true) (S:St w0 F0 R w) (ht:SlT P t e) (hs:Sz P e sz) (cell:Nat→Nat→Value)
    (k:∀ A w' a',St w0 F0 (ownM e sz A 0 0 cell::R) w'→Fr N ((d,.slice A 0 0)::L) a'→wpList P ops Q rest a' w') :
    wpList P ops Q (⟨some d,.buildSlice t 0 #[],ty,pos,af,none⟩::rest) a w:=by
  refine wpList_plain rfl fun K hK=>?_
  unfold Oper.wp
  have hz:∀ f:Nat→Value,Array.map f (Array.range 0)=#[]:=fun f=>by
    apply Array.ext
    · simp
    · intro i h1 h2;simp at h2
  have e1:(execOp a.eval ⟨some d,.buildSlice t 0 #[],ty,pos,af,none⟩).run P w = .ok (.value (.slice (some ⟨w.heap.size,0,none⟩) 0 0)) (w.alloc (.cells #[] e)):=by
    have:(Instr.buildSlice t 0 #[]).run P w = .ok (.slice (some ⟨w.heap.size,0,none⟩) 0 0) (w.alloc (.cells #[] e)):=by
      simp [Instr.buildSlice,bU ht,hs.run,newRow,newObj,Sem.run,Instr.fill]
      rw [hz]
    simp [execOp,this]
  rw [e1]
  refine hK _ _ (k (some ⟨w.heap.size,0,none⟩) _ _ (S.alloc _ _ (.inr ⟨w.heap.size,#[],rfl,heap_alloc_new w _,Nat.le_refl _,by simp only [maxLen];omega,by simp,fun k' j' hk'=>by omega⟩) ?_) (H.put _ hd))
  rintro q ⟨_,h,rfl⟩;cases h;rfl
end
section
variable {w w0:World} {F0:Nat→Prop} {R:List Mem} {m m1 m2:Mem}
theorem St.split (S:St w0 F0 R w) {i:Nat} (hi:R[i]?=some m) (h1:m1.holds w) (h2:m2.holds w) (f1:∀ k,m1.fp k→m.fp k) (f2:∀ k,m2.fp k→m.fp k) (hd:∀ k,m1.fp k→¬ m2.fp k):St w0 F0 (m1::R.set i m2) w:=by
  have hmR:m ∈ R:=List.mem_of_getElem? hi
  refine ⟨S.os,S.tape,S.out,S.size,S.ro,?_,?_,?_⟩
  · intro x hx
    rcases List.mem_cons.1 hx with rfl|hx
    · exact h1
    · obtain ⟨j,hj⟩:=List.getElem?_of_mem hx
      rcases fA hi hj with ⟨_,rfl⟩|⟨_,hxj⟩
      · exact h2
      · exact S.res x (List.mem_of_getElem? hxj)
  · intro x hx k hk
    rcases List.mem_cons.1 hx with rfl|hx
    · exact S.inn m hmR k (f1 k hk)
    · obtain ⟨j,hj⟩:=List.getElem?_of_mem hx
      rcases fA hi hj with ⟨_,rfl⟩|⟨_,hxj⟩
      · exact S.inn m hmR k (f2 k hk)
      · exact S.inn x (List.mem_of_getElem? hxj) k hk
  · have key:∀ (j:Nat) (b:Mem),(R.set i m2)[j]?=some b→∀ k,m1.fp k→¬ b.fp k:=by
      intro j b hb k hk hk'
      rcases fA hi hb with ⟨_,rfl⟩|⟨hji,hbj⟩
      · exact hd k hk hk'
      · exact S.disj i j m b hi hbj (fun e=>hji e.symm) k (f1 k hk) hk'
    intro p q a b hp hq hpq k hk hk'
    cases p with
    | zero=>
      cases q with
      | zero=>exact hpq rfl
      | succ q=>simp at hp hq;subst hp;exact key q b hq k hk hk'
    | succ p=>
      cases q with
      | zero=>simp at hp hq;subst hq;exact key p a hp k hk' hk
      | succ q=>
        simp at hp hq
        rcases fA hi hp with ⟨ep,rfl⟩|⟨hpi,hap⟩ <;> rcases fA hi hq with ⟨eq,rfl⟩|⟨hqi,hbq⟩
        · omega
        · exact S.disj i q m b hi hbq (fun e=>hqi e.symm) k (f2 k hk) hk'
        · exact S.disj p i a m hap hi hpi k hk (f2 k hk')
        · exact S.disj p q a b hap hbq (by omega) k hk hk'
theorem St.merge (S:St w0 F0 (m1::R) w) {i:Nat} (hi:R[i]?=some m2) (h:m.holds w) (f:∀ k,m.fp k→m1.fp k∨m2.fp k):St w0 F0 (R.set i m) w:=by
  have h2R:m2 ∈ m1::R:=List.mem_cons_of_mem _ (List.mem_of_getElem? hi)
  refine ⟨S.os,S.tape,S.out,S.size,S.ro,?_,?_,?_⟩
  · intro x hx
    obtain ⟨j,hj⟩:=List.getElem?_of_mem hx
    rcases fA hi hj with ⟨_,rfl⟩|⟨_,hxj⟩
    · exact h
    · exact S.res x (List.mem_cons_of_mem _ (List.mem_of_getElem? hxj))
  · intro x hx k hk
    obtain ⟨j,hj⟩:=List.getElem?_of_mem hx
    rcases fA hi hj with ⟨_,rfl⟩|⟨_,hxj⟩
    · rcases f k hk with h|h
      · exact S.inn m1 (List.mem_cons_self ..) k h
      · exact S.inn m2 h2R k h
    · exact S.inn x (List.mem_cons_of_mem _ (List.mem_of_getElem? hxj)) k hk
  · have key:∀ (j:Nat) (b:Mem),j≠i→R[j]?=some b→∀ k,m.fp k→¬ b.fp k:=by
      intro j b hj hb k hk hk'
      rcases f k hk with h|h
      · exact S.disj 0 (j+1) m1 b rfl (by simpa using hb) (by omega) k h hk'
      · exact S.disj (i+1) (j+1) m2 b (by simpa using hi) (by simpa using hb) (by omega) k h hk'
    intro p q a b hp hq hpq k hk hk'
    rcases fA hi hp with ⟨ep,rfl⟩|⟨hpi,hap⟩ <;> rcases fA hi hq with ⟨eq,rfl⟩|⟨hqi,hbq⟩
    · omega
    · exact key q b hqi hbq k hk hk'
    · exact key p a hpi hap k hk' hk
    · exact S.disj (p+1) (q+1) a b (by simpa using hap) (by simpa using hbq) (by omega) k hk hk'
end
def ragM (e sz:Nat) (D:Nat→Prop) (A:Nat→Option Addr) (n c:Nat→Nat) (cell:Nat→Nat→Nat→Value):Mem where
  fp:=fun k=>∃ i,D i∧(ownM e sz (A i) (n i) (c i) (cell i)).fp k
  holds:=fun w=>(∀ i,D i→(ownM e sz (A i) (n i) (c i) (cell i)).holds w)∧∀ i j,D i→D j→i≠j→∀ k,(ownM e sz (A i) (n i) (c i) (cell i)).fp k→¬ (ownM e sz (A j) (n j) (c j) (cell j)).fp k
  stable:=fun w w' h ⟨h1,h2⟩=>⟨fun i hi=>(ownM e sz (A i) (n i) (c i) (cell i)).stable w w' (fun k hk=>h k ⟨i,hi,hk⟩) (h1 i hi),h2⟩
def upd {α:Type} (f:Nat→α) (p:Nat) (v:α):Nat→α:=fun i=>if i=p then v else f i
theorem eH {α:Type} (f:Nat→α) (p:Nat) (v:α):upd f p v p=v:=if_pos rfl
theorem fH {α:Type} (f:Nat→α) {p i:Nat} (v:α) (h:i≠p):upd f p v i=f i:=if_neg h
section
variable {w w0:World} {F0:Nat→Prop} {R:List Mem} {e sz i p:Nat} {D:Nat→Prop} {A:Nat→Option Addr} {n c:Nat→Nat} {cell:Nat→Nat→Nat→Value}
theorem ragM.row (S:St w0 F0 R w) (hi:R[i]?=some (ragM e sz D A n c cell)) (hp:D p):(ownM e sz (A p) (n p) (c p) (cell p)).holds w:=(S.holds hi).1 p hp
theorem ragM.pull (S:St w0 F0 R w) (hi:R[i]?=some (ragM e sz D A n c cell)) (hp:D p) :
    St w0 F0 (ownM e sz (A p) (n p) (c p) (cell p)::R.set i (ragM e sz (fun q=>D q∧q≠p) A n c cell)) w:=by
  obtain ⟨h1,h2⟩:=S.holds hi
  refine S.split hi (h1 p hp) ⟨fun q hq=>h1 q hq.1,fun q r hq hr=>h2 q r hq.1 hr.1⟩ (fun k hk=>⟨p,hp,hk⟩) ?_ ?_
  · rintro k ⟨q,hq,hk⟩;exact ⟨q,hq.1,hk⟩
  · rintro k hk ⟨q,hq,hk'⟩;exact h2 p q hp hq.1 (fun e=>hq.2 e.symm) k hk hk'
theorem ragM.put {A':Option Addr} {n' c':Nat} {cell':Nat→Nat→Value} (S:St w0 F0 (ownM e sz A' n' c' cell'::R) w) (hi:R[i]?=some (ragM e sz (fun q=>D q∧q≠p) A n c cell)) (hp:D p) :
    St w0 F0 (R.set i (ragM e sz D (upd A p A') (upd n p n') (upd c p c') (upd cell p cell'))) w:=by
  have h0:(ownM e sz A' n' c' cell').holds w:=S.holds (i:=0) rfl
  obtain ⟨h1,h2⟩:=S.holds (i:=i+1) (m:=ragM e sz (fun q=>D q∧q≠p) A n c cell) (by simpa using hi)
  have hd:=S.disj 0 (i+1) _ (ragM e sz (fun q=>D q∧q≠p) A n c cell) rfl (by simpa using hi) (by omega)
  have hrow:∀ q,q≠p→ownM e sz (upd A p A' q) (upd n p n' q) (upd c p c' q) (upd cell p cell' q)=ownM e sz (A q) (n q) (c q) (cell q):=fun q hq=>by rw [fH _ _ hq,fH _ _ hq,fH _ _ hq,fH _ _ hq]
  have hrp:ownM e sz (upd A p A' p) (upd n p n' p) (upd c p c' p) (upd cell p cell' p)=ownM e sz A' n' c' cell':=by rw [eH,eH,eH,eH]
  refine S.merge hi ⟨fun q hq=>?_,fun q r hq hr hqr k hk hk'=>?_⟩ ?_
  · by_cases h:q=p
    · subst h;rw [hrp];exact h0
    · rw [hrow q h];exact h1 q ⟨hq,h⟩
  · by_cases h:q=p <;> by_cases h':r=p
    · omega
    · subst h;rw [hrp] at hk;rw [hrow r h'] at hk';exact hd k hk ⟨r,⟨hr,h'⟩,hk'⟩
    · subst h';rw [hrp] at hk';rw [hrow q h] at hk;exact hd k hk' ⟨q,⟨hq,h⟩,hk⟩
    · rw [hrow q h] at hk;rw [hrow r h'] at hk';exact h2 q r ⟨hq,h⟩ ⟨hr,h'⟩ hqr k hk hk'
  · rintro k ⟨q,hq,hk⟩
    by_cases h:q=p
    · subst h;rw [hrp] at hk;exact .inl hk
    · rw [hrow q h] at hk;exact .inr ⟨q,⟨hq,h⟩,hk⟩
theorem ragM.zero (S:St w0 F0 R w) (e sz:Nat) (D:Nat→Prop) (cell:Nat→Nat→Nat→Value):St w0 F0 (ragM e sz D (fun _=>none) (fun _=>0) (fun _=>0) cell::R) w:=
  S.new (Keeps.refl _ _) ⟨fun q _ => .inl ⟨rfl,rfl,rfl⟩,fun q r _ _ _ k ⟨_,h,_⟩=>by cases h⟩ fun k ⟨q,_,_,h,_⟩=>by cases h
theorem ragM.congr {A':Nat→Option Addr} {n' c':Nat→Nat} {cell':Nat→Nat→Nat→Value} (S:St w0 F0 R w) (hi:R[i]?=some (ragM e sz D A n c cell))
    (hA:∀ q,D q→A q=A' q) (hn:∀ q,D q→n q=n' q) (hc:∀ q,D q→c q=c' q) (hv:∀ q,D q→∀ k j,k<n q→j<sz→cell q k j=cell' q k j):St w0 F0 (R.set i (ragM e sz D A' n' c' cell')) w:=by
  have hfp:∀ q,D q→∀ k,(ownM e sz (A' q) (n' q) (c' q) (cell' q)).fp k↔(ownM e sz (A q) (n q) (c q) (cell q)).fp k:=fun q hq k=>by rw [←hA q hq];exact Iff.rfl
  refine S.imp hi ?_ ?_
  · rintro ⟨h1,h2⟩
    refine ⟨fun q hq=>?_,fun q r hq hr hqr k hk hk'=>h2 q r hq hr hqr k ((hfp q hq k).1 hk) ((hfp r hr k).1 hk')⟩
    rw [←hA q hq,←hn q hq,←hc q hq]
    rcases h1 q hq with h|⟨b,cs,g1,g2,g3,g4,g5,g6⟩
    · exact .inl h
    · exact .inr ⟨b,cs,g1,g2,g3,g4,g5,fun k j hk hj=>by rw [←hv q hq k j hk hj];exact g6 k j hk hj⟩
  · rintro k ⟨q,hq,hk⟩;exact ⟨q,hq,(hfp q hq k).1 hk⟩
theorem ragM.rd {k j:Nat} (S:St w0 F0 R w) (hi:R[i]?=some (ragM e sz D A n c cell)) (hp:D p) (hk:k<n p) (hj:j<sz):w.cell? (pt (A p) sz k j)=some (cell p k j):=
  ownM.rd (ragM.pull S hi hp) (i:=0) rfl hk hj
theorem ragM.adr (S:St w0 F0 R w) (hi:R[i]?=some (ragM e sz D A n c cell)) (hp:D p) (hn:0<n p):A p=some ⟨(adr (A p)).block,(adr (A p)).off,none⟩:=
  ownM.adr (ragM.pull S hi hp) (i:=0) rfl hn
theorem ragM.inS (S:St w0 F0 R w) (hi:R[i]?=some (ragM e sz D A n c cell)) (hp:D p):InS w noF sz (A p) (n p) (cell p):=
  ownM.inS (ragM.pull S hi hp) (i:=0) rfl
theorem ragM.le (S:St w0 F0 R w) (hi:R[i]?=some (ragM e sz D A n c cell)) (hp:D p):n p≤c p∧c p≤maxLen:=
  ownM.le (ragM.pull S hi hp) (i:=0) rfl
end
section
variable {P:Program} {ops:Array Oper} {w w0:World} {F0:Nat→Prop} {R:List Mem} {Q:Exit→Act→World→Prop} {rest:List Oper} {N:FN} {L:List (Nat×Value)} {a:Act} {ty:TypeId} {pos:String} {af:Array Edge}
end
def queM (e:TypeId) (A:Option Addr) (n c:Nat) (f:Nat→Int):Mem where
  fp:=fun k=>∃ a,A=some a∧a.block=k
  holds:=fun w=>∃ (b o:Nat) (cs:Array Value),A=some ⟨b,o,none⟩∧w.heap[b]?=some (.cells cs e (0,0))∧n≤c∧c≤maxLen∧(0<c→o+c≤cs.size)∧∀ k,k<n→cs[o+k]?=some (.int .i64 (f k))
  stable:=fun _ _ h ⟨b,o,cs,hA,hb,h'⟩=>⟨b,o,cs,hA,(h b ⟨_,hA,rfl⟩).trans hb,h'⟩
section
variable {P:Program} {ops:Array Oper} {w w0:World} {F0 F:Nat→Prop} {R:List Mem} {Q:Exit→Act→World→Prop} {rest:List Oper} {N:FN} {L:List (Nat×Value)} {a:Act} {ty:TypeId} {pos:String} {af:Array Edge}
variable {e n c i:Nat} {A:Option Addr} {f:Nat→Int}
theorem queM.rd {k:Nat} (S:St w0 F0 R w) (hi:R[i]?=some (queM e A n c f)) (hk:k<n):w.cell? (pt A 1 k 0)=some (.int .i64 (f k)):=by
  obtain ⟨b,o,cs,rfl,hb,_,_,_,hc⟩:=S.holds hi
  have:pt (some ⟨b,o,none⟩) 1 k 0=⟨b,o+k,none⟩:=by simp [pt,adr]
  rw [this,cell_of_row w b (o+k) cs e (0,0) hb]
  exact hc k hk
theorem queM.adr (S:St w0 F0 R w) (hi:R[i]?=some (queM e A n c f)):A=some ⟨(adr A).block,(adr A).off,none⟩:=by
  obtain ⟨b,o,cs,rfl,_⟩:=S.holds hi
  rfl
theorem queM.congr {f':Nat→Int} (S:St w0 F0 R w) (hi:R[i]?=some (queM e A n c f)) (h:∀ k,k<n→f k=f' k):St w0 F0 (R.set i (queM e A n c f')) w:=by
  refine S.imp hi ?_ (fun _ h=>h)
  rintro ⟨b,o,cs,hA,hb,h1,h2,h3,hc⟩
  exact ⟨b,o,cs,hA,hb,h1,h2,h3,fun k hk=>by rw [←h k hk];exact hc k hk⟩
theorem queM.le (S:St w0 F0 R w) (hi:R[i]?=some (queM e A n c f)):n≤c∧c≤maxLen:=by
  obtain ⟨b,o,cs,rfl,_,h1,h2,_⟩:=S.holds hi
  exact ⟨h1,h2⟩
end
end
section
def findL {κ:Type} [DecidableEq κ] (k:κ):List (κ×Value)→Nat→Option (Nat×Value)
  | [],_=>none
  | p::l,i=>if k=p.1 then some (i,p.2) else findL k l (i+1)
def getL {κ:Type} [DecidableEq κ] (l:List (κ×Value)) (k:κ):Option Value:=(findL k l 0).map (·.2)
def setL {κ:Type} [DecidableEq κ] (l:List (κ×Value)) (k:κ) (v:Value):List (κ×Value):=match findL k l 0 with
  | some (i,_)=>l.modify i fun p=>(p.1,v)
  | none=>l++[(k,v)]
theorem kZ {κ:Type} [DecidableEq κ] (k:κ):∀ (l:List (κ×Value)) (i:Nat),findL k l i=(findL k l 0).map (fun q=>(q.1+i,q.2)):=by
  intro l
  induction l with
  | nil=>intro i;rfl
  | cons p l ih=>
    intro i
    simp only [findL]
    by_cases h:k=p.1
    · rw [if_pos h,if_pos h];simp
    · rw [if_neg h,if_neg h,ih (i+1),ih 1,Option.map_map]
      congr 1
      funext q
      simp only [Function.comp,Prod.mk.injEq,and_true]
      omega
theorem jP {κ:Type} [DecidableEq κ] (k:κ) (p:κ×Value) (l:List (κ×Value)):getL (p::l) k=if k=p.1 then some p.2 else getL l k:=by
  unfold getL
  simp only [findL]
  by_cases h:k=p.1
  · rw [if_pos h,if_pos h];rfl
  · rw [if_neg h,if_neg h,kZ,Option.map_map];rfl
theorem Fo {κ:Type} [DecidableEq κ] (k:κ) (v:Value) (p:κ×Value) (l:List (κ×Value)):setL (p::l) k v=if k=p.1 then (p.1,v)::l else p::setL l k v:=by
  unfold setL
  simp only [findL]
  by_cases h:k=p.1
  · rw [if_pos h,if_pos h];rfl
  · rw [if_neg h,if_neg h,kZ]
    cases hf:findL k l 0 with
    | none=>rfl
    | some q=>obtain ⟨i,u⟩:=q;rfl
theorem yC {κ:Type} [DecidableEq κ] (v:Value) (k k':κ):∀ (l:List (κ×Value)),getL (setL l k v) k'=if k'=k then some v else getL l k':=by
  intro l
  induction l with
  | nil=>
    show getL [(k,v)] k'=_
    rw [jP]
  | cons p l ih=>
    rw [Fo]
    by_cases h:k=p.1
    · rw [if_pos h,jP,jP]
      dsimp only
      rw [←h]
      by_cases h2:k'=k
      · rw [if_pos h2,if_pos h2]
      · rw [if_neg h2,if_neg h2,if_neg h2]
    · rw [if_neg h,jP,jP,ih]
      by_cases h2:k'=p.1
      · rw [if_pos h2,if_pos h2,if_neg (fun e=>h (by rw [←e,h2]))]
      · rw [if_neg h2,if_neg h2]
structure KeyOk {κ:Type} [DecidableEq κ] (P:Program) (kt:TypeId) (enc:κ→Value):Prop where
  find:∀ (l:List (κ×Value)) (k:κ) (es:List MapEntry) (w:World),es.map (fun e=>(e.key,e.val))=l.map (fun p=>(enc p.1,p.2))→(Instr.findKey kt (enc k) es).run P w = .ok (findL k l 0) w
  check:∀ (e:Bool) (k:κ) (w:World),(Instr.checkKey e 10000 kt (enc k)).run P w = .ok () w
  bits:∀ k:κ,Instr.sameBits 10000 (enc k) (enc k)=true
theorem iP {P:Program} {kt:TypeId} (h:P.underlying kt=some (.int .i64)):KeyOk P kt (fun n:Int => .int .i64 n):=by
  refine ⟨fun l k es w he=>?_,fun e k w=>?_,fun k=>by simp [Instr.sameBits]⟩
  · have key : ∀ (l:List (Int×Value)) (es:List MapEntry) (i:Nat),es.map (fun e=>(e.key,e.val))=l.map (fun p=>(Value.int .i64 p.1,p.2))→Instr.findNow (.int .i64) (.int .i64 k) es i=some (findL k l i):=by
      intro l
      induction l with
      | nil => intro es i he;have:es=[]:=by simpa using he
               subst this;rfl
      | cons p l ih=>
        intro es i he
        cases es with
        | nil=>simp at he
        | cons e es=>
          simp only [List.map_cons,List.cons.injEq,Prod.mk.injEq] at he
          obtain ⟨⟨h1,h2⟩,h3⟩:=he
          simp only [Instr.findNow,h1,Instr.sameNow,if_true,findL]
          by_cases hk:k=p.1
          · subst hk;simp [h2]
          · have hb:(k == p.1)=false:=by simp [hk]
            rw [hb,if_neg hk]
            exact ih es (i+1) h3
    simp [Instr.findKey,bU h,key l es 0 he]
  · rw [show (10000:Nat)=9999+1 from rfl,Instr.checkKey]
    simp only [Sem.run_bind,bU h,Result.andThen_ok]
    rfl
def mapM {κ:Type} (enc:κ→Value) (b:Nat) (l:List (κ×Value)):Mem where
  fp:=fun k=>k=b
  holds:=fun w=>∃ (es:Array MapEntry) (ck:Nat),w.heap[b]?=some (.map es ck)∧es.toList.map (fun e=>(e.key,e.val))=l.map (fun p=>(enc p.1,p.2))
  stable:=fun _ _ h ⟨es,ck,h1,h2⟩=>⟨es,ck,(h b rfl).trans h1,h2⟩
section
variable {P:Program} {ops:Array Oper} {w w0:World} {F0:Nat→Prop} {R:List Mem} {Q:Exit→Act→World→Prop} {rest:List Oper} {N:FN} {L:List (Nat×Value)} {a:Act} {ty:TypeId} {pos:String} {af:Array Edge}
variable {κ:Type}
theorem vP {d t:Nat} (enc:κ→Value) (H:Fr N L a) (hd:Nat.blt d N.n=true) (S:St w0 F0 R w)
    (k:∀ b w' a',w0.heap.size≤b→St w0 F0 (mapM enc b []::R) w'→Fr N ((d,.map (some b))::L) a'→wpList P ops Q rest a' w') :
    wpList P ops Q (⟨some d,.makeMap t none,ty,pos,af,none⟩::rest) a w:=by
  refine wpList_plain rfl fun K hK=>?_
  unfold Oper.wp
  have e:(execOp a.eval ⟨some d,.makeMap t none,ty,pos,af,none⟩).run P w = .ok (.value (.map (some w.heap.size))) (w.alloc (.map #[] 0)):=by
    simp [execOp,Instr.makeMap,newObj,Sem.run]
  rw [e]
  refine hK _ _ (k w.heap.size _ _ S.size (S.new (Keeps.alloc w _ _) ⟨#[],0,heap_alloc_new w _,rfl⟩ ?_) (H.put _ hd))
  intro q hq
  rw [show q=w.heap.size from hq]
  simp
theorem rI (f:MapEntry→MapEntry) (g:κ×Value→κ×Value) (e1:MapEntry→Value×Value) (e2:κ×Value→Value×Value):∀ (es:List MapEntry) (l:List (κ×Value)) (i:Nat),es.map e1=l.map e2→(∀ e p,e1 e=e2 p→es[i]?=some e→l[i]?=some p→e1 (f e)=e2 (g p))→(es.modify i f).map e1=(l.modify i g).map e2:=by
  intro es
  induction es with
  | nil => intro l i h _;cases l with
           | nil=>simp
           | cons _ _=>simp at h
  | cons e es ih=>
    intro l i h hf
    cases l with
    | nil=>simp at h
    | cons p l=>
      simp only [List.map_cons,List.cons.injEq] at h
      cases i with
      | zero=>simp only [List.modify_zero_cons,List.map_cons,h.2,hf e p h.1 G G]
      | succ i=>simp only [List.modify_succ_cons,List.map_cons,h.1,ih l i h.2 (fun e p h1 h2 h3=>hf e p h1 (by simpa using h2) (by simpa using h3))]
end
def MapT (P:Program) (t k e:TypeId):Prop:=P.underlying t=some (.map k e)
def ZeroV (P:Program) (t:Nat) (z:Value):Prop:=(P.info? t).map (·.zero)=some (some z)
section
variable {P:Program} {ops:Array Oper} {w w0:World} {F0:Nat→Prop} {R:List Mem} {Q:Exit→Act→World→Prop} {rest:List Oper} {N:FN} {L:List (Nat×Value)} {a:Act} {ty:TypeId} {pos:String} {af:Array Edge}
variable {κ:Type} [DecidableEq κ] {enc:κ→Value} {l:List (κ×Value)}
theorem Fp {t:Nat} {z:Value} (h:ZeroV P t z):(zeroValue t).run P w = .ok z w:=by
  unfold ZeroV at h
  cases hi:P.info? t with
  | none=>rw [hi] at h;simp at h
  | some i=>rw [hi] at h;simp at h;simp [zeroValue,typeInfo,hi,h]
theorem mS {t kt et b:Nat} {z:Value} {k:κ} (ht:MapT P t kt et) (hk:KeyOk P kt enc) (hz:ZeroV P et z) (h:(mapM enc b l).holds w) (ok:Bool) :
    (Instr.lookup t (.map (some b)) (enc k) ok).run P w = .ok (if ok then .tuple #[(getL l k).getD z,.bool (getL l k).isSome] else (getL l k).getD z) w:=by
  obtain ⟨es,ck,hb,he⟩:=h
  have hf:=hk.find l k es.toList w he
  have hg:(getObj b).run P w = .ok (.map es ck) w:=by simp [getObj,Sem.run,hb]
  unfold MapT at ht
  simp only [Instr.lookup,Sem.run_bind,bU ht,Result.andThen_ok,hg,Sem.run_pure,hk.check,hf]
  unfold getL
  cases hfl:findL k l 0 with
  | none=>cases ok <;> simp [Fp hz]
  | some q=>obtain ⟨i,v⟩:=q;cases ok <;> simp
theorem pV {x y:Operand} {t kt et b i:Nat} {d:Option Nat} {g:Option (Nat×Bool)} {z:Value} {k:κ} (S:St w0 F0 R w) (hi:R[i]?=some (mapM enc b l)) (ht:MapT P t kt et) (hk:KeyOk P kt enc) (hz:ZeroV P et z) (hx:ev L x=some (.map (some b))) (hy:ev L y=some (enc k)) :
    Does P L ⟨d,.lookup t x y false,ty,pos,af,g⟩ w ((getL l k).getD z):=fun ρ hρ=>by
  have:=mS (k:=k) ht hk hz (S.holds hi) false
  simp [execOp,hρ _ _ hx,hρ _ _ hy,this]
theorem yD {k:κ}:∀ {l:List (κ×Value)} {i:Nat} {v:Value},findL k l 0=some (i,v)→l[i]?=some (k,v):=by
  intro l
  induction l with
  | nil=>intro i v h;cases h
  | cons p l ih=>
    intro i v h
    simp only [findL] at h
    by_cases hk:k=p.1
    · rw [if_pos hk] at h
      injection h with h
      injection h with h1 h2
      subst h1;subst h2;subst hk
      rfl
    · rw [if_neg hk,kZ] at h
      cases hf:findL k l 0 with
      | none=>rw [hf] at h;cases h
      | some q=>
        rw [hf] at h
        injection h with h
        injection h with h1 h2
        subst h1;subst h2
        have:=ih (i:=q.1) (v:=q.2) (by rw [hf])
        simpa using this
theorem rJ {x y u:Operand} {t kt et b i:Nat} {k:κ} {v:Value} (H:Fr N L a) (S:St w0 F0 R w) (hi:R[i]?=some (mapM enc b l)) (ht:MapT P t kt et) (hk:KeyOk P kt enc) (hx:ev L x=some (.map (some b))) (hy:ev L y=some (enc k)) (hu:ev L u=some v)
    (kk:∀ w' a',St w0 F0 (R.set i (mapM enc b (setL l k v))) w'→Fr N L a'→wpList P ops Q rest a' w') :
    wpList P ops Q (⟨none,.mapUpdate t x y u,ty,pos,af,none⟩::rest) a w:=by
  refine wpList_plain rfl fun K hK=>?_
  obtain ⟨es,ck,hb,he⟩:=S.holds hi
  have hf:=hk.find l k es.toList w he
  have hg:(getObj b).run P w = .ok (.map es ck) w:=by simp [getObj,Sem.run,hb]
  have hs:∀ o,(setObj b o).run P w = .ok () (w.putObj b o):=fun o=>by simp [setObj,Sem.run,hb,World.putObj]
  have hkeeps:∀ o,Keeps w (w.putObj b o) (fun k=>k=b):=fun o=>⟨rfl,rfl,rfl,by simp [World.putObj],fun q _ hq=>World.putObj_heap_other (fun e=>hq e)⟩
  unfold MapT at ht
  unfold Oper.wp
  cases hfl:findL k l 0 with
  | none=>
    rw [hfl] at hf
    have e1:(execOp a.eval ⟨none,.mapUpdate t x y u,ty,pos,af,none⟩).run P w = .ok .skip (w.putObj b (.map (es.push { key:=enc k,val:=v,born:=ck }) (ck+1))):=by
      simp [execOp,H.eval hx,H.eval hy,H.eval hu,Instr.mapUpdate,bU ht,hg,hk.check,hf,hs]
    rw [e1]
    refine hK _ _ (kk _ _ (S.updSame hi (hkeeps _) ⟨_,_,World.putObj_heap_same (dC hb),?_⟩ (fun _ h=>h)) (H.put_none _))
    unfold setL
    rw [hfl]
    simp [he]
  | some q=>
    obtain ⟨j,v0⟩:=q
    rw [hfl] at hf
    have hat:=yD hfl
    have hej:(es[j]?).map (·.key)=some (enc k):=by
      have h1:(es.toList.map (fun e=>(e.key,e.val)))[j]?=(l.map (fun p=>(enc p.1,p.2)))[j]?:=by rw [he]
      rw [List.getElem?_map,List.getElem?_map,hat,Array.getElem?_toList] at h1
      cases h2:es[j]? with
      | none=>rw [h2] at h1;simp at h1
      | some e=>rw [h2] at h1;simp at h1;simp [h1.1]
    have hst:(Instr.keyThatStays (enc k) (enc k)).run P w = .ok (enc k) w:=by simp [Instr.keyThatStays,hk.bits k]
    have e1:(execOp a.eval ⟨none,.mapUpdate t x y u,ty,pos,af,none⟩).run P w = .ok .skip (w.putObj b (.map (es.modify j fun e=>{ e with key:=enc k,val:=v }) ck)):=by
      simp [execOp,H.eval hx,H.eval hy,H.eval hu,Instr.mapUpdate,bU ht,hg,hk.check,hf,hs,hej,hst]
    rw [e1]
    refine hK _ _ (kk _ _ (S.updSame hi (hkeeps _) ⟨_,_,World.putObj_heap_same (dC hb),?_⟩ (fun _ h=>h)) (H.put_none _))
    unfold setL
    rw [hfl]
    rw [Array.toList_modify]
    refine rI _ _ _ _ es.toList l j he fun e p h1 h2 h3=>?_
    rw [hat] at h3
    injection h3 with h3
    subst h3
    rfl
end
def sm (f:Nat→Int):Nat→Int
  | 0=>0
  | n+1=>sm f n+f n
theorem lA {f g:Nat→Int}:∀ {n:Nat},(∀ i,i<n→f i=g i)→sm f n=sm g n:=by
  intro n
  induction n with
  | zero=>intro _;rfl
  | succ n ih=>intro h;rw [sm,sm,ih (fun i hi=>h i (by omega)),h n (by omega)]
theorem rK {f g:Nat→Int} {p:Nat}:∀ {n:Nat},p<n→(∀ i,i<n→i≠p→g i=f i)→sm g n=sm f n+(g p-f p):=by
  intro n
  induction n with
  | zero=>intro h;omega
  | succ n ih=>
    intro hp h
    rw [sm,sm]
    by_cases e:p=n
    · subst e
      rw [lA (f:=g) (g:=f) (fun i hi=>h i (by omega) (by omega))]
      omega
    · rw [ih (by omega) (fun i hi hne=>h i (by omega) hne),h n (by omega) (fun e'=>e e'.symm)]
      omega
theorem gX {f:Nat→Int}:∀ {n:Nat},(∀ i,i<n→0≤f i)→0≤sm f n:=by
  intro n
  induction n with
  | zero=>intro _;exact Int.le_refl _
  | succ n ih=>intro h;have h1:=ih (fun i hi=>h i (by omega));have h2:=h n (by omega);rw [sm];omega
theorem vQ {f:Nat→Int} {n:Nat} (h:∀ i,i<n→f i=0):sm f n=0:=by
  rw [lA (g:=fun _=>0) h]
  induction n with
  | zero=>rfl
  | succ n ih=>rw [sm,ih (fun i hi=>h i (by omega))];rfl
theorem mT {f:Nat→Int}:∀ {n:Nat},(∀ i,i<n→0≤f i)→sm f n=0→∀ i,i<n→f i=0:=by
  intro n
  induction n with
  | zero=>intro _ _ i hi;omega
  | succ n ih=>
    intro h hs i hi
    rw [sm] at hs
    have h1:=gX (n:=n) (f:=f) (fun i hi=>h i (by omega))
    have h2:=h n (by omega)
    by_cases e:i=n
    · subst e;omega
    · exact ih (fun i hi=>h i (by omega)) (by omega) i (by omega)
theorem Ti {f:Nat→Int} {n p:Nat} (h:∀ i,i<n→0≤f i) (hp:p<n):f p≤sm f n:=by
  have h1:=rK (f:=fun i=>if i=p then 0 else f i) (g:=f) hp (fun i _ hne=>by simp [hne])
  have h2:=gX (f:=fun i=>if i=p then 0 else f i) (n:=n) (fun i hi=>by split;omega;exact h i hi)
  simp at h1
  omega
structure Net where
  k:Nat
  n:Nat→Nat
  to:Nat→Nat→Nat
  back:Nat→Nat→Nat
structure Net.Wf (N:Net):Prop where
  to_lt:∀ i,i<N.k→∀ j,j<N.n i→N.to i j<N.k
  to_ne:∀ i,i<N.k→∀ j,j<N.n i→N.to i j≠i
  bk_lt:∀ i,i<N.k→∀ j,j<N.n i→N.back i j<N.n (N.to i j)
  bk_to:∀ i,i<N.k→∀ j,j<N.n i→N.to (N.to i j) (N.back i j)=i
  bk_bk:∀ i,i<N.k→∀ j,j<N.n i→N.back (N.to i j) (N.back i j)=j
abbrev RM:=Nat→Nat→Int
def resid (N:Net) (r:RM) (S:Nat→Bool):Int:=sm (fun i=>sm (fun j=>if S i=true∧S (N.to i j)=false then r i j else 0) (N.n i)) N.k
def ind (S:Nat→Bool) (v:Nat):Int:=if S v=true then 1 else 0
def put2 (r:RM) (a b:Nat) (v:Int):RM:=fun i j=>if i=a∧j=b then v else r i j
theorem pB {r:RM} {a b:Nat} {v:Int}:put2 r a b v a b=v:=by unfold put2;exact if_pos ⟨rfl,rfl⟩
theorem lV {r:RM} {a b i j:Nat} {v:Int} (h:¬ (i=a∧j=b)):put2 r a b v i j=r i j:=if_neg h
theorem uM {N:Net} {r:RM} {S:Nat→Bool} {a b:Nat} {v:Int} (ha:a<N.k) (hb:b<N.n a) :
    resid N (put2 r a b v) S=resid N r S+(if S a=true∧S (N.to a b)=false then v-r a b else 0):=by
  unfold resid
  have h1:=rK (f:=fun i=>sm (fun j=>if S i=true∧S (N.to i j)=false then r i j else 0) (N.n i))
    (g:=fun i=>sm (fun j=>if S i=true∧S (N.to i j)=false then put2 r a b v i j else 0) (N.n i)) ha
    (fun i hi hne=>lA fun j hj=>by rw [lV (fun h=>hne h.1)])
  have h2:=rK (f:=fun j=>if S a=true∧S (N.to a j)=false then r a j else 0) (g:=fun j=>if S a=true∧S (N.to a j)=false then put2 r a b v a j else 0) hb
    (fun j hj hne=>by rw [lV (fun h=>hne h.2)])
  rw [h1,h2,pB]
  split <;> omega
def along (N:Net) (r:RM) (a b:Nat) (m:Int):RM:=put2 (put2 r a b (r a b-m)) (N.to a b) (N.back a b) (r (N.to a b) (N.back a b)+m)
section
variable {N:Net} {r r1 r2 r':RM} {a b:Nat} {m:Int}
theorem nN (W:N.Wf) (ha:a<N.k) (hb:b<N.n a):along N r a b m a b=r a b-m:=by
  unfold along
  rw [lV (fun h=>W.to_ne a ha b hb h.1.symm),pB]
theorem nO:along N r a b m (N.to a b) (N.back a b)=r (N.to a b) (N.back a b)+m:=pB
theorem nP {i j:Nat} (h1:¬ (i=a∧j=b)) (h2:¬ (i=N.to a b∧j=N.back a b)):along N r a b m i j=r i j:=by unfold along;rw [lV h2,lV h1]
theorem yE (W:N.Wf) (ha:a<N.k) (hb:b<N.n a) (S:Nat→Bool):resid N (along N r a b m) S=resid N r S-m*(ind S a-ind S (N.to a b)):=by
  unfold along
  rw [uM (W.to_lt a ha b hb) (W.bk_lt a ha b hb),uM ha hb,lV (fun h=>W.to_ne a ha b hb h.1),W.bk_to a ha b hb]
  unfold ind
  cases h1:S a <;> cases h2:S (N.to a b) <;> simp <;> omega
structure Ok (N:Net) (r:RM) (B:Int):Prop where
  nn:∀ i,i<N.k→∀ j,j<N.n i→0≤r i j
  pair:∀ i,i<N.k→∀ j,j<N.n i→r i j+r (N.to i j) (N.back i j)≤B
theorem Ok.le {B:Int} (W:N.Wf) (h:Ok N r B) {i j:Nat} (hi:i<N.k) (hj:j<N.n i):r i j≤B:=by
  have h1:=h.pair i hi j hj
  have h2:=h.nn _ (W.to_lt i hi j hj) _ (W.bk_lt i hi j hj)
  omega
theorem rL {B:Int} {S:Nat→Bool} (h:Ok N r B):0≤resid N r S:=gX fun i hi=>gX fun j hj=>by
  split
  · exact h.nn i hi j hj
  · exact Int.le_refl _
structure Fl (N:Net) (r r':RM) (u x:Nat) (m:Int):Prop where
  cut:∀ S,resid N r' S=resid N r S-m*(ind S u-ind S x)
  pair:∀ i,i<N.k→∀ j,j<N.n i→r' i j+r' (N.to i j) (N.back i j)=r i j+r (N.to i j) (N.back i j)
  nn:∀ i,i<N.k→∀ j,j<N.n i→0≤r' i j
theorem Fl.ok {B:Int} {u x:Nat} (h:Fl N r r' u x m) (o:Ok N r B):Ok N r' B:=⟨h.nn,fun i hi j hj=>by rw [h.pair i hi j hj];exact o.pair i hi j hj⟩
theorem Fl.zero {B:Int} {u x:Nat} (o:Ok N r B):Fl N r r u x 0:=⟨fun S=>by rw [Int.zero_mul];omega,fun _ _ _ _=>rfl,o.nn⟩
theorem Fl.more {m':Int} {u x:Nat} (h:Fl N r r1 u x m) (k:Fl N r1 r2 u x m'):Fl N r r2 u x (m+m'):=
  ⟨fun S=>by rw [k.cut S,h.cut S,Int.add_mul];omega,fun i hi j hj=>(k.pair i hi j hj).trans (h.pair i hi j hj),k.nn⟩
theorem Fl.step (W:N.Wf) {x:Nat} (ha:a<N.k) (hb:b<N.n a) (h:Fl N r r1 (N.to a b) x m) (h0:0≤m) (hm:m≤r1 a b):Fl N r (along N r1 a b m) a x m:=by
  refine ⟨fun S=>?_,fun i hi j hj=>?_,fun i hi j hj=>?_⟩
  · rw [yE W ha hb,h.cut S,Int.mul_sub,Int.mul_sub,Int.mul_sub];omega
  · rw [← h.pair i hi j hj]
    by_cases h1:i=a∧j=b
    · obtain ⟨rfl,rfl⟩:=h1
      rw [nN W ha hb,nO];omega
    · by_cases h2:i=N.to a b∧j=N.back a b
      · obtain ⟨rfl,rfl⟩:=h2
        rw [W.bk_to a ha b hb,W.bk_bk a ha b hb,nO,nN W ha hb];omega
      · have e1:=nP (r:=r1) (m:=m) h1 h2
        rw [e1]
        congr 1
        refine nP ?_ ?_
        · rintro ⟨h3,h4⟩
          apply h2
          have:=W.bk_to i hi j hj
          have h5:=W.bk_bk i hi j hj
          rw [h3,h4] at this h5
          exact ⟨this.symm,h5.symm⟩
        · rintro ⟨h3,h4⟩
          apply h1
          have:=W.bk_to i hi j hj
          have h5:=W.bk_bk i hi j hj
          rw [h3,h4,W.bk_to a ha b hb] at this
          rw [h3,h4,W.bk_bk a ha b hb] at h5
          exact ⟨this.symm,h5.symm⟩
  · by_cases h1:i=a∧j=b
    · obtain ⟨rfl,rfl⟩:=h1
      rw [nN W ha hb];omega
    · by_cases h2:i=N.to a b∧j=N.back a b
      · obtain ⟨rfl,rfl⟩:=h2
        rw [nO]
        have:=h.nn _ (W.to_lt a ha b hb) _ (W.bk_lt a ha b hb)
        omega
      · rw [nP h1 h2];exact h.nn i hi j hj
end
def cnt (p:Nat→Bool):Nat→Nat
  | 0=>0
  | n+1=>cnt p n+(if p n=true then 1 else 0)
theorem Tj {p:Nat→Bool}:∀ n,cnt p n≤n:=by
  intro n
  induction n with
  | zero=>exact Nat.le_refl _
  | succ n ih=>rw [cnt];split <;> omega
theorem Fq {p q:Nat→Bool}:∀ {n:Nat},(∀ i,i<n→p i=q i)→cnt p n=cnt q n:=by
  intro n
  induction n with
  | zero=>intro _;rfl
  | succ n ih=>intro h;rw [cnt,cnt,ih (fun i hi=>h i (by omega)),h n (by omega)]
theorem On {p q:Nat→Bool} {v:Nat}:∀ {n:Nat},v<n→p v=false→q v=true→(∀ i,i<n→i≠v→q i=p i)→cnt q n=cnt p n+1:=by
  intro n
  induction n with
  | zero=>intro h;omega
  | succ n ih=>
    intro hv hp hq h
    rw [cnt,cnt]
    by_cases e:v=n
    · subst e
      rw [Fq (p:=q) (q:=p) (fun i hi=>h i (by omega) (by omega)),hp,hq]
      simp
    · rw [ih (by omega) hp hq (fun i hi hne=>h i (by omega) hne),h n (by omega) (fun e'=>e e'.symm)]
      omega
theorem Jf {p:Nat→Bool} {n:Nat} (h:∀ i,i<n→p i=false):cnt p n=0:=by
  induction n with
  | zero=>rfl
  | succ n ih=>rw [cnt,ih (fun i hi=>h i (by omega)),h n (by omega)];rfl
structure LevOk (N:Net) (r:RM) (b:Nat) (L:Nat→Int):Prop where
  b0:L b=0
  rng:∀ v,v<N.k → -1≤L v∧L v<N.k
  cl:∀ u,u<N.k→0≤L u→∀ j,j<N.n u→0<r u j→0≤L (N.to u j)
  pred:∀ v,v<N.k→0≤L v→v=b∨∃ u,u<N.k∧∃ j,j<N.n u∧0≤L u∧0<r u j∧N.to u j=v∧L v=L u+1
structure Bfs (N:Net) (r:RM) (b:Nat) (L:Nat→Int) (q:Nat→Nat) (ql h J:Nat):Prop where
  b0:L b=0
  low:∀ v,v<N.k → -1≤L v
  mem:∀ i,i<ql→q i<N.k∧0≤L (q i)∧L (q i)≤i
  cover:∀ v,v<N.k→0≤L v→∃ i,i<ql∧q i=v
  cnt:cnt (fun v=>decide (0≤L v)) N.k=ql
  pred:∀ v,v<N.k→0≤L v→v=b∨∃ u,u<N.k∧∃ j,j<N.n u∧0≤L u∧0<r u j∧N.to u j=v∧L v=L u+1
  cl:∀ i,i<h→∀ j,j<N.n (q i)→0<r (q i) j→0≤L (N.to (q i) j)
  part:∀ j,j<J→j<N.n (q h)→0<r (q h) j→0≤L (N.to (q h) j)
section
variable {N:Net} {r:RM} {b:Nat} {L:Nat→Int} {q:Nat→Nat} {ql h J:Nat}
theorem Bfs.le (B:Bfs N r b L q ql h J):ql≤N.k:=by rw [←B.cnt];exact Tj _
theorem Bfs.start (hb:b<N.k) (hL:∀ v,v<N.k→L v=if v=b then 0 else -1) (hq:q 0=b):Bfs N r b L q 1 0 0:=by
  have hLb:L b=0:=by rw [hL b hb,if_pos rfl]
  refine ⟨hLb,fun v hv=>?_,fun i hi=>?_,fun v hv h0=>?_,?_,fun v hv h0=>?_,fun i hi=>absurd hi (by omega),fun j hj=>absurd hj (by omega)⟩
  · rw [hL v hv];split <;> omega
  · have:i=0:=by omega
    subst this
    rw [hq]
    exact ⟨hb,by omega,by omega⟩
  · rw [hL v hv] at h0
    split at h0
    · rename_i e;exact ⟨0,by omega,by rw [hq,e]⟩
    · omega
  · have:=On (p:=fun _=>false) (q:=fun v=>decide (0≤L v)) (v:=b) (n:=N.k) hb rfl (by simp [hLb]) (fun i hi hne=>by simp [hL i hi,hne])
    rw [this,Jf (fun _ _=>rfl)]
  · rw [hL v hv] at h0
    split at h0
    · rename_i e;exact .inl e
    · omega
theorem Bfs.skip (B:Bfs N r b L q ql h J) (hs:¬ (0<r (q h) J∧L (N.to (q h) J)<0)):Bfs N r b L q ql h (J+1):=by
  refine ⟨B.b0,B.low,B.mem,B.cover,B.cnt,B.pred,B.cl,fun j hj hn hr=>?_⟩
  by_cases e:j=J
  · subst e;omega
  · exact B.part j (by omega) hn hr
theorem Bfs.next (B:Bfs N r b L q ql h J) (hJ:N.n (q h)≤J):Bfs N r b L q ql (h+1) 0:=by
  refine ⟨B.b0,B.low,B.mem,B.cover,B.cnt,B.pred,fun i hi j hj hr=>?_,fun j hj=>absurd hj (by omega)⟩
  by_cases e:i=h
  · subst e;exact B.part j (by omega) hj hr
  · exact B.cl i (by omega) j hj hr
theorem Bfs.done (B:Bfs N r b L q ql h J) (hh:ql≤h):LevOk N r b L:=by
  refine ⟨B.b0,fun v hv=>⟨B.low v hv,?_⟩,fun u hu h0 j hj hr=>?_,B.pred⟩
  · by_cases h0:0≤L v
    · obtain ⟨i,hi,he⟩:=B.cover v hv h0
      have:=(B.mem i hi).2.2
      have h2:=B.le
      rw [he] at this
      omega
    · omega
  · obtain ⟨i,hi,he⟩:=B.cover u hu h0
    subst he
    exact B.cl i (by omega) j hj hr
theorem LevOk.least (h:LevOk N r b L) {S:Nat→Bool} (hb:S b=true) (hc:∀ u,u<N.k→S u=true→∀ j,j<N.n u→0<r u j→S (N.to u j)=true):∀ v,v<N.k→0≤L v→S v=true:=by
  have key:∀ (d:Nat) v,v<N.k→0≤L v→L v=d→S v=true:=by
    intro d
    induction d with
    | zero=>
      intro v hv h0 hd
      rcases h.pred v hv h0 with rfl|⟨u,hu,j,hj,h1,h2,h3,h4⟩
      · exact hb
      · omega
    | succ d ih=>
      intro v hv h0 hd
      rcases h.pred v hv h0 with rfl|⟨u,hu,j,hj,h1,h2,h3,h4⟩
      · exact hb
      · rw [←h3];exact hc u hu (ih u hu h1 (by omega)) j hj h2
  intro v hv h0
  exact key (L v).toNat v hv h0 (by omega)
end
inductive Path (N:Net) (r:RM) (L:Nat→Int) (x:Nat):Nat→Prop
  | stop:Path N r L x x
  | step {u j:Nat}:j<N.n u→0<r u j→L (N.to u j)=L u+1→Path N r L x (N.to u j)→Path N r L x u
def Dead (N:Net) (r:RM) (L:Nat→Int) (x:Nat) (nx:Nat→Nat):Prop:=∀ u,u<N.k→∀ j,j<nx u→j<N.n u→0<r u j→L (N.to u j)=L u+1→¬ Path N r L x (N.to u j)
structure PushI (N:Net) (L:Nat→Int) (x u:Nat) (r:RM) (nx:Nat→Nat) (m:Int) (r':RM) (nx':Nat→Nat):Prop where
  fl:Fl N r r' u x m
  low:∀ i,i<N.k→∀ j,j<N.n i→L i<L u→r' i j=r i j
  nxl:∀ i,i<N.k→nx i≤nx' i∧nx' i≤N.n i
  nlow:∀ i,i<N.k→L i<L u→nx' i=nx i
  zero:m=0→(∀ i,i<N.k→∀ j,j<N.n i→r' i j=r i j)∧(Dead N r L x nx→Dead N r L x nx')
structure PushR (N:Net) (L:Nat→Int) (x u:Nat) (r:RM) (nx:Nat→Nat) (most m:Int) (r':RM) (nx':Nat→Nat):Prop extends PushI N L x u r nx m r' nx' where
  m0:0≤m
  ml:m≤most
  none:m=0→Dead N r L x nx→0<most→¬ Path N r L x u
section
variable {N:Net} {L:Nat→Int} {x u j:Nat} {r r1 r2 r3:RM} {nx nx1 nx2:Nat→Nat} {most m sent:Int}
theorem PushI.start {B:Int} (o:Ok N r B) (hn:∀ i,i<N.k→nx i≤N.n i):PushI N L x u r nx 0 r nx:=
  ⟨Fl.zero o,fun _ _ _ _ _=>rfl,fun i hi=>⟨Nat.le_refl _,hn i hi⟩,fun _ _ _=>rfl,fun _=>⟨fun _ _ _ _=>rfl,fun h=>h⟩⟩
theorem PushI.full (I:PushI N L x u r nx sent r1 nx1) (hs:0≤sent) (h:sent=most):PushR N L x u r nx most sent r1 nx1:=
  { I with m0:=hs,ml:=by omega,none:=fun h0 _ h1=>by omega }
theorem PushI.skip (W:N.Wf) (I:PushI N L x u r nx sent r1 nx1) (hu:u<N.k) (hj:nx1 u=j) (hjn:j<N.n u) (hp:sent=0→Dead N r L x nx→0<r u j→L (N.to u j)=L u+1→¬ Path N r L x (N.to u j)) :
    PushI N L x u r nx sent r1 (upd nx1 u (j+1)):=by
  refine ⟨I.fl,I.low,fun i hi=>?_,fun i hi hL=>?_,fun h0=>⟨(I.zero h0).1,fun hd=>?_⟩⟩
  · have:=I.nxl i hi
    by_cases e:i=u
    · subst e;rw [eH];omega
    · rw [fH _ _ e];exact this
  · rw [fH _ _ (fun e=>by subst e;omega)];exact I.nlow i hi hL
  · intro v hv q hq hn hr hl
    by_cases e:v=u
    · subst e
      rw [eH] at hq
      by_cases e2:q=j
      · subst e2;exact hp h0 hd hr hl
      · exact (I.zero h0).2 hd v hv q (by omega) hn hr hl
    · rw [fH _ _ e] at hq
      exact (I.zero h0).2 hd v hv q hq hn hr hl
theorem PushI.done (I:PushI N L x u r nx sent r1 nx1) (hu:u<N.k) (hux:u≠x) (hn:N.n u≤nx1 u) (hs:0≤sent) (hm:sent≤most):PushR N L x u r nx most sent r1 nx1:=by
  refine { I with m0:=hs,ml:=hm,none:=?_ }
  intro h0 hd _ hp
  cases hp with
  | stop=>exact hux rfl
  | step hj hr hl hp=>exact (I.zero h0).2 hd u hu _ (by omega) hj hr hl hp
end
section
variable {w w0:World} {F0:Nat→Prop} {R Ms:List Mem}
end
def objM (b:Nat) (o:Obj):Mem where
  fp:=fun k=>k=b
  holds:=fun w=>w.heap[b]?=some o
  stable:=fun _ _ h h'=>(h b rfl).trans h'
section
variable {w w0:World} {F0:Nat→Prop} {R:List Mem}
theorem vR (w:World) (b:Nat) (o:Obj):Keeps w (w.putObj b o) (fun k=>k=b):=
  ⟨rfl,rfl,rfl,by simp [World.putObj],fun k _ hk=>World.putObj_heap_other (fun e=>hk e)⟩
theorem St.putObj {i b:Nat} {o:Obj} (o':Obj) (S:St w0 F0 R w) (hi:R[i]?=some (objM b o)):St w0 F0 (R.set i (objM b o')) (w.putObj b o'):=
  S.updSame hi (vR w b o') (World.putObj_heap_same (dC (S.holds hi))) (fun _ h=>h)
theorem St.newObj (S:St w0 F0 R w) (o:Obj):St w0 F0 (objM w.heap.size o::R) (w.alloc o):=
  S.new (Keeps.alloc w _ _) (heap_alloc_new w o) fun k hk=>by rw [show k=w.heap.size from hk];simp
end
def FR (r:Option Nat):Fence:={ Fence.wide with round:=r }
section
variable {P:Program} {r:Option Nat} {n:Nat}
theorem Az {f:FuncId} {args:Array Value} {w:World} {R:Ending→World→Prop}:CallsIn (FR r) n P f args w R↔Calls P f args w R:=callsIn_wide (n:=n)
theorem Fs {row:String} {args:Array Value} {w:World} {R:Value→World→Prop} (h:Rows P row args w R):RowsIn (FR r) n P row args w R:=by
  intro c cs _
  obtain ⟨v,w',h1,h2⟩:=h c cs
  exact ⟨v,w',h1,(stepsIn_wide (P:=P)).2 h2⟩
def dI (o:Oper):Bool:=match o.op with | .defer _=>false|_=>true
theorem vS {o:Oper} (h:dI o=true):∀ c,o.op ≠ .defer c:=by
  intro c e
  unfold dI at h
  rw [e] at h
  cases h
theorem opIn {o:Oper} {K K1:Act→World→Prop} {Q:Exit→Act→World→Prop} {a:Act} {w:World} (hd:dI o=true) (h:o.wp P a w K (onlyN K1)):o.wpIn (FR r) n P a w K Q:=by
  refine ⟨fun _ _=>trivial,?_⟩
  rw [Oper.semAt_eq _ _ _ (vS hd)]
  unfold Oper.wp at h
  revert h
  generalize (execOp a.eval o).run P w=res
  intro h
  cases res with
  | ok nx w'=>
    cases nx <;> simp only [Oper.upon,Oper.uponIn] at h ⊢ <;> first
      | exact h
      | exact h.elim
      | exact ⟨fun hh=>(by cases hh),Az.2 (Calls.mono h fun e w'' he=>by
          cases e with
          | returned v=>exact he
          | panicked c=>exact he.elim
          | outgrown=>obtain ⟨_,_,hh⟩:=he;exact hh.elim)⟩
      | exact ⟨fun hh=>(by cases hh),Fs h⟩
  | halt x w'=>cases x <;> simp only [Oper.upon,Oper.uponIn] at h ⊢ <;> exact h.elim
theorem mM {o:Oper} {a:Act} {w:World}:∀ f,o.about P w a.eval=some f→(FR r).fn f:=fun _ _=>trivial
theorem Tk {ops:Array Oper} {Q:Exit→Act→World→Prop} {l2:List Oper}:∀ (l1:List Oper) (a:Act) (w:World),l1.all dI=true→wpList P ops (onlyN fun a w=>wpListIn (FR r) n P ops Q l2 a w) l1 a w→wpListIn (FR r) n P ops Q (l1++l2) a w:=by
  intro l1
  induction l1 with
  | nil=>intro a w _ h;exact h
  | cons o l1 ih=>
    intro a w hd h
    simp only [List.all_cons,Bool.and_eq_true] at hd
    simp only [List.cons_append]
    unfold wpList at h
    unfold wpListIn
    split
    · rename_i hw
      rw [if_pos hw] at h
      rcases h with h|⟨_,_,_,h⟩
      · exact opIn hd.1 (Oper.wp_mono (fun a w h=>ih a w hd.2 h) h)
      · exact h.elim
    · rename_i hw
      rw [if_neg hw] at h
      exact ⟨mM,ih _ _ hd.2 h⟩
theorem De {ops:Array Oper} {Q:Exit→Act→World→Prop} {K:Act→World→Prop} {l:List Oper} {a:Act} {w:World} (hK:∀ a w,K a w→Q .normal a w) (h:wpList P ops (onlyN K) l a w) (hd:l.all dI=true:=by kernel_rfl):wpListIn (FR r) n P ops Q l a w:=by
  have:=Tk (r:=r) (n:=n) (Q:=Q) (ops:=ops) (l2:=[]) l a w hd (pU (fun a w h=>hK a w h) l a w h)
  rwa [List.append_nil] at this
end
def wpR (l:Nat) (P:Program) (c:Code) (Q:Exit→Act→World→Prop) (a:Act) (w:World):Prop:=c.wpIn (FR (some l)) 5 P Q a w
namespace Rd
section
variable {P:Program} {ly:Nat} {ops:Array Oper} {w w0:World} {F0:Nat→Prop} {R:List Mem} {Q:Exit→Act→World→Prop} {l:List Oper} {N:FN} {L:List (Nat×Value)} {a:Act} {x y:Code} {id:Nat}
theorem wp_seq_k (h:∀ K:Act→World→Prop,(∀ a w,wpR ly P y Q a w→K a w)→wpR ly P x (Exit.then K Q) a w):wpR ly P (.seq x y) Q a w:=wpIn_seq_k h
theorem wp_skip (h:Q .normal a w):wpR ly P .skip Q a w:=wpIn_skip h
theorem wp_exit {i:Nat} (h:Q (.exit i) a w):wpR ly P (.exit i) Q a w:=wpIn_exit h
theorem wp_block {i:Nat} (h:wpR ly P x (Exit.inBlock i Q) a w):wpR ly P (.block i x) Q a w:=wpIn_block h
theorem one_list (h:wpList P l.toArray (onlyN fun a w=>Q .normal a w) l a w) (hd:l.all dI=true:=by kernel_rfl):wpR ly P (.region id l.toArray false) Q a w:=
  wpIn_region_lit (De (fun _ _ h=>h) h hd)
theorem seq_list (h:∀ K:Act→World→Prop,(∀ a w,wpR ly P y Q a w→K a w)→wpList P l.toArray (onlyN K) l a w) (hd:l.all dI=true:=by kernel_rfl):wpR ly P (.seq (.region id l.toArray false) y) Q a w:=
  wpIn_seq (wpIn_region_lit (De (fun _ _ h=>h) (h (fun a w=>wpR ly P y Q a w) (fun _ _ h=>h)) hd))
theorem sS (H:Fr N L a) (h:∀ K:Act→Prop,(∀ a,wpR ly P y Q a w→K a)→SF P l.toArray w K N l L) (hd:l.all dI=true:=by kernel_rfl):wpR ly P (.seq (.region id l.toArray false) y) Q a w:=by
  refine seq_list (fun K hK=>?_) hd
  have:=h (fun a=>K a w) (fun a ha=>hK a w ha) a H
  have h2:=fJ (P:=P) (ops:=l.toArray) (w:=w) (Q:=onlyN K) l [] a (gE (fun a ha=>ha) _ _ this)
  simpa using h2
theorem sO (H:Fr N L a) (h:SF P l.toArray w (fun a=>Q .normal a w) N l L) (hd:l.all dI=true:=by kernel_rfl):wpR ly P (.region id l.toArray false) Q a w:=by
  refine one_list ?_ hd
  have h2:=fJ (P:=P) (ops:=l.toArray) (w:=w) (Q:=onlyN fun a w=>Q .normal a w) l [] a (gE (fun a ha=>ha) _ _ (h a H))
  simpa using h2
theorem cond_ {t:Nat} {b:Bool} (H:Fr N L a) (hc:look L t=some (.bool b)) (h1:b=true→wpR ly P x Q a w) (h2:b=false→wpR ly P y Q a w):wpR ly P (.cond (.tmp t) x y) Q a w:=
  wpIn_cond_split (H.eval (x := .tmp t) hc) h1 h2
theorem condL {t:Nat} {m n:Int} (H:Fr N L a) (hc:look L t=some (.bool (decide (m<n)))) (h1:m<n→wpR ly P x Q a w) (h2:n≤m→wpR ly P y Q a w):wpR ly P (.cond (.tmp t) x y) Q a w:=
  cond_ H hc (fun h=>h1 (by simpa using h)) (fun h=>h2 (by simpa using h))
theorem condG {t:Nat} {m n:Int} (H:Fr N L a) (hc:look L t=some (.bool (decide (m≤n)))) (h1:m≤n→wpR ly P x Q a w) (h2:n<m→wpR ly P y Q a w):wpR ly P (.cond (.tmp t) x y) Q a w:=
  cond_ H hc (fun h=>h1 (by simpa using h)) (fun h=>h2 (by simpa using h))
theorem condE {t:Nat} {m n:Int} (H:Fr N L a) (hc:look L t=some (.bool (decide (m=n)))) (h1:m=n→wpR ly P x Q a w) (h2:¬ m=n→wpR ly P y Q a w):wpR ly P (.cond (.tmp t) x y) Q a w:=
  cond_ H hc (fun h=>h1 (by simpa using h)) (fun h=>h2 (by simpa using h))
theorem condN {t:Nat} {m n:Int} (H:Fr N L a) (hc:look L t=some (.bool (!decide (m=n)))) (h1:¬ m=n→wpR ly P x Q a w) (h2:m=n→wpR ly P y Q a w):wpR ly P (.cond (.tmp t) x y) Q a w:=
  cond_ H hc (fun h=>h1 (by simpa using h)) (fun h=>h2 (by simpa using h))
theorem least_of {p:Nat→Prop}:(∃ n,p n)→∃ n,p n∧∀ m,p m→n≤m:=by
  classical
  rintro ⟨n,hn⟩
  induction n using Nat.strongRecOn with
  | ind n ih=>
    by_cases h:∃ m,m<n∧p m
    · obtain ⟨m,hm,hp⟩:=h
      exact ih m hm hp
    · refine ⟨n,hn,fun m hp=>?_⟩
      rcases Nat.lt_or_ge m n with hlt|hge
      · exact absurd ⟨m,hlt,hp⟩ h
      · exact hge
theorem loop_ {c:Code} (I:Nat→Act→World→Prop) (n0:Nat) (h0:I n0 a w)
    (round:∀ n a w,I n a w→∀ K:Act→World→Prop,(∀ n' a' w',n'<n→I n' a' w'→K a' w')→wpR ly P c (Exit.then K Q) a w):wpR ly P (.loop c) Q a w:=by
  classical
  have least:=fun a w (h:∃ n,I n a w)=>least_of h
  obtain ⟨μ,hμ⟩:∃ μ:Act→World→Nat,∀ a w,(∃ n,I n a w)→I (μ a w) a w∧∀ m,I m a w→μ a w≤m:=
    ⟨fun a w=>if h:∃ n,I n a w then Classical.choose (least a w h) else 0,fun a w h=>by (try dsimp only);rw [dif_pos h];exact Classical.choose_spec (least a w h)⟩
  refine wpIn_loop (fun a w=>∃ n,I n a w) μ ⟨n0,h0⟩ ?_
  intro a w h
  have hs:=hμ a w h
  refine round _ a w hs.1 _ fun n' a' w' hlt h'=>⟨⟨n',h'⟩,?_⟩
  have:=(hμ a' w' ⟨n',h'⟩).2 n' h'
  omega
theorem loop_st {c:Code} {X:Type} {L0:List (Nat×Value)} {R0:List Mem} (ks:List Nat) (H:Fr N L a) (_hk:pick ks L=some L0) (F:X→List (Nat×Value)) (M:X→List Mem) (Pr:Nat→X→Prop)
    (n0:Nat) (x0:X) (h0:Pr n0 x0) (S0:St w0 F0 (M x0++R0) w) (H0:Fr N (F x0++L0) a)
    (round:∀ g x a w,Pr g x→St w0 F0 (M x++R0) w→Fr N (F x++L0) a→∀ K:Act→World→Prop,(∀ g' x' a' w',g'<g→Pr g' x'→St w0 F0 (M x'++R0) w'→Fr N (F x'++L0) a'→K a' w')→wpR ly P c (Exit.then K Q) a w) :
    wpR ly P (.loop c) Q a w:=
  loop_ (fun g a w=>∃ x,Pr g x∧St w0 F0 (M x++R0) w∧Fr N (F x++L0) a) n0 ⟨x0,h0,S0,H0⟩
    fun g a w ⟨x,hp,S,H⟩ K hK=>round g x a w hp S H K fun g' x' a' w' hlt hp' S' H'=>hK g' a' w' hlt ⟨x',hp',S',H'⟩
theorem wpOp_in {i:Nat} {K:Act→World→Prop} (hd:(ops.toList.all dI)=true) (h:wpOp P ops NoQ i K a w):wpOpIn (FR (some ly)) 5 P ops Q i K a w:=by
  unfold wpOp at h
  unfold wpOpIn
  split
  · rename_i ho;simp only [ho] at h;exact h
  · rename_i o ho
    simp only [ho] at h
    have hod:dI o=true:=by
      have:=List.all_eq_true.1 hd o (by rw [Array.getElem?_eq_some_iff] at ho;obtain ⟨h1,rfl⟩:=ho;simp)
      exact this
    split
    · rename_i hw
      simp only [hw,if_true] at h
      rcases h with h|⟨_,_,_,h⟩
      · exact opIn hod (K1:=fun _ _=>False) (by
          unfold Oper.wp at h ⊢
          revert h
          generalize (execOp a.eval o).run P w=res
          intro h
          exact Au h)
      · exact h.elim
    · rename_i hw
      simp only [hw] at h
      exact ⟨mM,h⟩
theorem any_in {C:World→Prop} {Qn:Act→World→Prop} (hd:(ops.toList.all dI)=true) (hQ:∀ a w,Qn a w→Q .normal a w):∀ (fuel:Nat) (listed:Array Bool) (a:Act) (w:World),anyC P ops C Qn fuel listed a w→wpAnyIn (FR (some ly)) 5 P .any ops Q fuel listed a w
  | 0,_,_,_,h=>⟨h.1,hQ _ _ h.2⟩
  | fuel+1,_,_,_,h=>⟨fun hr=>hQ _ _ (h.1 hr),fun i hi=>wpOpIn_mono (fun a' w' h'=>any_in hd hQ fuel _ a' w' h'.2) (wpOp_in hd (h.2 i hi))⟩
theorem region_wq {C:World→Prop} (π:List (Nat×Bool)) (hm:P.follows .mixedOrders=true) (hck:ckAll ops π=true) (hd:(ops.toList.all dI)=true) (hC:C w.drew)
    (h:wq P ops C (fun a w=>Q .normal a w) π a w.drew):wpR ly P (.region id ops true) Q a w:=by
  simp only [ckAll,Bool.and_eq_true] at hck
  obtain ⟨⟨h1,h2⟩,h3⟩:=hck
  refine wpIn_region_any hm (any_in (C:=C) (Qn:=fun a w=>Q .normal a w) hd (fun _ _ h=>h) _ _ _ _ ?_)
  have h4:=rG h1 π _ a _ h2 hC h
  rw [Nat.eq_of_beq_eq_true h3] at h4
  exact h4
theorem seq_wq {RE:List Mem} (π:List (Nat×Bool)) (hm:P.follows .mixedOrders=true) (hck:ckAll l.toArray π=true) (SE:St w0 F0 RE w.drew)
    (h:∀ K:Act→World→Prop,(∀ a w,wpR ly P y Q a w→K a w)→wq P l.toArray (fun w'=>St w0 F0 RE w') K π a w.drew) (hd:(l.toArray.toList.all dI)=true:=by kernel_rfl):wpR ly P (.seq (.region id l.toArray true) y) Q a w:=
  wpIn_seq (region_wq π hm hck hd SE (h _ (fun _ _ h=>h)))
theorem one_wq {RE:List Mem} (π:List (Nat×Bool)) (hm:P.follows .mixedOrders=true) (hck:ckAll l.toArray π=true) (SE:St w0 F0 RE w.drew)
    (h:wq P l.toArray (fun w'=>St w0 F0 RE w') (fun a w=>Q .normal a w) π a w.drew) (hd:(l.toArray.toList.all dI)=true:=by kernel_rfl):wpR ly P (.region id l.toArray true) Q a w:=region_wq π hm hck hd SE h
theorem any_inZ {C:World→Prop} {Qn:Act→World→Prop} {z:Nat} (hd:(ops.toList.all dI)=true) (hQ:∀ a w,Qn a w→Q .normal a w):∀ (f:Bool) (fuel:Nat) (listed:Array Bool) (a:Act) (w:World),anyZ P ops C z Qn f fuel listed a w→wpAnyIn (FR (some ly)) 5 P .any ops Q fuel listed a w
  | _,0,_,_,_,h=>⟨h.1,hQ _ _ h.2⟩
  | f,fuel+1,_,_,_,h=>⟨fun hr=>hQ _ _ (h.1 hr),fun i hi=>wpOpIn_mono (fun a' w' h'=>any_inZ hd hQ _ fuel _ a' w' h'.2) (wpOp_in hd (h.2 i hi))⟩
theorem region_wt {z:Nat} {C:World→Prop} (π:Wt) (hm:P.follows .mixedOrders=true) (hck:kY ops z π=true) (hd:(ops.toList.all dI)=true) (hC:C w.drew)
    (h:wt P ops C z (fun a w=>Q .normal a w) π a w.drew):wpR ly P (.region id ops true) Q a w:=by
  simp only [kY,Bool.and_eq_true] at hck
  exact wpIn_region_any hm (any_inZ (C:=C) (z:=z) (Qn:=fun a w=>Q .normal a w) hd (fun _ _ h=>h) _ _ _ _ _ (rH hck.1 π false _ _ a _ hck.2 (.inr hC) h))
theorem seq_wt {RE:List Mem} (z:Nat) (π:Wt) (hm:P.follows .mixedOrders=true) (hck:kY l.toArray z π=true) (SE:St w0 F0 RE w.drew)
    (h:∀ K:Act→World→Prop,(∀ a w,wpR ly P y Q a w→K a w)→wt P l.toArray (fun w'=>St w0 F0 RE w') z K π a w.drew) (hd:(l.toArray.toList.all dI)=true:=by kernel_rfl):wpR ly P (.seq (.region id l.toArray true) y) Q a w:=
  wpIn_seq (region_wt π hm hck hd SE (h _ (fun _ _ h=>h)))
theorem one_wt {RE:List Mem} (z:Nat) (π:Wt) (hm:P.follows .mixedOrders=true) (hck:kY l.toArray z π=true) (SE:St w0 F0 RE w.drew)
    (h:wt P l.toArray (fun w'=>St w0 F0 RE w') z (fun a w=>Q .normal a w) π a w.drew) (hd:(l.toArray.toList.all dI)=true:=by kernel_rfl):wpR ly P (.region id l.toArray true) Q a w:=region_wt π hm hck hd SE h
theorem meet_sr {X:Type} {L0:List (Nat×Value)} {R0:List Mem} (ks:List Nat) (H:Fr N L a) (_hk:pick ks L=some L0) (F:X→List (Nat×Value)) (M:X→List Mem) (Pr:X→Prop)
    (_SR:St w0 F0 R0 w)
    (h1:∀ K:Act→World→Prop,(∀ x a' w',Pr x→St w0 F0 (M x++R0) w'→Fr N (F x++L0) a'→K a' w')→wpR ly P x (Exit.then K Q) a w)
    (h2:∀ x a' w',Pr x→St w0 F0 (M x++R0) w'→Fr N (F x++L0) a'→wpR ly P y Q a' w'):wpR ly P (.seq x y) Q a w:=
  wp_seq_k fun K hK=>h1 K fun x a' w' hp S' H'=>hK a' w' (h2 x a' w' hp S' H')
end
end Rd
section
variable {P:Program} {w w0:World} {F0:Nat→Prop} {R:List Mem} {Q:Exit→Act→World→Prop} {N:Nat} {L:List (Nat×Value)} {a:Act}
theorem St.tl {m:Mem} (S:St w0 F0 (m::R) w):St w0 F0 R w:=
  ⟨S.os,S.tape,S.out,S.size,S.ro,fun x hx=>S.res x (List.mem_cons_of_mem _ hx),fun x hx=>S.inn x (List.mem_cons_of_mem _ hx),fun i j a b hi hj hij=>S.disj (i+1) (j+1) a b (by simpa using hi) (by simpa using hj) (by omega)⟩
variable {ops:Array Oper} {rest l:List Oper} {ty:TypeId} {pos:String} {af:Array Edge} {y:Code} {id:Nat}
end
theorem Tl {m k:Nat} (h:m/2^k%2=0):m ||| 2^k=m+2^k:=by
  have hq:m/2^k=2*(m/2^k/2):=by omega
  have hm:m=2^k*(2*(m/2^k/2))+m%2^k:=by rw [←hq];exact (Nat.div_add_mod m (2^k)).symm
  have hr:m%2^k<2^k:=Nat.mod_lt _ (Nat.two_pow_pos k)
  generalize m/2^k/2=q at hm
  generalize m%2^k=r at hm hr
  subst hm
  have e1:2^k*(2*q)+r=2^k*(2*q) ||| r:=Nat.two_pow_add_eq_or_of_lt hr _
  have e2:2^k*(2*q+1)+r=2^k*(2*q+1) ||| r:=Nat.two_pow_add_eq_or_of_lt hr _
  have e3:2*q+1=2*q ||| 1:=Nat.two_pow_add_eq_or_of_lt (i:=1) (by omega) q
  have e4:2^k*(2*q+1)=2^k*(2*q) ||| 2^k:=by
    rw [e3,Nat.mul_comm,←Nat.shiftLeft_eq,Nat.shiftLeft_or_distrib,Nat.shiftLeft_eq,Nat.shiftLeft_eq,Nat.one_mul,Nat.mul_comm]
  have e5:2^k*(2*q)+r+2^k=2^k*(2*q+1)+r:=by rw [Nat.mul_add];omega
  rw [e5,e2,e4,e1,Nat.or_assoc,Nat.or_comm r,←Nat.or_assoc]
section
variable {P:Program} {L:List (Nat×Value)} {w:World} {d:Option Nat} {ty:TypeId} {pos:String} {af:Array Edge} {g:Option (Nat×Bool)}
end
end
section
theorem bF:Sz Tryz.prog 3 1:=by unfold Sz;kernel_rfl
theorem aE:One Tryz.prog 3:=by unfold One;kernel_rfl
theorem Ft:Sz Tryz.prog 4 1:=by unfold Sz;kernel_rfl
theorem jD:One Tryz.prog 4:=by unfold One;kernel_rfl
theorem Yc:Sz Tryz.prog 5 1:=by unfold Sz;kernel_rfl
theorem Xe:One Tryz.prog 5:=by unfold One;kernel_rfl
theorem uD:Sz Tryz.prog 9 1:=by unfold Sz;kernel_rfl
theorem Jg:One Tryz.prog 9:=by unfold One;kernel_rfl
theorem gY:One Tryz.prog 22:=by unfold One;kernel_rfl
theorem Df:Sz Tryz.prog 23 1:=by unfold Sz;kernel_rfl
theorem bT:One Tryz.prog 23:=by unfold One;kernel_rfl
theorem eM:Sz Tryz.prog 25 3:=by unfold Sz;kernel_rfl
theorem dP:Agg Tryz.prog 25:=by unfold Agg;kernel_rfl
theorem Xf:Sz Tryz.prog 31 1:=by unfold Sz;kernel_rfl
theorem vT:One Tryz.prog 31:=by unfold One;kernel_rfl
theorem Su:Sz Tryz.prog 40 1:=by unfold Sz;kernel_rfl
theorem dH:One Tryz.prog 40:=by unfold One;kernel_rfl
theorem Xg:Sz Tryz.prog 41 1:=by unfold Sz;kernel_rfl
theorem mU:One Tryz.prog 41:=by unfold One;kernel_rfl
theorem fG:Sz Tryz.prog 43 11:=by unfold Sz;kernel_rfl
theorem eN:Agg Tryz.prog 43:=by unfold Agg;kernel_rfl
theorem Xh:Sz Tryz.prog 53 1:=by unfold Sz;kernel_rfl
theorem gF:One Tryz.prog 53:=by unfold One;kernel_rfl
theorem eS:Sz Tryz.prog 55 4:=by unfold Sz;kernel_rfl
theorem dQ:Agg Tryz.prog 55:=by unfold Agg;kernel_rfl
theorem Xi:Sz Tryz.prog 56 1:=by unfold Sz;kernel_rfl
theorem iI:One Tryz.prog 56:=by unfold One;kernel_rfl
theorem fY:Sz Tryz.prog 58 12:=by unfold Sz;kernel_rfl
theorem mV:Agg Tryz.prog 58:=by unfold Agg;kernel_rfl
theorem eF:Sz Tryz.prog 74 3:=by unfold Sz;kernel_rfl
theorem pC:Agg Tryz.prog 74:=by unfold Agg;kernel_rfl
theorem Jh:Sz Tryz.prog 78 1:=by unfold Sz;kernel_rfl
theorem kE:One Tryz.prog 78:=by unfold One;kernel_rfl
theorem rM:One Tryz.prog 79:=by unfold One;kernel_rfl
theorem rN:One Tryz.prog 80:=by unfold One;kernel_rfl
theorem Ba:One Tryz.prog 81:=by unfold One;kernel_rfl
theorem mN:Sz Tryz.prog 83 5:=by unfold Sz;kernel_rfl
theorem kF:Agg Tryz.prog 83:=by unfold Agg;kernel_rfl
theorem aP:Sz Tryz.prog 88 2:=by unfold Sz;kernel_rfl
theorem bB:Agg Tryz.prog 88:=by unfold Agg;kernel_rfl
theorem Sv:Sz Tryz.prog 89 2:=by unfold Sz;kernel_rfl
theorem lB:Sz Tryz.prog 91 3:=by unfold Sz;kernel_rfl
theorem pD:Agg Tryz.prog 91:=by unfold Agg;kernel_rfl
theorem lC:Sz Tryz.prog 98 5:=by unfold Sz;kernel_rfl
theorem Bb:Agg Tryz.prog 98:=by unfold Agg;kernel_rfl
theorem dR:Sz Tryz.prog 109 7:=by unfold Sz;kernel_rfl
theorem kG:Agg Tryz.prog 109:=by unfold Agg;kernel_rfl
theorem pE:Sz Tryz.prog 112 4:=by unfold Sz;kernel_rfl
theorem nQ:Agg Tryz.prog 112:=by unfold Agg;kernel_rfl
theorem lW:One Tryz.prog 115:=by unfold One;kernel_rfl
theorem gZ:Sz Tryz.prog 117 6:=by unfold Sz;kernel_rfl
theorem fM:Agg Tryz.prog 117:=by unfold Agg;kernel_rfl
theorem kH:One Tryz.prog 119:=by unfold One;kernel_rfl
theorem cI:Sz Tryz.prog 121 3:=by unfold Sz;kernel_rfl
theorem dJ:Agg Tryz.prog 121:=by unfold Agg;kernel_rfl
theorem eI:Sz Tryz.prog 139 2:=by unfold Sz;kernel_rfl
theorem hX:Agg Tryz.prog 139:=by unfold Agg;kernel_rfl
theorem pF:Sz Tryz.prog 157 5:=by unfold Sz;kernel_rfl
theorem lX:Agg Tryz.prog 157:=by unfold Agg;kernel_rfl
theorem Bc:Sz Tryz.prog 159 5:=by unfold Sz;kernel_rfl
theorem Oo:Agg Tryz.prog 159:=by unfold Agg;kernel_rfl
theorem iU:Sz Tryz.prog 163 4:=by unfold Sz;kernel_rfl
theorem lY:Agg Tryz.prog 163:=by unfold Agg;kernel_rfl
theorem lD:Sz Tryz.prog 165 2:=by unfold Sz;kernel_rfl
theorem Dg:Agg Tryz.prog 165:=by unfold Agg;kernel_rfl
theorem mW:Sz Tryz.prog 167 2:=by unfold Sz;kernel_rfl
theorem Dh:Agg Tryz.prog 167:=by unfold Agg;kernel_rfl
theorem rO:Sz Tryz.prog 169 1:=by unfold Sz;kernel_rfl
theorem vU:One Tryz.prog 169:=by unfold One;kernel_rfl
theorem vV:One Tryz.prog 171:=by unfold One;kernel_rfl
theorem kI:Sz Tryz.prog 173 2:=by unfold Sz;kernel_rfl
theorem vW:Agg Tryz.prog 173:=by unfold Agg;kernel_rfl
theorem vX:One Tryz.prog 174:=by unfold One;kernel_rfl
theorem mX:Sz Tryz.prog 176 4:=by unfold Sz;kernel_rfl
theorem Di:Agg Tryz.prog 176:=by unfold Agg;kernel_rfl
theorem kJ:Sz Tryz.prog 181 3:=by unfold Sz;kernel_rfl
theorem Dj:Agg Tryz.prog 181:=by unfold Agg;kernel_rfl
theorem cX:Sz Tryz.prog 190 3:=by unfold Sz;kernel_rfl
theorem Dk:Agg Tryz.prog 190:=by unfold Agg;kernel_rfl
theorem lE:Sz Tryz.prog 193 2:=by unfold Sz;kernel_rfl
theorem vY:Agg Tryz.prog 193:=by unfold Agg;kernel_rfl
theorem mY:Sz Tryz.prog 195 2:=by unfold Sz;kernel_rfl
theorem Dl:Agg Tryz.prog 195:=by unfold Agg;kernel_rfl
theorem Tm:Sz Tryz.prog 197 2:=by unfold Sz;kernel_rfl
theorem vZ:One Tryz.prog 200:=by unfold One;kernel_rfl
theorem Ji:Sz Tryz.prog 220 5:=by unfold Sz;kernel_rfl
theorem Dm:Agg Tryz.prog 220:=by unfold Agg;kernel_rfl
theorem lF:Sz Tryz.prog 226 3:=by unfold Sz;kernel_rfl
theorem Dn:Agg Tryz.prog 226:=by unfold Agg;kernel_rfl
theorem fS:Sz Tryz.prog 231 12:=by unfold Sz;kernel_rfl
theorem lZ:Agg Tryz.prog 231:=by unfold Agg;kernel_rfl
theorem Bd:Sz Tryz.prog 236 6:=by unfold Sz;kernel_rfl
theorem wA:Agg Tryz.prog 236:=by unfold Agg;kernel_rfl
theorem Jj:Sz Tryz.prog 239 20:=by unfold Sz;kernel_rfl
theorem Oq:Agg Tryz.prog 239:=by unfold Agg;kernel_rfl
theorem rP:Sz Tryz.prog 241 21:=by unfold Sz;kernel_rfl
theorem wB:Agg Tryz.prog 241:=by unfold Agg;kernel_rfl
theorem cR:Sz Tryz.prog 247 6:=by unfold Sz;kernel_rfl
theorem jE:Agg Tryz.prog 247:=by unfold Agg;kernel_rfl
theorem fZ:SlT Tryz.prog 22 109:=Tryz.underlying22
theorem aY:SlT Tryz.prog 23 3:=Tryz.underlying23
theorem lG:SlT Tryz.prog 31 98:=Tryz.underlying31
theorem eJ:SlT Tryz.prog 40 58:=Tryz.underlying40
theorem nR:SlT Tryz.prog 41 226:=Tryz.underlying41
theorem eK:SlT Tryz.prog 44 74:=Tryz.underlying44
theorem cL:SlT Tryz.prog 53 88:=Tryz.underlying53
theorem cZ:SlT Tryz.prog 56 247:=Tryz.underlying56
theorem Do:SlT Tryz.prog 75 91:=Tryz.underlying75
theorem fK:SlT Tryz.prog 78 9:=Tryz.underlying78
theorem pW:SlT Tryz.prog 79 165:=Tryz.underlying79
theorem pX:SlT Tryz.prog 80 167:=Tryz.underlying80
theorem uN:SlT Tryz.prog 81 176:=Tryz.underlying81
theorem kK:SlT Tryz.prog 115 193:=Tryz.underlying115
theorem kL:SlT Tryz.prog 119 195:=Tryz.underlying119
theorem Tn:SlT Tryz.prog 122 197:=Tryz.underlying122
theorem gG:SlT Tryz.prog 125 89:=Tryz.underlying125
theorem rQ:SlT Tryz.prog 169 163:=Tryz.underlying169
theorem kM:SlT Tryz.prog 171 169:=Tryz.underlying171
theorem mZ:SlT Tryz.prog 174 173:=Tryz.underlying174
theorem jK:SlT Tryz.prog 178 181:=Tryz.underlying178
theorem Be:SlT Tryz.prog 276 4:=Tryz.underlying276
theorem Jk:SlT Tryz.prog 311 5:=Tryz.underlying311
theorem rR:SlT Tryz.prog 324 78:=Tryz.underlying324
theorem dX:FOff Tryz.prog 25 0 0:=⟨_,_,Tryz.underlying25,rfl,rfl,by kernel_rfl⟩
theorem fC:FOff Tryz.prog 25 1 1:=⟨_,_,Tryz.underlying25,rfl,rfl,by kernel_rfl⟩
theorem mA:FOff Tryz.prog 25 2 2:=⟨_,_,Tryz.underlying25,rfl,rfl,by kernel_rfl⟩
theorem dD:FOff Tryz.prog 43 0 0:=⟨_,_,Tryz.underlying43,rfl,rfl,by kernel_rfl⟩
theorem eX:FOff Tryz.prog 43 1 1:=⟨_,_,Tryz.underlying43,rfl,rfl,by kernel_rfl⟩
theorem jF:FOff Tryz.prog 43 2 4:=⟨_,_,Tryz.underlying43,rfl,rfl,by kernel_rfl⟩
theorem nS:FOff Tryz.prog 43 3 5:=⟨_,_,Tryz.underlying43,rfl,rfl,by kernel_rfl⟩
theorem nT:FOff Tryz.prog 43 5 7:=⟨_,_,Tryz.underlying43,rfl,rfl,by kernel_rfl⟩
theorem cD:FOff Tryz.prog 43 6 8:=⟨_,_,Tryz.underlying43,rfl,rfl,by kernel_rfl⟩
theorem Dp:FOff Tryz.prog 43 7 9:=⟨_,_,Tryz.underlying43,rfl,rfl,by kernel_rfl⟩
theorem jG:FOff Tryz.prog 43 8 10:=⟨_,_,Tryz.underlying43,rfl,rfl,by kernel_rfl⟩
theorem eO:FOff Tryz.prog 55 0 0:=⟨_,_,Tryz.underlying55,rfl,rfl,by kernel_rfl⟩
theorem wC:FOff Tryz.prog 55 1 1:=⟨_,_,Tryz.underlying55,rfl,rfl,by kernel_rfl⟩
theorem nU:FOff Tryz.prog 55 2 2:=⟨_,_,Tryz.underlying55,rfl,rfl,by kernel_rfl⟩
theorem qL:FOff Tryz.prog 55 3 3:=⟨_,_,Tryz.underlying55,rfl,rfl,by kernel_rfl⟩
theorem nV:FOff Tryz.prog 58 0 0:=⟨_,_,Tryz.underlying58,rfl,rfl,by kernel_rfl⟩
theorem mB:FOff Tryz.prog 58 1 1:=⟨_,_,Tryz.underlying58,rfl,rfl,by kernel_rfl⟩
theorem qM:FOff Tryz.prog 58 2 2:=⟨_,_,Tryz.underlying58,rfl,rfl,by kernel_rfl⟩
theorem jH:FOff Tryz.prog 58 3 3:=⟨_,_,Tryz.underlying58,rfl,rfl,by kernel_rfl⟩
theorem fD:FOff Tryz.prog 58 4 7:=⟨_,_,Tryz.underlying58,rfl,rfl,by kernel_rfl⟩
theorem qN:FOff Tryz.prog 58 5 8:=⟨_,_,Tryz.underlying58,rfl,rfl,by kernel_rfl⟩
theorem qO:FOff Tryz.prog 58 6 9:=⟨_,_,Tryz.underlying58,rfl,rfl,by kernel_rfl⟩
theorem qP:FOff Tryz.prog 58 7 10:=⟨_,_,Tryz.underlying58,rfl,rfl,by kernel_rfl⟩
theorem Dq:FOff Tryz.prog 58 8 11:=⟨_,_,Tryz.underlying58,rfl,rfl,by kernel_rfl⟩
theorem dF:FOff Tryz.prog 74 0 0:=⟨_,_,Tryz.underlying74,rfl,rfl,by kernel_rfl⟩
theorem dN:FOff Tryz.prog 74 1 1:=⟨_,_,Tryz.underlying74,rfl,rfl,by kernel_rfl⟩
theorem fN:FOff Tryz.prog 74 2 2:=⟨_,_,Tryz.underlying74,rfl,rfl,by kernel_rfl⟩
theorem qQ:FOff Tryz.prog 83 0 0:=⟨_,_,Tryz.underlying83,rfl,rfl,by kernel_rfl⟩
theorem wD:FOff Tryz.prog 83 1 1:=⟨_,_,Tryz.underlying83,rfl,rfl,by kernel_rfl⟩
theorem nW:FOff Tryz.prog 83 2 2:=⟨_,_,Tryz.underlying83,rfl,rfl,by kernel_rfl⟩
theorem nX:FOff Tryz.prog 83 3 3:=⟨_,_,Tryz.underlying83,rfl,rfl,by kernel_rfl⟩
theorem wE:FOff Tryz.prog 83 4 4:=⟨_,_,Tryz.underlying83,rfl,rfl,by kernel_rfl⟩
theorem bD:FOff Tryz.prog 88 0 0:=⟨_,_,Tryz.underlying88,rfl,rfl,by kernel_rfl⟩
theorem bA:FOff Tryz.prog 88 1 1:=⟨_,_,Tryz.underlying88,rfl,rfl,by kernel_rfl⟩
theorem Dr:FOff Tryz.prog 91 0 0:=⟨_,_,Tryz.underlying91,rfl,rfl,by kernel_rfl⟩
theorem Ds:FOff Tryz.prog 91 1 1:=⟨_,_,Tryz.underlying91,rfl,rfl,by kernel_rfl⟩
theorem wF:FOff Tryz.prog 98 0 0:=⟨_,_,Tryz.underlying98,rfl,rfl,by kernel_rfl⟩
theorem wG:FOff Tryz.prog 98 1 1:=⟨_,_,Tryz.underlying98,rfl,rfl,by kernel_rfl⟩
theorem qR:FOff Tryz.prog 98 2 2:=⟨_,_,Tryz.underlying98,rfl,rfl,by kernel_rfl⟩
theorem nY:FOff Tryz.prog 98 3 3:=⟨_,_,Tryz.underlying98,rfl,rfl,by kernel_rfl⟩
theorem Ot:FOff Tryz.prog 98 4 4:=⟨_,_,Tryz.underlying98,rfl,rfl,by kernel_rfl⟩
theorem jQ:FOff Tryz.prog 109 0 0:=⟨_,_,Tryz.underlying109,rfl,rfl,by kernel_rfl⟩
theorem jR:FOff Tryz.prog 109 1 1:=⟨_,_,Tryz.underlying109,rfl,rfl,by kernel_rfl⟩
theorem gH:FOff Tryz.prog 109 2 2:=⟨_,_,Tryz.underlying109,rfl,rfl,by kernel_rfl⟩
theorem rS:FOff Tryz.prog 109 3 3:=⟨_,_,Tryz.underlying109,rfl,rfl,by kernel_rfl⟩
theorem yF:FOff Tryz.prog 109 4 4:=⟨_,_,Tryz.underlying109,rfl,rfl,by kernel_rfl⟩
theorem dL:FOff Tryz.prog 109 5 5:=⟨_,_,Tryz.underlying109,rfl,rfl,by kernel_rfl⟩
theorem iV:FOff Tryz.prog 109 6 6:=⟨_,_,Tryz.underlying109,rfl,rfl,by kernel_rfl⟩
theorem gI:FOff Tryz.prog 112 0 0:=⟨_,_,Tryz.underlying112,rfl,rfl,by kernel_rfl⟩
theorem bR:FOff Tryz.prog 112 1 1:=⟨_,_,Tryz.underlying112,rfl,rfl,by kernel_rfl⟩
theorem jS:FOff Tryz.prog 112 2 3:=⟨_,_,Tryz.underlying112,rfl,rfl,by kernel_rfl⟩
theorem yG:FOff Tryz.prog 117 0 0:=⟨_,_,Tryz.underlying117,rfl,rfl,by kernel_rfl⟩
theorem dY:FOff Tryz.prog 117 1 1:=⟨_,_,Tryz.underlying117,rfl,rfl,by kernel_rfl⟩
theorem jT:FOff Tryz.prog 117 2 2:=⟨_,_,Tryz.underlying117,rfl,rfl,by kernel_rfl⟩
theorem lH:FOff Tryz.prog 117 3 3:=⟨_,_,Tryz.underlying117,rfl,rfl,by kernel_rfl⟩
theorem rT:FOff Tryz.prog 117 4 4:=⟨_,_,Tryz.underlying117,rfl,rfl,by kernel_rfl⟩
theorem jU:FOff Tryz.prog 117 5 5:=⟨_,_,Tryz.underlying117,rfl,rfl,by kernel_rfl⟩
theorem nZ:FOff Tryz.prog 121 0 0:=⟨_,_,Tryz.underlying121,rfl,rfl,by kernel_rfl⟩
theorem iE:FOff Tryz.prog 121 1 1:=⟨_,_,Tryz.underlying121,rfl,rfl,by kernel_rfl⟩
theorem iW:FOff Tryz.prog 121 2 2:=⟨_,_,Tryz.underlying121,rfl,rfl,by kernel_rfl⟩
theorem yH:FOff Tryz.prog 139 0 0:=⟨_,_,Tryz.underlying139,rfl,rfl,by kernel_rfl⟩
theorem rU:FOff Tryz.prog 139 1 1:=⟨_,_,Tryz.underlying139,rfl,rfl,by kernel_rfl⟩
theorem rV:FOff Tryz.prog 157 0 0:=⟨_,_,Tryz.underlying157,rfl,rfl,by kernel_rfl⟩
theorem yI:FOff Tryz.prog 159 0 0:=⟨_,_,Tryz.underlying159,rfl,rfl,by kernel_rfl⟩
theorem rW:FOff Tryz.prog 163 0 0:=⟨_,_,Tryz.underlying163,rfl,rfl,by kernel_rfl⟩
theorem yJ:FOff Tryz.prog 163 1 1:=⟨_,_,Tryz.underlying163,rfl,rfl,by kernel_rfl⟩
theorem Jl:FOff Tryz.prog 163 2 2:=⟨_,_,Tryz.underlying163,rfl,rfl,by kernel_rfl⟩
theorem yK:FOff Tryz.prog 163 3 3:=⟨_,_,Tryz.underlying163,rfl,rfl,by kernel_rfl⟩
theorem Jm:FOff Tryz.prog 165 0 0:=⟨_,_,Tryz.underlying165,rfl,rfl,by kernel_rfl⟩
theorem yL:FOff Tryz.prog 165 1 1:=⟨_,_,Tryz.underlying165,rfl,rfl,by kernel_rfl⟩
theorem Jo:FOff Tryz.prog 167 0 0:=⟨_,_,Tryz.underlying167,rfl,rfl,by kernel_rfl⟩
theorem Jp:FOff Tryz.prog 167 1 1:=⟨_,_,Tryz.underlying167,rfl,rfl,by kernel_rfl⟩
theorem yM:FOff Tryz.prog 173 0 0:=⟨_,_,Tryz.underlying173,rfl,rfl,by kernel_rfl⟩
theorem rX:FOff Tryz.prog 173 1 1:=⟨_,_,Tryz.underlying173,rfl,rfl,by kernel_rfl⟩
theorem rY:FOff Tryz.prog 176 0 0:=⟨_,_,Tryz.underlying176,rfl,rfl,by kernel_rfl⟩
theorem yN:FOff Tryz.prog 176 1 1:=⟨_,_,Tryz.underlying176,rfl,rfl,by kernel_rfl⟩
theorem rZ:FOff Tryz.prog 176 2 2:=⟨_,_,Tryz.underlying176,rfl,rfl,by kernel_rfl⟩
theorem sA:FOff Tryz.prog 176 3 3:=⟨_,_,Tryz.underlying176,rfl,rfl,by kernel_rfl⟩
theorem oA:FOff Tryz.prog 181 0 0:=⟨_,_,Tryz.underlying181,rfl,rfl,by kernel_rfl⟩
theorem Jq:FOff Tryz.prog 181 1 1:=⟨_,_,Tryz.underlying181,rfl,rfl,by kernel_rfl⟩
theorem yO:FOff Tryz.prog 181 2 2:=⟨_,_,Tryz.underlying181,rfl,rfl,by kernel_rfl⟩
theorem iF:FOff Tryz.prog 190 0 0:=⟨_,_,Tryz.underlying190,rfl,rfl,by kernel_rfl⟩
theorem jV:FOff Tryz.prog 190 1 1:=⟨_,_,Tryz.underlying190,rfl,rfl,by kernel_rfl⟩
theorem lI:FOff Tryz.prog 190 2 2:=⟨_,_,Tryz.underlying190,rfl,rfl,by kernel_rfl⟩
theorem sB:FOff Tryz.prog 193 0 0:=⟨_,_,Tryz.underlying193,rfl,rfl,by kernel_rfl⟩
theorem yP:FOff Tryz.prog 193 1 1:=⟨_,_,Tryz.underlying193,rfl,rfl,by kernel_rfl⟩
theorem yQ:FOff Tryz.prog 195 0 0:=⟨_,_,Tryz.underlying195,rfl,rfl,by kernel_rfl⟩
theorem eL:FOff Tryz.prog 195 1 1:=⟨_,_,Tryz.underlying195,rfl,rfl,by kernel_rfl⟩
theorem yR:FOff Tryz.prog 204 0 0:=⟨_,_,Tryz.underlying204,rfl,rfl,by kernel_rfl⟩
theorem sC:FOff Tryz.prog 204 1 11:=⟨_,_,Tryz.underlying204,rfl,rfl,by kernel_rfl⟩
theorem sG:FOff Tryz.prog 220 0 0:=⟨_,_,Tryz.underlying220,rfl,rfl,by kernel_rfl⟩
theorem Jr:FOff Tryz.prog 220 1 3:=⟨_,_,Tryz.underlying220,rfl,rfl,by kernel_rfl⟩
theorem Js:FOff Tryz.prog 220 2 4:=⟨_,_,Tryz.underlying220,rfl,rfl,by kernel_rfl⟩
theorem yS:FOff Tryz.prog 226 0 0:=⟨_,_,Tryz.underlying226,rfl,rfl,by kernel_rfl⟩
theorem yT:FOff Tryz.prog 226 1 1:=⟨_,_,Tryz.underlying226,rfl,rfl,by kernel_rfl⟩
theorem yU:FOff Tryz.prog 226 2 2:=⟨_,_,Tryz.underlying226,rfl,rfl,by kernel_rfl⟩
theorem yV:FOff Tryz.prog 231 0 0:=⟨_,_,Tryz.underlying231,rfl,rfl,by kernel_rfl⟩
theorem gJ:FOff Tryz.prog 231 1 6:=⟨_,_,Tryz.underlying231,rfl,rfl,by kernel_rfl⟩
theorem cU:FOff Tryz.prog 231 2 10:=⟨_,_,Tryz.underlying231,rfl,rfl,by kernel_rfl⟩
theorem dZ:FOff Tryz.prog 231 3 11:=⟨_,_,Tryz.underlying231,rfl,rfl,by kernel_rfl⟩
theorem yW:FOff Tryz.prog 236 0 0:=⟨_,_,Tryz.underlying236,rfl,rfl,by kernel_rfl⟩
theorem Jt:FOff Tryz.prog 236 1 3:=⟨_,_,Tryz.underlying236,rfl,rfl,by kernel_rfl⟩
theorem Ju:FOff Tryz.prog 236 2 4:=⟨_,_,Tryz.underlying236,rfl,rfl,by kernel_rfl⟩
theorem Jv:FOff Tryz.prog 236 3 5:=⟨_,_,Tryz.underlying236,rfl,rfl,by kernel_rfl⟩
theorem sH:FOff Tryz.prog 241 1 1:=⟨_,_,Tryz.underlying241,rfl,rfl,by kernel_rfl⟩
theorem gK:FOff Tryz.prog 247 0 0:=⟨_,_,Tryz.underlying247,rfl,rfl,by kernel_rfl⟩
theorem iX:FOff Tryz.prog 247 1 1:=⟨_,_,Tryz.underlying247,rfl,rfl,by kernel_rfl⟩
theorem oB:FOff Tryz.prog 247 2 2:=⟨_,_,Tryz.underlying247,rfl,rfl,by kernel_rfl⟩
theorem lJ:FOff Tryz.prog 247 3 3:=⟨_,_,Tryz.underlying247,rfl,rfl,by kernel_rfl⟩
theorem eT:FOff Tryz.prog 247 4 4:=⟨_,_,Tryz.underlying247,rfl,rfl,by kernel_rfl⟩
theorem iG:Zero Tryz.prog 3 [.int .i64 0]:=by unfold Zero;kernel_rfl
theorem pG:Bytes Tryz.prog 3 8:=by unfold Bytes;kernel_rfl
theorem Ye:Zero Tryz.prog 4 [.bool false]:=by unfold Zero;kernel_rfl
theorem Bf:Zero Tryz.prog 9 [.string .empty]:=by unfold Zero;kernel_rfl
theorem Ou:Bytes Tryz.prog 9 16:=by unfold Bytes;kernel_rfl
theorem Sw:Zero Tryz.prog 25 [.int .i64 0,.slice none 0 0,.slice none 0 0]:=by unfold Zero;kernel_rfl
theorem Jw:Zero Tryz.prog 43 [.int .i64 0,.int .i64 0,.slice none 0 0,.slice none 0 0,.slice none 0 0,.int .i64 0,.bool false,.slice none 0 0,.slice none 0 0,.int .i64 0,.slice none 0 0]:=by unfold Zero;kernel_rfl
theorem Sx:Zero Tryz.prog 55 [.slice none 0 0,.int .i64 0,.int .i64 0,.int .i64 0]:=by unfold Zero;kernel_rfl
theorem yX:Zero Tryz.prog 58 [.int .i64 0,.int .i64 0,.int .i64 0,.slice none 0 0,.int .i64 0,.int .i64 0,.int .i64 0,.slice none 0 0,.int .i64 0,.int .i64 0,.int .i64 0,.int .i64 0]:=by unfold Zero;kernel_rfl
theorem Xj:Bytes Tryz.prog 58 128:=by unfold Bytes;kernel_rfl
theorem Sy:Zero Tryz.prog 74 [.int .i64 0,.int .i64 0,.int .i64 0]:=by unfold Zero;kernel_rfl
theorem Xk:Zero Tryz.prog 78 [.slice none 0 0]:=by unfold Zero;kernel_rfl
theorem Ta:Zero Tryz.prog 83 [.slice none 0 0,.slice none 0 0,.slice none 0 0,.slice none 0 0,.slice none 0 0]:=by unfold Zero;kernel_rfl
theorem bW:Zero Tryz.prog 88 [.int .i64 0,.int .i64 0]:=by unfold Zero;kernel_rfl
theorem yY:Bytes Tryz.prog 88 16:=by unfold Bytes;kernel_rfl
theorem Jx:Zero Tryz.prog 89 [.int .i64 0,.int .i64 0]:=by unfold Zero;kernel_rfl
theorem Xl:Bytes Tryz.prog 89 16:=by unfold Bytes;kernel_rfl
theorem Dt:Zero Tryz.prog 91 [.int .i64 0,.int .i64 0,.int .i64 0]:=by unfold Zero;kernel_rfl
theorem Xm:Bytes Tryz.prog 91 24:=by unfold Bytes;kernel_rfl
theorem Du:Zero Tryz.prog 98 [.int .i64 0,.int .i64 0,.int .i64 0,.int .i64 0,.bool false]:=by unfold Zero;kernel_rfl
theorem Xn:Bytes Tryz.prog 98 40:=by unfold Bytes;kernel_rfl
theorem lK:Zero Tryz.prog 109 [.int .i64 0,.int .i64 0,.int .i64 0,.int .i64 0,.int .i64 0,.int .i64 0,.int .i64 0]:=by unfold Zero;kernel_rfl
theorem Bg:Bytes Tryz.prog 109 56:=by unfold Bytes;kernel_rfl
theorem Jy:Zero Tryz.prog 112 [.int .i64 0,.int .i64 0,.int .i64 0,.int .i64 0]:=by unfold Zero;kernel_rfl
theorem Jz:Zero Tryz.prog 117 [.bool false,.int .i64 0,.int .i64 0,.int .i64 0,.int .i64 0,.slice none 0 0]:=by unfold Zero;kernel_rfl
theorem fT:Zero Tryz.prog 121 [.int .i64 0,.slice none 0 0,.slice none 0 0]:=by unfold Zero;kernel_rfl
theorem lL:Zero Tryz.prog 139 [.int .i64 0,.int .i64 0]:=by unfold Zero;kernel_rfl
theorem To:Zero Tryz.prog 157 [.slice none 0 0,.slice none 0 0,.slice none 0 0,.slice none 0 0,.slice none 0 0]:=by unfold Zero;kernel_rfl
theorem Bh:Zero Tryz.prog 159 [.slice none 0 0,.slice none 0 0,.slice none 0 0,.slice none 0 0,.slice none 0 0]:=by unfold Zero;kernel_rfl
theorem sJ:Zero Tryz.prog 163 [.int .i64 0,.int .i64 0,.int .i64 0,.bool false]:=by unfold Zero;kernel_rfl
theorem wH:Zero Tryz.prog 165 [.string .empty,.int .i64 0]:=by unfold Zero;kernel_rfl
theorem wI:Zero Tryz.prog 167 [.string .empty,.int .i64 0]:=by unfold Zero;kernel_rfl
theorem Ka:Zero Tryz.prog 169 [.slice none 0 0]:=by unfold Zero;kernel_rfl
theorem sK:Zero Tryz.prog 173 [.int .i64 0,.int .i64 0]:=by unfold Zero;kernel_rfl
theorem wJ:Zero Tryz.prog 176 [.int .i64 0,.int .i64 0,.slice none 0 0,.slice none 0 0]:=by unfold Zero;kernel_rfl
theorem Kb:Zero Tryz.prog 181 [.int .i64 0,.bool false,.slice none 0 0]:=by unfold Zero;kernel_rfl
theorem eE:Zero Tryz.prog 190 [.int .i64 0,.slice none 0 0,.bool false]:=by unfold Zero;kernel_rfl
theorem wK:Zero Tryz.prog 193 [.int .i64 0,.int .i64 0]:=by unfold Zero;kernel_rfl
theorem wL:Zero Tryz.prog 195 [.int .i64 0,.slice none 0 0]:=by unfold Zero;kernel_rfl
theorem Kc:Zero Tryz.prog 197 [.int .i64 0,.int .i64 0]:=by unfold Zero;kernel_rfl
theorem Tp:Zero Tryz.prog 204 [.int .i64 0,.int .i64 0,.slice none 0 0,.slice none 0 0,.slice none 0 0,.int .i64 0,.bool false,.slice none 0 0,.slice none 0 0,.int .i64 0,.slice none 0 0,.map none,.map none,.map none]:=by unfold Zero;kernel_rfl
theorem Tq:Zero Tryz.prog 220 [.int .i64 0,.slice none 0 0,.slice none 0 0,.int .i64 0,.bool false]:=by unfold Zero;kernel_rfl
theorem Bi:Zero Tryz.prog 226 [.int .i64 0,.int .i64 0,.int .i64 0]:=by unfold Zero;kernel_rfl
theorem Tr:Bytes Tryz.prog 226 24:=by unfold Bytes;kernel_rfl
theorem pH:Zero Tryz.prog 231 [.bool false,.int .i64 0,.int .i64 0,.int .i64 0,.int .i64 0,.slice none 0 0,.int .i64 0,.int .i64 0,.int .i64 0,.int .i64 0,.int .i64 0,.int .i64 0]:=by unfold Zero;kernel_rfl
theorem Ts:Zero Tryz.prog 236 [.int .i64 0,.slice none 0 0,.slice none 0 0,.int .i64 0,.int .i64 0,.int .i64 0]:=by unfold Zero;kernel_rfl
theorem Kd:Zero Tryz.prog 241 [.int .i64 0,.int .i64 0,.int .i64 0,.int .i64 0,.int .i64 0,.int .i64 0,.int .i64 0,.int .i64 0,.int .i64 0,.int .i64 0,.int .i64 0,.int .i64 0,.int .i64 0,.int .i64 0,.int .i64 0,.int .i64 0,.int .i64 0,.int .i64 0,.int .i64 0,.int .i64 0,.int .i64 0]:=by unfold Zero;kernel_rfl
theorem iY:Zero Tryz.prog 247 [.int .i64 0,.int .i64 0,.int .i64 0,.bool false,.int .i64 0,.int .i64 0]:=by unfold Zero;kernel_rfl
theorem Bj:Bytes Tryz.prog 247 48:=by unfold Bytes;kernel_rfl
theorem Ke:dE Tryz.prog 25 [(0,1),(1,1),(2,1)] [.int .i64 0,.slice none 0 0,.slice none 0 0]:=⟨Sw,by simp only [Tryz.underlying25];exact ⟨by kernel_rfl,by kernel_rfl⟩⟩
theorem Xo:dE Tryz.prog 83 [(0,1),(1,1),(2,1),(3,1),(4,1)] [.slice none 0 0,.slice none 0 0,.slice none 0 0,.slice none 0 0,.slice none 0 0]:=⟨Ta,by simp only [Tryz.underlying83];exact ⟨by kernel_rfl,by kernel_rfl⟩⟩
theorem dM:dE Tryz.prog 88 [(0,1),(1,1)] [.int .i64 0,.int .i64 0]:=⟨bW,by simp only [Tryz.underlying88];exact ⟨by kernel_rfl,by kernel_rfl⟩⟩
theorem Xp:dE Tryz.prog 89 [(0,1),(1,1)] [.int .i64 0,.int .i64 0]:=⟨Jx,by simp only [Tryz.underlying89];exact ⟨by kernel_rfl,by kernel_rfl,by kernel_rfl⟩⟩
theorem Tt:dE Tryz.prog 112 [(0,1),(1,2),(3,1)] [.int .i64 0,.int .i64 0,.int .i64 0,.int .i64 0]:=⟨Jy,by simp only [Tryz.underlying112];exact ⟨by kernel_rfl,by kernel_rfl⟩⟩
theorem Tu:dE Tryz.prog 117 [(0,1),(1,1),(2,1),(3,1),(4,1),(5,1)] [.bool false,.int .i64 0,.int .i64 0,.int .i64 0,.int .i64 0,.slice none 0 0]:=⟨Jz,by simp only [Tryz.underlying117];exact ⟨by kernel_rfl,by kernel_rfl⟩⟩
theorem Tv:dE Tryz.prog 121 [(0,1),(1,1),(2,1)] [.int .i64 0,.slice none 0 0,.slice none 0 0]:=⟨fT,by simp only [Tryz.underlying121];exact ⟨by kernel_rfl,by kernel_rfl⟩⟩
theorem Kf:dE Tryz.prog 139 [(0,1),(1,1)] [.int .i64 0,.int .i64 0]:=⟨lL,by simp only [Tryz.underlying139];exact ⟨by kernel_rfl,by kernel_rfl⟩⟩
theorem Tw:dE Tryz.prog 157 [(0,5)] [.slice none 0 0,.slice none 0 0,.slice none 0 0,.slice none 0 0,.slice none 0 0]:=⟨To,by simp only [Tryz.underlying157];exact ⟨by kernel_rfl,by kernel_rfl⟩⟩
theorem Tx:dE Tryz.prog 159 [(0,5)] [.slice none 0 0,.slice none 0 0,.slice none 0 0,.slice none 0 0,.slice none 0 0]:=⟨Bh,by simp only [Tryz.underlying159];exact ⟨by kernel_rfl,by kernel_rfl⟩⟩
theorem Ty:dE Tryz.prog 163 [(0,1),(1,1),(2,1),(3,1)] [.int .i64 0,.int .i64 0,.int .i64 0,.bool false]:=⟨sJ,by simp only [Tryz.underlying163];exact ⟨by kernel_rfl,by kernel_rfl⟩⟩
theorem Tz:dE Tryz.prog 165 [(0,1),(1,1)] [.string .empty,.int .i64 0]:=⟨wH,by simp only [Tryz.underlying165];exact ⟨by kernel_rfl,by kernel_rfl⟩⟩
theorem Ua:dE Tryz.prog 167 [(0,1),(1,1)] [.string .empty,.int .i64 0]:=⟨wI,by simp only [Tryz.underlying167];exact ⟨by kernel_rfl,by kernel_rfl⟩⟩
theorem Kg:dE Tryz.prog 173 [(0,1),(1,1)] [.int .i64 0,.int .i64 0]:=⟨sK,by simp only [Tryz.underlying173];exact ⟨by kernel_rfl,by kernel_rfl⟩⟩
theorem Kh:dE Tryz.prog 176 [(0,1),(1,1),(2,1),(3,1)] [.int .i64 0,.int .i64 0,.slice none 0 0,.slice none 0 0]:=⟨wJ,by simp only [Tryz.underlying176];exact ⟨by kernel_rfl,by kernel_rfl⟩⟩
theorem Ub:dE Tryz.prog 190 [(0,1),(1,1),(2,1)] [.int .i64 0,.slice none 0 0,.bool false]:=⟨eE,by simp only [Tryz.underlying190];exact ⟨by kernel_rfl,by kernel_rfl⟩⟩
theorem Ki:dE Tryz.prog 193 [(0,1),(1,1)] [.int .i64 0,.int .i64 0]:=⟨wK,by simp only [Tryz.underlying193];exact ⟨by kernel_rfl,by kernel_rfl⟩⟩
theorem sM:dE Tryz.prog 195 [(0,1),(1,1)] [.int .i64 0,.slice none 0 0]:=⟨wL,by simp only [Tryz.underlying195];exact ⟨by kernel_rfl,by kernel_rfl⟩⟩
theorem wM:dE Tryz.prog 197 [(0,1),(1,1)] [.int .i64 0,.int .i64 0]:=⟨Kc,by simp only [Tryz.underlying197];exact ⟨by kernel_rfl,by kernel_rfl⟩⟩
theorem Uc:dE Tryz.prog 204 [(0,11),(11,1),(12,1),(13,1)] [.int .i64 0,.int .i64 0,.slice none 0 0,.slice none 0 0,.slice none 0 0,.int .i64 0,.bool false,.slice none 0 0,.slice none 0 0,.int .i64 0,.slice none 0 0,.map none,.map none,.map none]:=⟨Tp,by simp only [Tryz.underlying204];exact ⟨by kernel_rfl,by kernel_rfl⟩⟩
theorem Ud:dE Tryz.prog 220 [(0,3),(3,1),(4,1)] [.int .i64 0,.slice none 0 0,.slice none 0 0,.int .i64 0,.bool false]:=⟨Tq,by simp only [Tryz.underlying220];exact ⟨by kernel_rfl,by kernel_rfl⟩⟩
theorem Ue:dE Tryz.prog 231 [(0,6),(6,4),(10,1),(11,1)] [.bool false,.int .i64 0,.int .i64 0,.int .i64 0,.int .i64 0,.slice none 0 0,.int .i64 0,.int .i64 0,.int .i64 0,.int .i64 0,.int .i64 0,.int .i64 0]:=⟨pH,by simp only [Tryz.underlying231];exact ⟨by kernel_rfl,by kernel_rfl⟩⟩
theorem Uf:dE Tryz.prog 236 [(0,3),(3,1),(4,1),(5,1)] [.int .i64 0,.slice none 0 0,.slice none 0 0,.int .i64 0,.int .i64 0,.int .i64 0]:=⟨Ts,by simp only [Tryz.underlying236];exact ⟨by kernel_rfl,by kernel_rfl⟩⟩
theorem Ug:dE Tryz.prog 241 [(0,1),(1,20)] [.int .i64 0,.int .i64 0,.int .i64 0,.int .i64 0,.int .i64 0,.int .i64 0,.int .i64 0,.int .i64 0,.int .i64 0,.int .i64 0,.int .i64 0,.int .i64 0,.int .i64 0,.int .i64 0,.int .i64 0,.int .i64 0,.int .i64 0,.int .i64 0,.int .i64 0,.int .i64 0,.int .i64 0]:=⟨Kd,by simp only [Tryz.underlying241];exact ⟨by kernel_rfl,by kernel_rfl⟩⟩
theorem Kj:dE Tryz.prog 247 [(0,1),(1,1),(2,1),(3,1),(4,2)] [.int .i64 0,.int .i64 0,.int .i64 0,.bool false,.int .i64 0,.int .i64 0]:=⟨iY,by simp only [Tryz.underlying247];exact ⟨by kernel_rfl,by kernel_rfl⟩⟩
theorem Bk:MapT Tryz.prog 200 241 139:=Tryz.underlying200
theorem Bl:MapT Tryz.prog 201 3 4:=Tryz.underlying201
theorem Bm:MapT Tryz.prog 265 3 3:=Tryz.underlying265
theorem Bn:MapT Tryz.prog 283 9 3:=Tryz.underlying283
theorem Ov:ZeroV Tryz.prog 3 (.int .i64 0):=by unfold ZeroV;kernel_rfl
theorem Kk:ZeroV Tryz.prog 139 (.agg #[.int .i64 0,.int .i64 0]):=by unfold ZeroV;kernel_rfl
end
section
section
variable {P:Program} {L:List (Nat×Value)} {w:World} {d:Option Nat} {ty:TypeId} {pos:String} {af:Array Edge} {g:Option (Nat×Bool)}
theorem wN (s t:ByteArray):(s == t)=decide (s=t):=by
  obtain ⟨a⟩:=s
  obtain ⟨b⟩:=t
  have h:((⟨a⟩:ByteArray) == ⟨b⟩)=(a == b):=rfl
  rw [h]
  by_cases e:a=b
  · subst e;simp
  · rw [decide_eq_false (fun h=>e (congrArg ByteArray.data h))];simp [e]
theorem Tb (s t:ByteArray):(s.toList == t.toList)=(s == t):=by
  rw [wN,ByteArray.toList_eq,ByteArray.toList_eq]
  by_cases e:s=t
  · subst e;simp
  · rw [decide_eq_false e,beq_eq_false_iff_ne]
    intro h
    apply e
    obtain ⟨⟨a⟩⟩:=s
    obtain ⟨⟨b⟩⟩:=t
    have h2:a=b:=h
    rw [h2]
theorem Kl {xt:TypeId} (hu:P.underlying xt=some .string) (s t:ByteArray):(binOp .eql xt (.string s) (.string t)).run P w = .ok (.bool (s == t)) w:=by
  simp [binOp,Op.stringOp,Tb]
theorem Fu {xt:TypeId} (hu:P.underlying xt=some .string) (s t:ByteArray):(binOp .neq xt (.string s) (.string t)).run P w = .ok (.bool (!(s == t))) w:=by
  simp [binOp,Op.stringOp,Tb]
theorem Tc (op:BinOp) (t:TypeId) (x y:Operand) (m n:ByteArray):(eqGuard op t x y (.string m) (.string n)).run P w = .ok () w:=by
  unfold eqGuard;split <;> simp
theorem gA {x y:Operand} {xt yt:TypeId} {s t:ByteArray} (hu:P.underlying xt=some .string) (hx:ev L x=some (.string s)) (hy:ev L y=some (.string t)) :
    Does P L ⟨d,.binOp .eql xt x y yt,ty,pos,af,g⟩ w (.bool (s == t)):=fun ρ hρ=>by
  simp only [execOp,hρ _ _ hx,hρ _ _ hy]
  simp [Tc,Kl hu]
theorem Fv {x y:Operand} {xt yt:TypeId} {s t:ByteArray} (hu:P.underlying xt=some .string) (hx:ev L x=some (.string s)) (hy:ev L y=some (.string t)) :
    Does P L ⟨d,.binOp .neq xt x y yt,ty,pos,af,g⟩ w (.bool (!(s == t))):=fun ρ hρ=>by
  simp only [execOp,hρ _ _ hx,hρ _ _ hy]
  simp [Tc,Fu hu]
theorem Fw {x:Operand} {t:Nat} {s:ByteArray} (hu:P.underlying t=some .string) (hx:ev L x=some (.string s)) :
    Does P L ⟨d,.call ⟨.builtin .len,#[x],#[t]⟩,ty,pos,af,g⟩ w (.int .i64 (s.size:Int)):=fun ρ hρ=>by
  simp [execOp,resolve,hρ _ _ hx,invoke,builtin,Builtin.len_,bU hu,goInt]
end
section
variable {P:Program} {L:List (Nat×Value)} {w:World} {d:Option Nat} {ty:TypeId} {pos:String} {af:Array Edge} {g:Option (Nat×Bool)}
theorem yZ {x:Operand} {t e:Nat} {A:Option Addr} {n c:Nat} (ht:SlT P t e) (hx:ev L x=some (.slice A n c)) :
    Does P L ⟨d,.call ⟨.builtin .cap,#[x],#[t]⟩,ty,pos,af,g⟩ w (.int .i64 (c:Int)):=fun ρ hρ=>by
  simp [execOp,resolve,hρ _ _ hx,invoke,builtin,Builtin.cap_,bU ht,goInt]
end
def byteI (s:ByteArray) (k:Nat):Int:=((s.data.getD k 0).toNat:Int)
def bytM (b e:Nat) (s:ByteArray):Mem where
  fp:=fun k=>k=b
  holds:=fun w=>∃ (cs:Array Value) (fr:Nat×Nat),w.heap[b]?=some (.cells cs e fr)∧∀ k,k<s.size→cs[k]?=some (.int .u8 (byteI s k))
  stable:=fun _ _ h ⟨cs,fr,h1,h2⟩=>⟨cs,fr,(h b rfl).trans h1,h2⟩
section
variable {P:Program} {ops:Array Oper} {w w0:World} {F0:Nat→Prop} {R:List Mem} {Q:Exit→Act→World→Prop} {rest:List Oper} {N:FN} {L:List (Nat×Value)} {a:Act} {ty:TypeId} {pos:String} {af:Array Edge}
theorem bytM.inS {i b e:Nat} {s:ByteArray} (S:St w0 F0 R w) (hi:R[i]?=some (bytM b e s)):InS w noF 1 (some ⟨b,0,none⟩) s.size (fun k _ => .int .u8 (byteI s k)):=by
  intro _
  obtain ⟨cs,fr,hb,hc⟩:=S.holds hi
  refine ⟨b,0,rfl,dC hb,fun h=>h,fun k j hk hj=>?_⟩
  obtain rfl:j=0:=by omega
  have:=cell_of_row w b (k*1+0) cs e fr hb
  rw [Nat.zero_add,this,show k*1+0=k by omega,hc k hk]
theorem bytM.rd {i b e k j:Nat} {s:ByteArray} (S:St w0 F0 R w) (hi:R[i]?=some (bytM b e s)) (hk:k<s.size) (hj:j<1):w.cell? (pt (some ⟨b,0,none⟩) 1 k j)=some (.int .u8 (byteI s k)):=by
  obtain ⟨cs,fr,hb,hc⟩:=S.holds hi
  obtain rfl:j=0:=by omega
  have:pt (some ⟨b,0,none⟩) 1 k 0=⟨b,k,none⟩:=by simp [pt,Go.Proofs.YtinghmelkmblmaaGreat.adr]
  rw [this,←hc k hk]
  exact cell_of_row w b k cs e fr hb
theorem wO {d src dst e:Nat} {x:Operand} {s:ByteArray} (H:Fr N L a) (hd:Nat.blt d N.n=true) (S:St w0 F0 R w) (h1:P.underlying src=some .string) (h2:P.underlying dst=some (.slice e)) (h3:P.underlying e=some (.int .u8)) (hx:ev L x=some (.string s))
    (k:∀ b c w' a',St w0 F0 (bytM b e s::R) w'→Fr N ((d,.slice (some ⟨b,0,none⟩) s.size c)::L) a'→wpList P ops Q rest a' w') :
    wpList P ops Q (⟨some d,.convert src dst x,ty,pos,af,none⟩::rest) a w:=by
  refine wpList_plain rfl fun K hK=>?_
  unfold Oper.wp
  have hr:=run_bytes_of_string (P:=P) w src dst e s h1 h2 h3
  have e1:(execOp a.eval ⟨some d,.convert src dst x,ty,pos,af,none⟩).run P w = .ok (.value (.slice (some ⟨w.heap.size,0,none⟩) s.size (grownCap w s.size 0 e))) (w.drew.alloc (.cells (bytesRow s (grownCap w s.size 0 e)) e ((bytesRow s (grownCap w s.size 0 e)).size,(bytesRow s (grownCap w s.size 0 e)).size+1))):=by
    simp [execOp,H.eval hx,hr]
  rw [e1]
  refine hK _ _ (k w.heap.size _ _ _ (S.drew.new (m':=bytM w.heap.size e s) (Keeps.alloc _ _ _) ⟨_,_,heap_alloc_new w.drew _,fun q hq=>?_⟩ ?_) (H.put _ hd))
  · unfold bytesRow byteI
    have hs:s.data.size=s.size:=rfl
    rw [Array.getElem?_append_left (by simp [hs];exact hq),Array.getElem?_map,Array.getD_eq_getD_getElem?,Array.getElem?_eq_getElem (by omega)]
    rfl
  · intro q h
    have h9:q=w.heap.size:=h
    subst h9
    exact ⟨Nat.le_refl _,by simp⟩
end
theorem pI {P:Program} {kt:TypeId} (h:P.underlying kt=some .string):KeyOk P kt (fun s:ByteArray => .string s):=by
  refine ⟨fun l k es w he=>?_,fun e k w=>?_,fun k=>by simp [Instr.sameBits,wN]⟩
  · have key : ∀ (l:List (ByteArray×Value)) (es:List MapEntry) (i:Nat),es.map (fun e=>(e.key,e.val))=l.map (fun p=>(Value.string p.1,p.2))→Instr.findNow .string (.string k) es i=some (findL k l i):=by
      intro l
      induction l with
      | nil => intro es i he;have:es=[]:=by simpa using he
               subst this;rfl
      | cons p l ih=>
        intro es i he
        cases es with
        | nil=>simp at he
        | cons e es=>
          simp only [List.map_cons,List.cons.injEq,Prod.mk.injEq] at he
          obtain ⟨⟨h1,h2⟩,h3⟩:=he
          simp only [Instr.findNow,h1,Instr.sameNow,if_true,findL]
          by_cases hk:k=p.1
          · subst hk;simp [h2,wN]
          · have hb:(k == p.1)=false:=by simp [wN,hk]
            rw [hb,if_neg hk]
            exact ih es (i+1) h3
    simp [Instr.findKey,bU h,key l es 0 he]
  · rw [show (10000:Nat)=9999+1 from rfl,Instr.checkKey]
    simp only [Sem.run_bind,bU h,Result.andThen_ok]
    rfl
end
section
section
variable {P:Program} {ops:Array Oper} {w w0:World} {F0:Nat→Prop} {R:List Mem} {Q:Exit→Act→World→Prop} {rest:List Oper} {N:FN} {L:List (Nat×Value)} {a:Act} {ty:TypeId} {pos:String} {af:Array Edge}
theorem wP {d t tn e sz by_ n:Nat} {x y:Operand} {zs:List Value} {kn:IntKind} (cell:Nat→Nat→Value) (H:Fr N L a) (hd:Nat.blt d N.n=true) (S:St w0 F0 R w) (ht:SlT P t e) (htn:P.underlying tn=some (.int kn)) (hs:Sz P e sz) (hz:Zero P e zs) (hby:Bytes P e by_) (hzs:Nat.beq zs.length sz=true) (hpos:Nat.blt 0 sz=true)
    (hx:ev L x=some (.slice none 0 0)) (hy:ev L y=some (.int .i64 (n:Int))) (h0:0<n) (hlen:n*by_≤140737488355328) (hlen2:n≤9223372036854775807)
    (k:∀ b c w' a',n≤c→St w0 F0 (ownM e sz (some ⟨b,0,none⟩) 0 c cell::R) w'→Fr N ((d,.slice (some ⟨b,0,none⟩) n c)::L) a'→wpList P ops Q rest a' w') :
    wpList P ops Q (⟨some d,.call ⟨.builtin .append,#[x,y],#[t,tn]⟩,ty,pos,af,none⟩::rest) a w:=by
  refine wpList_plain rfl fun K hK=>?_
  unfold Oper.wp
  unfold Zero at hz
  unfold Sz at hs
  unfold Bytes at hby
  have hzl:zs.length=sz:=Nat.eq_of_beq_eq_true hzs
  have hp:0<sz:=by simpa using hpos
  cases hi:P.info? e with
  | none=>rw [hi] at hz;simp at hz
  | some i=>
    rw [hi] at hz hs hby
    simp at hz hs hby
    obtain ⟨z,hz1,hz2⟩:=hz
    have hzsz:z.cells.size=sz:=by rw [←hzl,←hz2];simp
    have hr:=Go.Lib.run_append_nil_zeros (P:=P) w t tn ty e i z .i64 kn ht htn hi hz1 n h0 (by omega) (by omega) (by rw [hby];omega)
    have e1:(execOp a.eval ⟨some d,.call ⟨.builtin .append,#[x,y],#[t,tn]⟩,ty,pos,af,none⟩).run P w = .ok (.value (.slice (some ⟨w.heap.size,0,none⟩) n (grownCap w n 0 e))) (w.drew.alloc (.cells (Builtin.zeroCells z.cells n++Builtin.zeroCells z.cells (grownCap w n 0 e-n)) e)):=by
      simp [execOp,resolve,H.eval hx,H.eval hy,invoke,builtin,hr]
    rw [e1]
    have hge:=grownCap_ge w n 0 e
    have hcm:=grownCap_le_maxLen w n 0 e (by simp only [maxLen];omega)
    refine hK _ _ (k w.heap.size (grownCap w n 0 e) _ _ hge (S.drew.new (m':=ownM e sz (some ⟨w.heap.size,0,none⟩) 0 (grownCap w n 0 e) cell) (Keeps.alloc _ _ _) (.inr ⟨w.heap.size,_,rfl,heap_alloc_new w.drew _,Nat.zero_le _,hcm,?_,fun k j hk _=>absurd hk (Nat.not_lt_zero k)⟩) ?_) (H.put _ hd))
    · rw [Array.size_append,size_zeroCells,size_zeroCells,hzsz,←Nat.add_mul]
      congr 1
      omega
    · rintro q ⟨_,h,rfl⟩
      cases h
      exact ⟨Nat.le_refl _,by simp⟩
end
end
section
structure Psg where
  a:Int
  b:Int
  kind:Int
  ticks:Int
  wide:Int
  mach:Int
  still:Int
def Psg.zero:Psg:=⟨0,0,0,0,0,0,0⟩
def Psg.cell (p:Psg):Nat→Value
  | 0 => .int .i64 p.a
  | 1 => .int .i64 p.b
  | 2 => .int .i64 p.kind
  | 3 => .int .i64 p.ticks
  | 4 => .int .i64 p.wide
  | 5 => .int .i64 p.mach
  | _ => .int .i64 p.still
def pcell (l:List Psg) (k j:Nat):Value:=(l.getD k Psg.zero).cell j
structure Mv where
  pas:Int
  fr:Int
  at_:Int
  many:Int
def Mv.zero:Mv:=⟨0,0,0,0⟩
def Mv.none:Mv:=⟨-1,0,0,0⟩
def Mv.cells (m:Mv):List Value:=[.int .i64 m.pas,.int .i64 m.fr,.int .i64 m.at_,.int .i64 m.many]
def Mv.cell (m:Mv):Nat→Value
  | 0 => .int .i64 m.pas
  | 1 => .int .i64 m.fr
  | 2 => .int .i64 m.at_
  | _ => .int .i64 m.many
structure Ent where
  to:Nat
  room:Int
  back:Nat
  mv:Mv
def Ent.zero:Ent:=⟨0,0,0,Mv.zero⟩
def Ent.cell (x:Ent):Nat→Value
  | 0 => .int .i64 (x.to:Int)
  | 1 => .int .i64 x.room
  | 2 => .int .i64 (x.back:Int)
  | 3 => .int .i64 x.mv.pas
  | 4 => .int .i64 x.mv.fr
  | 5 => .int .i64 x.mv.at_
  | _ => .int .i64 x.mv.many
abbrev Tab:=Nat→List Ent
def tlen (T:Tab) (i:Nat):Nat:=(T i).length
def joinT (T:Tab) (f t:Nat) (room:Int) (mv:Mv):Tab:=
  upd (upd T f (T f++[⟨t,room,(T t).length,mv⟩])) t (T t++[⟨f,0,(T f).length,Mv.none⟩])
def Tab.net (T:Tab) (k:Nat):Net:=⟨k,tlen T,fun i j=>((T i).getD j Ent.zero).to,fun i j=>((T i).getD j Ent.zero).back⟩
def Tab.room (T:Tab):RM:=fun i j=>((T i).getD j Ent.zero).room
def Tab.mv (T:Tab):Nat→Nat→Mv:=fun i j=>((T i).getD j Ent.zero).mv
def lcl (L:Nat→Int) (i _j:Nat):Value := .int .i64 (L i)
def hasI (l:List Int) (x:Int):Bool:=l.any fun y=>decide (x=y)
structure Hd where
  pas:Int
  fr:Int
  to:Int
  ticks:Int
  wide:Int
def Hd.zero:Hd:=⟨0,0,0,0,0⟩
def Hd.cells (h:Hd):List Value:=[.int .i64 h.pas,.int .i64 h.fr,.int .i64 h.to,.int .i64 h.ticks,.int .i64 h.wide]
def bitI (out m:Int):Int:=out/2^m.toNat%2
def Dv (out:Int) (p:Psg):Int:=if p.kind=3∧¬ bitI out p.mach=0 then p.still else p.ticks
def Uh (out:Int) (p:Psg):Bool:=!(decide (p.kind=3)&&decide (bitI out p.mach=0))
def hdsA (out:Int) (xs:List Int) (k:Nat) (p:Psg):List Hd:=if hasI xs p.a=true then [] else [⟨k,p.a,p.b,Dv out p,p.wide⟩]
def hdsB (out:Int) (xs:List Int) (k:Nat) (p:Psg):List Hd:=if (Uh out p&&!hasI xs p.b)=true then [⟨k,p.b,p.a,Dv out p,p.wide⟩] else []
def hdsOf (out:Int) (xs:List Int) (k:Nat) (p:Psg):List Hd:=if p.kind=4 then [] else hdsA out xs k p++hdsB out xs k p
def hdsTo (out:Int) (xs:List Int) (ps:List Psg):Nat→List Hd
  | 0=>[]
  | k+1=>hdsTo out xs ps k++hdsOf out xs k (ps.getD k Psg.zero)
def hds (out:Int) (xs:List Int) (ps:List Psg):List Hd:=hdsTo out xs ps ps.length
section
variable {out:Int} {xs:List Int} {ps:List Psg} {k:Nat}
def qA (xs:List Int) (p:Psg):Nat:=if hasI xs p.a=true then 0 else 1
end
structure Jn where
  f:Nat
  t:Nat
  room:Int
  mv:Mv
def joins (J:List Jn):Tab:=J.foldl (fun T j=>joinT T j.f j.t j.room j.mv) (fun _=>[])
theorem Bo (J:List Jn) (j:Jn):joins (J++[j])=joinT (joins J) j.f j.t j.room j.mv:=by unfold joins;rw [List.foldl_append];rfl
theorem Fx (J:List Jn) (hne:∀ j ∈ J,j.f≠j.t) (i:Nat):(joins J i).length≤J.length:=by
  have key:∀ (n:Nat) (J:List Jn),J.length=n→(∀ j ∈ J,j.f≠j.t)→(joins J i).length≤n:=by
    intro n
    induction n with
    | zero => intro J h _;have:J=[]:=List.eq_nil_of_length_eq_zero h
              subst this;exact Nat.le_refl 0
    | succ n ih=>
      intro J h hn
      obtain ⟨J',j,rfl⟩:∃ J' j,J=J'++[j]:=⟨J.dropLast,J.getLast (by intro e;subst e;simp at h),(List.dropLast_concat_getLast _).symm⟩
      have h1:=ih J' (by simpa using h) (fun x hx=>hn x (List.mem_append_left _ hx))
      have h2:=hn j (List.mem_append_right _ (by simp))
      rw [Bo]
      unfold joinT upd
      split
      · rename_i e
        subst e
        simp;omega
      · split
        · rename_i e;subst e;simp;omega
        · omega
  exact key _ J rfl hne
def nd (P t p:Nat):Nat:=P*t+p
def Km:Int:=1099511627776
def jBeg (P T:Nat) (pe:List Int) (p:Nat):Jn:=⟨P*(T+1),nd P 0 p,pe.getD p 0,Mv.none⟩
def jWait (P p t:Nat):Jn:=⟨nd P t p,nd P (t+1) p,Km,Mv.none⟩
def jExit (P T p t:Nat):Jn:=⟨nd P t p,P*(T+1)+1,Km,Mv.none⟩
def Ui (P p n:Nat):List Jn:=(List.range n).map (jWait P p)
def Uj (P T p n:Nat):List Jn:=(List.range n).map (jExit P T p)
def Uk (P T:Nat) (pe xs:List Int) (p:Nat):List Jn:=jBeg P T pe p::(Ui P p T++(if hasI xs p=true then Uj P T p (T+1) else []))
def Dw (P T:Nat) (pe xs:List Int):Nat→List Jn
  | 0=>[]
  | p+1=>Dw P T pe xs p++Uk P T pe xs p
def jHead (P:Nat) (h:Hd) (t:Nat):Jn:=⟨nd P t h.fr.toNat,nd P (t+h.ticks.toNat) h.to.toNat,h.wide,⟨h.pas,h.fr,t,0⟩⟩
def Ul (P:Nat) (h:Hd) (n:Nat):List Jn:=(List.range n).map (jHead P h)
def Kn (P T:Nat) (hs:List Hd):Nat→List Jn
  | 0=>[]
  | i+1=>Kn P T hs i++Ul P (hs.getD i Hd.zero) (T+1-(hs.getD i Hd.zero).ticks.toNat)
def jAll (P T:Nat) (pe xs:List Int) (hs:List Hd):List Jn:=Dw P T pe xs P++Kn P T hs hs.length
section
variable {P T:Nat} {pe xs:List Int} {hs:List Hd}
def JOk (P T:Nat) (j:Jn):Prop:=j.f≠j.t∧j.f<P*(T+1)+2∧j.t<P*(T+1)+2
end
def allN (p:Nat→Bool):Nat→Bool
  | 0=>true
  | n+1=>allN p n&&p n
theorem bZ {p:Nat→Bool}:∀ {n:Nat},allN p n=true↔∀ k,k<n→p k=true:=by
  intro n
  induction n with
  | zero=>exact ⟨fun _ k hk=>absurd hk (Nat.not_lt_zero k),fun _=>rfl⟩
  | succ n ih=>
    simp only [allN,Bool.and_eq_true,ih]
    constructor
    · rintro ⟨h1,h2⟩ k hk
      by_cases e:k=n
      · subst e;exact h2
      · exact h1 k (by omega)
    · intro h
      exact ⟨fun k hk=>h k (by omega),h n (by omega)⟩
theorem cM {p:Nat→Bool} {n:Nat} (h:allN p n=true) (hp:p n=true):allN p (n+1)=true:=by simp only [allN,h,hp];rfl
theorem fU {p:Nat→Bool} {n k:Nat} (hk:k<n) (h:p k=false):allN p n=false:=by
  cases ha:allN p n with
  | false=>rfl
  | true=>rw [bZ.1 ha k hk] at h;cases h
def psgOk (P:Int) (p:Psg):Bool:=decide (0≤p.a∧p.a<P∧0≤p.b∧p.b<P∧p.a≠p.b∧1≤p.ticks∧p.ticks≤20∧1≤p.wide∧p.wide≤50 ∧
  ((p.kind=1∨p.kind=2∨p.kind=5)∧p.mach = -1∧p.still=0∨p.kind=3∧(0≤p.mach∧p.mach≤11)∧(1≤p.still∧p.still≤20)∨p.kind=4∧(0≤p.mach∧p.mach≤11)∧p.still=0))
def cE (ps:List Psg) (k:Nat):Int:=(ps.getD k Psg.zero).mach
def cntM (ps:List Psg) (m:Int) (k:Nat):Int:=sm (fun j=>if cE ps j=m then 1 else 0) k
theorem Dx {ps:List Psg} {m:Int} {k:Nat}:0≤cntM ps m k:=gX fun i _=>by split <;> omega
theorem Ow {ps:List Psg} {m:Int}:∀ k,cntM ps m k≤k:=by
  intro k
  induction k with
  | zero=>exact Int.le_refl 0
  | succ k ih=>unfold cntM at ih ⊢;rw [sm];split <;> omega
theorem Fy {ps:List Psg} {m:Int} {k:Nat}:cntM ps m k=0↔∀ j,j<k→cE ps j≠m:=by
  constructor
  · intro h j hj e
    have:=mT (f:=fun j=>if cE ps j=m then 1 else 0) (fun i _=>by split <;> omega) h j hj
    simp [e] at this
  · intro h
    exact vQ fun i hi=>if_neg (h i hi)
def pasOk (P:Int) (ps:List Psg) (k:Nat):Bool:=psgOk P (ps.getD k Psg.zero)&&decide (cE ps k<0∨cntM ps (cE ps k) k=0)
def exOk (P:Int) (xs:List Int) (k:Nat):Bool:=decide (0≤xs.getD k 0∧xs.getD k 0<P∧(k=0∨xs.getD (k-1) 0<xs.getD k 0))
def stOk (P:Int) (ps:List Psg) (xs:List Int):Bool:=(decide (1≤P∧P≤10∧ps.length≤24)&&allN (pasOk P ps) ps.length)&&allN (exOk P xs) xs.length
def stE (P:Int) (ps:List Psg) (xs:List Int):Int:=if stOk P ps xs=true then 0 else 80
theorem Dy {P:Int} {ps:List Psg} {xs:List Int} (h:¬ (1≤P∧P≤10∧ps.length≤24)):stE P ps xs=80:=by
  unfold stE stOk;rw [decide_eq_false h];rfl
theorem kN {P:Int} {ps:List Psg} {xs:List Int} {k:Nat} (hk:k<ps.length) (h:pasOk P ps k=false):stE P ps xs=80:=by
  unfold stE stOk;rw [fU hk h,Bool.and_false];rfl
theorem Td {P:Int} {ps:List Psg} {xs:List Int} {k:Nat} (hk:k<xs.length) (h:exOk P xs k=false):stE P ps xs=80:=by
  unfold stE stOk;rw [fU hk h,Bool.and_false];rfl
theorem Te {P:Int} {ps:List Psg} {xs:List Int} (h1:1≤P∧P≤10∧ps.length≤24) (h2:allN (pasOk P ps) ps.length=true) (h3:allN (exOk P xs) xs.length=true):stE P ps xs=0:=by
  unfold stE stOk;rw [decide_eq_true h1,h2,h3];rfl
theorem Ox {P:Int} {ps:List Psg} {xs:List Int}:stE P ps xs=0↔stOk P ps xs=true:=by
  unfold stE;split <;> simp [*]
def CntMap (ps:List Psg) (k:Nat) (l:List (Int×Value)):Prop:=∀ m:Int,(getL l m).getD (.int .i64 0) = .int .i64 (cntM ps m k)
theorem CntMap.nil (ps:List Psg):CntMap ps 0 []:=fun m=>rfl
theorem CntMap.step {ps:List Psg} {k:Nat} {l:List (Int×Value)} (h:CntMap ps k l):CntMap ps (k+1) (setL l (cE ps k) (.int .i64 (cntM ps (cE ps k) k+1))):=by
  intro m
  rw [yC]
  unfold cntM
  rw [sm]
  by_cases e:m=cE ps k
  · subst e;rw [if_pos rfl,if_pos rfl];rfl
  · rw [if_neg e,if_neg (fun h=>e h.symm),Int.add_zero];exact h m
structure StV (P:Int) (ps:List Psg) (xs:List Int):Prop where
  size:1≤P∧P≤10∧ps.length≤24
  pas:∀ k,k<ps.length→psgOk P (ps.getD k Psg.zero)=true
  mach:∀ k,k<ps.length→0≤cE ps k→∀ j,j<k→cE ps j≠cE ps k
  ex:∀ k,k<xs.length→0≤xs.getD k 0∧xs.getD k 0<P∧(k=0∨xs.getD (k-1) 0<xs.getD k 0)
theorem oC {P:Int} {ps:List Psg} {xs:List Int} (h:stE P ps xs=0):StV P ps xs:=by
  have h1:=Ox.1 h
  unfold stOk at h1
  simp only [Bool.and_eq_true,decide_eq_true_eq] at h1
  obtain ⟨⟨h1,h2⟩,h3⟩:=h1
  refine ⟨h1,fun k hk=>?_,fun k hk h0=>?_,fun k hk=>?_⟩
  · have:=bZ.1 h2 k hk
    unfold pasOk at this
    rw [Bool.and_eq_true] at this
    exact this.1
  · have:=bZ.1 h2 k hk
    unfold pasOk at this
    simp only [Bool.and_eq_true,decide_eq_true_eq] at this
    exact Fy.1 (by omega)
  · have:=bZ.1 h3 k hk
    unfold exOk at this
    simpa using this
theorem eV {P:Int} {p:Psg}:psgOk P p=true↔(0≤p.a∧p.a<P∧0≤p.b∧p.b<P∧p.a≠p.b∧1≤p.ticks∧p.ticks≤20∧1≤p.wide∧p.wide≤50 ∧
  ((p.kind=1∨p.kind=2∨p.kind=5)∧p.mach = -1∧p.still=0∨p.kind=3∧(0≤p.mach∧p.mach≤11)∧(1≤p.still∧p.still≤20)∨p.kind=4∧(0≤p.mach∧p.mach≤11)∧p.still=0)):=by
  unfold psgOk;rw [decide_eq_true_eq]
theorem fE {P:Int} {p:Psg} (h:¬ (0≤p.a∧p.a<P∧0≤p.b∧p.b<P∧p.a≠p.b∧1≤p.ticks∧p.ticks≤20∧1≤p.wide∧p.wide≤50 ∧
  ((p.kind=1∨p.kind=2∨p.kind=5)∧p.mach = -1∧p.still=0∨p.kind=3∧(0≤p.mach∧p.mach≤11)∧(1≤p.still∧p.still≤20)∨p.kind=4∧(0≤p.mach∧p.mach≤11)∧p.still=0))):psgOk P p=false:=by
  unfold psgOk;exact decide_eq_false h
def eY (P:Int) (pe:List Int):Bool:=allN (fun k=>decide (0≤pe.getD k 0∧pe.getD k 0≤1000)) pe.length&&decide ((pe.length:Int)=P)
def iJ (P:Int) (ps:List Psg) (xs:List Int) (out:Int) (pe:List Int) (T:Int):Int:=
  if stE P ps xs≠0 then stE P ps xs else if (decide (0≤out∧out≤4095)&&eY P pe&&decide (0≤T∧T≤60))=true then 0 else 1
theorem uO {P:Int} {ps:List Psg} {xs:List Int} {out:Int} {pe:List Int} {T:Int} (h:iJ P ps xs out pe T=0):stE P ps xs=0∧(0≤out∧out≤4095)∧eY P pe=true∧(0≤T∧T≤60):=by
  unfold iJ at h
  split at h
  · omega
  · rename_i h1
    split at h
    · rename_i h2
      simp only [Bool.and_eq_true,decide_eq_true_eq] at h2
      exact ⟨by omega,h2.1.1,h2.1.2,h2.2⟩
    · cases h
theorem zA {P:Int} {pe:List Int} (h:eY P pe=true):(∀ k,k<pe.length→0≤pe.getD k 0∧pe.getD k 0≤1000)∧(pe.length:Int)=P:=by
  unfold eY at h
  simp only [Bool.and_eq_true,decide_eq_true_eq] at h
  exact ⟨fun k hk=>by simpa using bZ.1 h.1 k hk,h.2⟩
section
variable {T:Tab} {f t k:Nat} {room:Int} {mv:Mv}
end
def capJ (S:Nat→Bool):List Jn→Int
  | []=>0
  | j::J=>(if S j.f=true∧S j.t=false then j.room else 0)+capJ S J
section
variable {P T:Nat} {pe xs:List Int} {hs:List Hd}
end
def layT (P T:Nat) (pe xs:List Int) (hs:List Hd):Tab:=joins (jAll P T pe xs hs)
def layN (P T:Nat) (pe xs:List Int) (hs:List Hd):Net:=(layT P T pe xs hs).net (P*(T+1)+2)
structure LayOk (P T:Nat) (pe xs:List Int) (hs:List Hd):Prop where
  wf:(layN P T pe xs hs).Wf
  ok:Ok (layN P T pe xs hs) (layT P T pe xs hs).room 2199023255552
  cap:∀ S,resid (layN P T pe xs hs) (layT P T pe xs hs).room S=capJ S (jAll P T pe xs hs)
  beg:resid (layN P T pe xs hs) (layT P T pe xs hs).room (fun v=>decide (v=P*(T+1)))≤1000*P
structure EndP (P T:Nat) (pe xs:List Int) (hs:List Hd) (v:Int) (r:RM) (L:Nat→Int):Prop where
  fl:Fl (layN P T pe xs hs) (layT P T pe xs hs).room r (P*(T+1)) (P*(T+1)+1) v
  nn:0≤v
  lev:LevOk (layN P T pe xs hs) r (P*(T+1)) L
  full:L (P*(T+1)+1)<0
def fstB (f:Nat→Bool):Nat→Nat
  | 0=>0
  | n+1=>if fstB f n<n then fstB f n else if f n=true then n else n+1
theorem lM {f:Nat→Bool}:∀ {n},(∀ q,q<n→f q=false)→fstB f n=n:=by
  intro n
  induction n with
  | zero=>intro _;rfl
  | succ n ih=>intro h;rw [fstB,ih (fun q hq=>h q (by omega)),if_neg (by omega),if_neg (by rw [h n (by omega)];simp)]
theorem Ko {f:Nat→Bool} {t:Nat} (h1:∀ q,q<t→f q=false) (h2:f t=true):∀ {n},t<n→fstB f n=t:=by
  intro n
  induction n with
  | zero=>intro h;omega
  | succ n ih=>
    intro h
    by_cases e:t=n
    · subst e;rw [fstB,lM h1,if_neg (by omega),if_pos h2]
    · rw [fstB,ih (by omega),if_pos (by omega)]
def sumI (l:List Int):Nat→Int:=sm (fun k=>l.getD k 0)
theorem sN {N:Net} {r:RM} {S:Nat→Bool} (hn:∀ i,i<N.k→∀ j,j<N.n i→0≤r i j) (h:resid N r S=0):∀ u,u<N.k→S u=true→∀ j,j<N.n u→0<r u j→S (N.to u j)=true:=by
  intro u hu hS j hj hr
  have h1:=mT (f:=fun i=>sm (fun j=>if S i=true∧S (N.to i j)=false then r i j else 0) (N.n i)) (fun i hi=>gX fun j hj=>by split;exact hn i hi j hj;exact Int.le_refl _) h u hu
  have h2:=mT (f:=fun j=>if S u=true∧S (N.to u j)=false then r u j else 0) (fun j hj=>by split;exact hn u hu j hj;exact Int.le_refl _) h1 j hj
  cases hs:S (N.to u j) with
  | true=>rfl
  | false=>
    skip
    rw [if_pos ⟨hS,hs⟩] at h2
    omega
def fO (L:Nat→Int) (v:Nat):Bool:=decide (0≤L v)
section
variable {P T:Nat} {pe xs:List Int} {hs:List Hd} {v v':Int} {r r':RM} {L L':Nat→Int}
theorem wQ {S:Nat→Bool} (hb:S (P*(T+1))=true) (hx:S (P*(T+1)+1)=false):ind S (P*(T+1))-ind S (P*(T+1)+1)=1:=by
  unfold ind;rw [hb,hx];rfl
theorem EndP.bound (O:LayOk P T pe xs hs) (h:EndP P T pe xs hs v r L) {S:Nat→Bool} (hb:S (P*(T+1))=true) (hx:S (P*(T+1)+1)=false):v≤capJ S (jAll P T pe xs hs):=by
  have h1:=rL (S:=S) (h.fl.ok O.ok)
  rw [h.fl.cut,O.cap,wQ hb hx] at h1
  omega
theorem EndP.at_reach (O:LayOk P T pe xs hs) (h:EndP P T pe xs hs v r L):fO L (P*(T+1))=true∧fO L (P*(T+1)+1)=false∧capJ (fO L) (jAll P T pe xs hs)=v:=by
  have hb:fO L (P*(T+1))=true:=by unfold fO;rw [h.lev.b0];rfl
  have hx:fO L (P*(T+1)+1)=false:=by unfold fO;rw [decide_eq_false_iff_not];have:=h.full;omega
  refine ⟨hb,hx,?_⟩
  have h0:resid (layN P T pe xs hs) r (fO L)=0:=vQ fun i hi=>vQ fun j hj=>by
    split
    · rename_i hc
      obtain ⟨h1,h2⟩:=hc
      unfold fO at h1 h2
      simp only [decide_eq_true_eq,decide_eq_false_iff_not] at h1 h2
      have h3:=h.fl.nn i hi j hj
      by_cases h4:0<r i j
      · exact absurd (h.lev.cl i hi h1 j hj h4) h2
      · omega
    · rfl
  rw [h.fl.cut,O.cap,wQ hb hx] at h0
  omega
theorem EndP.unique (O:LayOk P T pe xs hs) (h:EndP P T pe xs hs v r L) (h':EndP P T pe xs hs v' r' L'):v=v':=by
  obtain ⟨a1,a2,a3⟩:=h.at_reach O
  obtain ⟨b1,b2,b3⟩:=h'.at_reach O
  have h1:=h.bound O b1 b2
  have h2:=h'.bound O a1 a2
  omega
theorem EndP.inside (O:LayOk P T pe xs hs) (h:EndP P T pe xs hs v r L) {S:Nat→Bool} (hb:S (P*(T+1))=true) (hx:S (P*(T+1)+1)=false) (hc:capJ S (jAll P T pe xs hs)=v):∀ u,u<P*(T+1)+2→0≤L u→S u=true:=by
  have h0:resid (layN P T pe xs hs) r S=0:=by rw [h.fl.cut,O.cap,wQ hb hx];omega
  exact h.lev.least hb (sN h.fl.nn h0)
theorem EndP.same (O:LayOk P T pe xs hs) (h:EndP P T pe xs hs v r L) (h':EndP P T pe xs hs v' r' L'):∀ u,u<P*(T+1)+2→fO L u=fO L' u:=by
  have e:=h.unique O h'
  obtain ⟨a1,a2,a3⟩:=h.at_reach O
  obtain ⟨b1,b2,b3⟩:=h'.at_reach O
  intro u hu
  have h1:=h.inside O b1 b2 (by omega) u hu
  have h2:=h'.inside O a1 a2 (by omega) u hu
  unfold fO at h1 h2 ⊢
  exact decide_eq_decide.2 ⟨fun h=>of_decide_eq_true (h1 h),fun h=>of_decide_eq_true (h2 h)⟩
end
open Classical in
noncomputable def mfv (P T:Nat) (pe xs:List Int) (hs:List Hd):Int:=if h:∃ v,∃ r L,EndP P T pe xs hs v r L then Classical.choose h else 0
section
variable {P T:Nat} {pe xs:List Int} {hs:List Hd} {v:Int} {r:RM} {L:Nat→Int}
end
def opn (out:Int) (help:Bool) (p:Psg):Bool:=(decide (p.kind=1)||(decide (p.kind=4)&&decide (bitI out p.mach=0)))||(decide (p.kind=5)&&help)
theorem Kp {out:Int} {help:Bool} {p:Psg} (h:(p.kind=1∨p.kind=4∧out/2^p.mach.toNat%2=0)∨p.kind=5∧help=true):opn out help p=true:=by
  unfold opn bitI
  simp only [Bool.or_eq_true,Bool.and_eq_true,decide_eq_true_eq]
  exact h
theorem Xq {out:Int} {help:Bool} {p:Psg} (h:(¬p.kind=1∧(¬p.kind=4∨¬out/2^p.mach.toNat%2=0))∧(¬p.kind=5∨help=false)):opn out help p=false:=by
  unfold opn bitI
  simp only [Bool.or_eq_false_iff,Bool.and_eq_false_iff,decide_eq_false_iff_not]
  exact h
def othr (p:Psg) (a:Int):Int:=if p.a=a then p.b else if p.b=a then p.a else -1
def oth (out:Int) (help:Bool) (p:Psg) (a:Int):Int:=if opn out help p=false then -1 else othr p a
inductive Wk (ps:List Psg) (out:Int) (help:Bool):Nat→Nat→Nat→List Nat→Prop
  | nil (a:Nat):Wk ps out help a a 0 []
  | cons {a b c n k:Nat} {l:List Nat} (hk:k<ps.length) (ho:oth out help (ps.getD k Psg.zero) a=(b:Int)) (h:Wk ps out help b c n l):Wk ps out help a c ((ps.getD k Psg.zero).ticks.toNat+n) (k::l)
def PsV (P:Nat) (ps:List Psg):Prop:=∀ k,k<ps.length→(0≤(ps.getD k Psg.zero).a∧(ps.getD k Psg.zero).a<P)∧(0≤(ps.getD k Psg.zero).b∧(ps.getD k Psg.zero).b<P)∧1≤(ps.getD k Psg.zero).ticks∧(ps.getD k Psg.zero).ticks≤20
theorem StV.psv {P:Nat} {ps:List Psg} {xs:List Int} (h:StV P ps xs):PsV P ps:=fun k hk=>by
  have:=eV.1 (h.pas k hk)
  omega
theorem sQ {P:Nat} {ps:List Psg} (V:PsV P ps) {out:Int} {help:Bool} {k:Nat} (hk:k<ps.length) {a:Int} (h:0≤oth out help (ps.getD k Psg.zero) a):opn out help (ps.getD k Psg.zero)=true∧oth out help (ps.getD k Psg.zero) a<P∧((ps.getD k Psg.zero).a=a∧oth out help (ps.getD k Psg.zero) a=(ps.getD k Psg.zero).b∨(ps.getD k Psg.zero).b=a∧oth out help (ps.getD k Psg.zero) a=(ps.getD k Psg.zero).a):=by
  have:=V k hk
  unfold oth othr at h ⊢
  split at h
  · omega
  · rename_i h1
    refine ⟨by simpa using h1,?_⟩
    rw [if_neg h1]
    split at h
    · rename_i h2;rw [if_pos h2];exact ⟨by omega,.inl ⟨h2,rfl⟩⟩
    · rename_i h2
      rw [if_neg h2]
      split at h
      · rename_i h3;rw [if_pos h3];exact ⟨by omega,.inr ⟨h3,rfl⟩⟩
      · omega
def FixAt (ps:List Psg) (out:Int) (help:Bool) (tk:Nat→Int) (i k:Nat):Prop:=∀ b:Nat,oth out help (ps.getD k Psg.zero) i=(b:Int)→0≤tk b→0≤tk i∧tk i≤tk b+(ps.getD k Psg.zero).ticks
def potF (P:Nat) (tk:Nat→Int):Int:=sm (fun i=>if tk i<0 then 1000 else tk i) P
def cntF (P:Nat) (tk:Nat→Int):Int:=sm (fun i=>if tk i<0 then 0 else 1) P
structure FarI (P:Nat) (ps:List Psg) (out:Int) (help:Bool) (to:Nat) (tk:Nat→Int):Prop where
  to0:tk to=0
  low:∀ i,-1≤tk i
  walk:∀ i,i<P→0≤tk i→∃ l,Wk ps out help i to (tk i).toNat l
  bd:∀ i,i<P→tk i≤20*(cntF P tk-1)
theorem Oy {P:Nat} {tk:Nat→Int}:cntF P tk≤P:=by
  unfold cntF
  induction P with
  | zero=>exact Int.le_refl 0
  | succ n ih=>rw [sm];split <;> omega
theorem Dz {P:Nat} {tk:Nat→Int}:0≤potF P tk:=gX fun i _=>by split <;> omega
def tk0 (to:Nat) (i:Nat):Int:=if i=to then 0 else -1
section
variable {P:Nat} {ps:List Psg} {out:Int} {help:Bool} {to:Nat} {tk:Nat→Int}
theorem FarI.init (hto:to<P):FarI P ps out help to (tk0 to):=by
  have h1:tk0 to to=0:=by unfold tk0;rw [if_pos rfl]
  have hc:1≤cntF P (tk0 to):=by
    have:=Ti (f:=fun i=>if tk0 to i<0 then 0 else 1) (fun i _=>by split <;> omega) hto
    rw [h1] at this
    exact this
  refine ⟨h1,fun i=>?_,fun i _ h0=>?_,fun i _=>?_⟩
  · unfold tk0;split <;> omega
  · unfold tk0 at h0 ⊢
    split at h0
    · rename_i e;subst e;rw [if_pos rfl];exact ⟨_,Wk.nil _⟩
    · omega
  · unfold tk0 at hc ⊢;split <;> omega
theorem FarI.small (I:FarI P ps out help to tk) (hP:P≤10) {i:Nat} (hi:i<P):tk i≤180:=by
  have:=I.bd i hi
  have:=Oy (P:=P) (tk:=tk)
  omega
theorem FarI.relax (I:FarI P ps out help to tk) (V:PsV P ps) {i b k:Nat} (hi:i<P) (hb:b<P) (hk:k<ps.length) (ho:oth out help (ps.getD k Psg.zero) i=(b:Int)) (h0:0≤tk b) (hl:tk i<0∨tk b+(ps.getD k Psg.zero).ticks<tk i) :
    FarI P ps out help to (upd tk i (tk b+(ps.getD k Psg.zero).ticks))∧potF P (upd tk i (tk b+(ps.getD k Psg.zero).ticks))+1≤potF P tk∨900<tk b+(ps.getD k Psg.zero).ticks:=by
  by_cases hbig:900<tk b+(ps.getD k Psg.zero).ticks
  · exact .inr hbig
  refine .inl ?_
  have ht:1≤(ps.getD k Psg.zero).ticks∧(ps.getD k Psg.zero).ticks≤20:=(V k hk).2.2
  have hti:i≠to:=fun e=>by subst e;have:=I.to0;omega
  have hbi:b≠i:=fun e=>by subst e;omega
  have hc:cntF P (upd tk i (tk b+(ps.getD k Psg.zero).ticks))=cntF P tk+(if tk i<0 then 1 else 0):=by
    unfold cntF
    rw [rK (f:=fun i=>if tk i<0 then 0 else 1) hi (fun j _ hj=>by rw [fH _ _ hj]),eH,if_neg (by omega)]
    split <;> omega
  refine ⟨⟨by rw [fH _ _ (fun e=>hti e.symm)];exact I.to0,fun j=>?_,fun j hj h=>?_,fun j hj=>?_⟩,?_⟩
  · by_cases e:j=i
    · subst e;rw [eH];omega
    · rw [fH _ _ e];exact I.low j
  · by_cases e:j=i
    · subst e
      rw [eH]
      obtain ⟨l,hw⟩:=I.walk b hb h0
      have:=Wk.cons hk ho hw
      rw [show (tk b+(ps.getD k Psg.zero).ticks).toNat=(ps.getD k Psg.zero).ticks.toNat+(tk b).toNat by omega]
      exact ⟨_,this⟩
    · rw [fH _ _ e] at h ⊢;exact I.walk j hj h
  · rw [hc]
    have hbb:=I.bd b hb
    by_cases e:j=i
    · subst e
      rw [eH]
      have:=I.bd j hj
      split <;> omega
    · rw [fH _ _ e];have:=I.bd j hj;split <;> omega
  · unfold potF
    rw [rK (f:=fun i=>if tk i<0 then 1000 else tk i) hi (fun j _ hj=>by rw [fH _ _ hj]),eH,if_neg (by omega)]
    split <;> omega
theorem FarI.step (I:FarI P ps out help to tk) (V:PsV P ps) (hP:P≤10) {i b k:Nat} (hi:i<P) (hb:b<P) (hk:k<ps.length) (ho:oth out help (ps.getD k Psg.zero) i=(b:Int)) (h0:0≤tk b) (hl:tk i<0∨tk b+(ps.getD k Psg.zero).ticks<tk i) :
    FarI P ps out help to (upd tk i (tk b+(ps.getD k Psg.zero).ticks))∧potF P (upd tk i (tk b+(ps.getD k Psg.zero).ticks))+1≤potF P tk:=by
  rcases I.relax V hi hb hk ho h0 hl with h|h
  · exact h
  · exfalso
    have:=I.small hP hb
    have:(ps.getD k Psg.zero).ticks≤20:=(V k hk).2.2.2
    omega
end
theorem sR {ps:List Psg} {out:Int} {help:Bool} {tk:Nat→Int} {i k:Nat} (h:oth out help (ps.getD k Psg.zero) i<0∨tk (oth out help (ps.getD k Psg.zero) i).toNat<0∨(0≤tk i∧tk i≤tk (oth out help (ps.getD k Psg.zero) i).toNat+(ps.getD k Psg.zero).ticks)):FixAt ps out help tk i k:=fun b hb h0=>by
  rw [hb,Int.toNat_natCast] at h
  omega
def b2i (b:Bool):Int:=if b=true then 1 else 0
theorem wR {P:Nat} {ps:List Psg} {out:Int} {help:Bool} {tk:Nat→Int} {m:Bool} {f k:Nat} (h:m=false→(∀ i,i<f→∀ k,k<ps.length→FixAt ps out help tk i k)∧∀ q,q<k→FixAt ps out help tk f q) (hk:FixAt ps out help tk f k) :
    m=false→(∀ i,i<f→∀ k,k<ps.length→FixAt ps out help tk i k)∧∀ q,q<k+1→FixAt ps out help tk f q:=fun e=>⟨(h e).1,fun q hq=>by
  by_cases e2:q=k
  · subst e2;exact hk
  · exact (h e).2 q (by omega)⟩
theorem Um {P:Nat} {ps:List Psg} {out:Int} {help:Bool} {tk:Nat→Int} {m:Bool} {f k:Nat} (hk:ps.length≤k) (h:m=false→(∀ i,i<f→∀ k,k<ps.length→FixAt ps out help tk i k)∧∀ q,q<k→FixAt ps out help tk f q) :
    m=false→∀ i,i<f+1→∀ k,k<ps.length→FixAt ps out help tk i k:=fun e i hi q hq=>by
  by_cases e2:i=f
  · subst e2;exact (h e).2 q (by omega)
  · exact (h e).1 i (by omega) q hq
theorem FarI.up {P:Nat} {ps:List Psg} {out:Int} {help:Bool} {to:Nat} {tk:Nat→Int} (I:FarI P ps out help to tk) (V:PsV P ps) (hP:P≤10) {i k:Nat} {X:Int} {m:Bool} {Q:Prop} (hi:i<P) (hk:k<ps.length) (ho:0≤oth out help (ps.getD k Psg.zero) i) (hb:oth out help (ps.getD k Psg.zero) i<P) (h0:0≤tk (oth out help (ps.getD k Psg.zero) i).toNat)
    (hl:tk i<0∨tk (oth out help (ps.getD k Psg.zero) i).toNat+(ps.getD k Psg.zero).ticks<tk i) (hp:potF P tk+b2i m≤X) :
    FarI P ps out help to (upd tk i (tk (oth out help (ps.getD k Psg.zero) i).toNat+(ps.getD k Psg.zero).ticks))∧potF P (upd tk i (tk (oth out help (ps.getD k Psg.zero) i).toNat+(ps.getD k Psg.zero).ticks))+b2i true≤X∧(true=false→Q):=by
  have h:=I.step V hP hi (b:=(oth out help (ps.getD k Psg.zero) i).toNat) (by omega) hk (by omega) h0 hl
  have h8:b2i true=1:=rfl
  have h9:0≤b2i m:=by unfold b2i;split <;> omega
  exact ⟨h.1,by omega,fun e=>by cases e⟩
structure FarOk (P:Nat) (ps:List Psg) (out:Int) (help:Bool) (to:Nat) (tk:Nat→Int):Prop where
  to0:tk to=0
  low:∀ i,-1≤tk i
  walk:∀ i,i<P→0≤tk i→∃ l,Wk ps out help i to (tk i).toNat l
  fix:∀ i,i<P→∀ k,k<ps.length→FixAt ps out help tk i k
  sml:∀ i,i<P→tk i≤200
section
variable {P:Nat} {ps:List Psg} {out:Int} {help:Bool} {to:Nat} {tk tk':Nat→Int}
theorem FarI.done (I:FarI P ps out help to tk) (hP:P≤10) (h:∀ i,i<P→∀ k,k<ps.length→FixAt ps out help tk i k):FarOk P ps out help to tk:=
  ⟨I.to0,I.low,I.walk,h,fun i hi=>by have:=I.small hP hi;omega⟩
theorem FarOk.least (h:FarOk P ps out help to tk) (V:PsV P ps) {a c n:Nat} {l:List Nat} (W:Wk ps out help a c n l):a<P→c=to→0≤tk a∧tk a≤n:=by
  induction W with
  | nil a=>intro _ e;subst e;rw [h.to0];exact ⟨Int.le_refl 0,Int.le_refl 0⟩
  | @cons a b c n k l hk ho _ ih=>
    intro ha e
    have hb:=(sQ V hk (a:=(a:Int)) (by rw [ho];omega)).2.1
    rw [ho] at hb
    have h1:=ih (by omega) e
    have h2:=h.fix a ha k hk b ho h1.1
    have:=(V k hk).2.2
    omega
theorem FarOk.unique (h:FarOk P ps out help to tk) (h':FarOk P ps out help to tk') (V:PsV P ps) {i:Nat} (hi:i<P):tk i=tk' i:=by
  have key:∀ {t t':Nat→Int},FarOk P ps out help to t→FarOk P ps out help to t'→0≤t i→0≤t' i∧t' i≤t i:=fun {t t'} H H' h0=>by
    obtain ⟨l,W⟩:=H.walk i hi h0
    have:=H'.least V W hi rfl
    omega
  have l1:=h.low i
  have l2:=h'.low i
  by_cases h0:0≤tk i
  · have h1:=key h h' h0
    have h2:=key h' h h1.1
    omega
  · by_cases h1:0≤tk' i
    · have:=key h' h h1;omega
    · omega
end
open Classical in
noncomputable def dst (P:Nat) (ps:List Psg) (out:Int) (help:Bool) (to:Nat) (i:Nat):Int:=if h:∃ tk,FarOk P ps out help to tk then (if i<P then Classical.choose h i else -1) else 0
section
variable {P:Nat} {ps:List Psg} {out:Int} {help:Bool} {to:Nat} {tk:Nat→Int}
theorem nA (V:PsV P ps) (h:FarOk P ps out help to tk) {i:Nat} (hi:i<P):dst P ps out help to i=tk i:=by
  have he:∃ tk,FarOk P ps out help to tk:=⟨tk,h⟩
  unfold dst
  rw [dif_pos he,if_pos hi]
  exact (Classical.choose_spec he).unique h V hi
theorem Un (V:PsV P ps) (hto:to<P) (h:FarOk P ps out help to tk):FarOk P ps out help to (dst P ps out help to):=by
  have he:∃ tk,FarOk P ps out help to tk:=⟨tk,h⟩
  have hd:∀ i,¬ i<P→dst P ps out help to i = -1:=fun i hi=>by unfold dst;rw [dif_pos he,if_neg hi]
  refine ⟨(nA V h hto).trans h.to0,fun i=>?_,fun i hi=>?_,fun i hi k hk b hb h0=>?_,fun i hi=>?_⟩
  · by_cases hi:i<P
    · rw [nA V h hi];exact h.low i
    · rw [hd i hi];omega
  · rw [nA V h hi];exact h.walk i hi
  · have hb2:=(sQ V hk (a:=(i:Int)) (by rw [hb];omega)).2.1
    rw [hb] at hb2
    rw [nA V h (i:=b) (by omega)] at h0 ⊢
    rw [nA V h hi]
    exact h.fix i hi k hk b hb h0
  · rw [nA V h hi];exact h.sml i hi
end
def stepB (ps:List Psg) (out:Int) (help:Bool) (d:Nat→Int) (at_ k:Nat):Bool:=
  decide (0≤oth out help (ps.getD k Psg.zero) at_)&&(decide (0≤d (oth out help (ps.getD k Psg.zero) at_).toNat)&&decide (d (oth out help (ps.getD k Psg.zero) at_).toNat+(ps.getD k Psg.zero).ticks=d at_))
def stepK (ps:List Psg) (out:Int) (help:Bool) (d:Nat→Int) (at_:Nat):Nat:=fstB (stepB ps out help d at_) ps.length
def wayG (ps:List Psg) (out:Int) (help:Bool) (d:Nat→Int) (to:Nat):Nat→Nat→List Nat
  | 0,_=>[]
  | g+1,a=>if a=to then [] else stepK ps out help d a::wayG ps out help d to g (oth out help (ps.getD (stepK ps out help d a) Psg.zero) a).toNat
section
variable {P:Nat} {ps:List Psg} {out:Int} {help:Bool} {to:Nat} {d:Nat→Int}
theorem Ea {g:Nat}:wayG ps out help d to g to=[]:=by
  cases g with
  | zero=>rfl
  | succ g=>unfold wayG;rw [if_pos rfl]
theorem Eb (V:PsV P ps) {a k:Nat} (hk:k<ps.length) (h:stepB ps out help d a k=true):∃ b:Nat,oth out help (ps.getD k Psg.zero) a=(b:Int)∧b<P∧0≤d b∧d b+(ps.getD k Psg.zero).ticks=d a∧1≤(ps.getD k Psg.zero).ticks:=by
  unfold stepB at h
  simp only [Bool.and_eq_true,decide_eq_true_eq] at h
  have h1:=sQ V hk h.1
  have hV:=(V k hk).2.2
  exact ⟨(oth out help (ps.getD k Psg.zero) a).toNat,by omega,by omega,h.2.1,h.2.2,hV.1⟩
theorem FarOk.step_ex (h:FarOk P ps out help to d) (V:PsV P ps) {a:Nat} (ha:a<P) (h0:0≤d a) (hne:a≠to):∃ k,k<ps.length∧stepB ps out help d a k=true:=by
  obtain ⟨l,W⟩:=h.walk a ha h0
  generalize hn:(d a).toNat=n at W
  cases W with
  | nil=>exact absurd rfl hne
  | @cons _ b _ n2 k l2 hk ho W2=>
    have hb:=(sQ V hk (a:=(a:Int)) (by rw [ho];omega)).2.1
    rw [ho] at hb
    have h1:=h.least V W2 (by omega) rfl
    have h2:=h.fix a ha k hk b ho h1.1
    have:=(V k hk).2.2
    refine ⟨k,hk,?_⟩
    unfold stepB
    simp only [Bool.and_eq_true,decide_eq_true_eq]
    rw [ho,Int.toNat_natCast]
    omega
theorem FarOk.stp (h:FarOk P ps out help to d) (V:PsV P ps) {a:Nat} (ha:a<P) (h0:0≤d a) (hne:a≠to):stepK ps out help d a<ps.length∧stepB ps out help d a (stepK ps out help d a)=true∧∀ q,q<stepK ps out help d a→stepB ps out help d a q=false:=by
  obtain ⟨k,hk,hs⟩:=h.step_ex V ha h0 hne
  have key:∀ n,(∃ k,k<n∧stepB ps out help d a k=true)→fstB (stepB ps out help d a) n<n∧stepB ps out help d a (fstB (stepB ps out help d a) n)=true∧∀ q,q<fstB (stepB ps out help d a) n→stepB ps out help d a q=false:=by
    intro n
    induction n with
    | zero=>rintro ⟨k,hk,_⟩;omega
    | succ n ih=>
      rintro ⟨k,hk,hs⟩
      by_cases he:∃ k,k<n∧stepB ps out help d a k=true
      · obtain ⟨h1,h2,h3⟩:=ih he
        rw [fstB,if_pos h1]
        exact ⟨by omega,h2,h3⟩
      · have hno:∀ q,q<n→stepB ps out help d a q=false:=fun q hq=>by
          cases hb:stepB ps out help d a q with
          | false=>rfl
          | true=>exact absurd ⟨q,hq,hb⟩ he
        have hkn:k=n:=by
          by_cases e:k<n
          · exact absurd ⟨k,e,hs⟩ he
          · omega
        subst hkn
        rw [fstB,lM hno,if_neg (by omega),if_pos hs]
        exact ⟨by omega,hs,hno⟩
  exact key _ ⟨k,hk,hs⟩
theorem Fz {a k g:Nat} (hne:a≠to) (h:stepK ps out help d a=k):wayG ps out help d to (g+1) a=k::wayG ps out help d to g (oth out help (ps.getD k Psg.zero) a).toNat:=by
  rw [wayG,if_neg hne,h]
theorem FarOk.way (h:FarOk P ps out help to d) (V:PsV P ps):∀ (g a:Nat),a<P→0≤d a→d a≤g→Wk ps out help a to (d a).toNat (wayG ps out help d to g a):=by
  intro g
  induction g with
  | zero=>
    intro a ha h0 hg
    by_cases e:a=to
    · subst e;rw [Ea,h.to0];exact Wk.nil _
    · obtain ⟨h1,h2,h3⟩:=h.stp V ha h0 e
      obtain ⟨b,hb,hbP,hb0,hbd,hbt⟩:=Eb V h1 h2
      omega
  | succ g ih=>
    intro a ha h0 hg
    by_cases e:a=to
    · subst e;rw [Ea,h.to0];exact Wk.nil _
    · obtain ⟨h1,h2,h3⟩:=h.stp V ha h0 e
      obtain ⟨b,hb,hbP,hb0,hbd,hbt⟩:=Eb V h1 h2
      rw [Fz e rfl,hb,Int.toNat_natCast]
      have:=Wk.cons h1 hb (ih b hbP hb0 (by omega))
      rw [show (d a).toNat=(ps.getD (stepK ps out help d a) Psg.zero).ticks.toNat+(d b).toNat by omega]
      exact this
end
def plOk (P:Int) (l:List Int):Bool:=allN (fun k=>decide (0≤l.getD k 0∧l.getD k 0≤P-1)) l.length
theorem Bp {P:Int} {l:List Int} {k:Nat} (hk:k<l.length) (h:¬ (0≤l.getD k 0∧l.getD k 0≤P-1)):plOk P l=false:=fU hk (decide_eq_false h)
theorem Ga {x y:Int}:∀ k j,k<2→j<1→([[Value.int .i64 x],[Value.int .i64 y]].getD k []).getD j undef=icl [x,y] k j:=by
  intro k j hk hj
  have:j=0:=by omega
  subst this
  match k,hk with
  | 0,_=>rfl
  | 1,_=>rfl
section
variable {ps:List Psg} {out:Int} {help:Bool} {d:Nat→Int} {p:Nat} {k:Nat}
theorem Ec {q:Psg} {a:Int} (h:opn out help q=true):oth out help q a=othr q a:=by unfold oth;rw [if_neg (by rw [h];simp)]
theorem Kq {q:Psg} {a:Int} (h:opn out help q=false):oth out help q a = -1:=by unfold oth;rw [if_pos h]
end
section
variable {ps:List Psg} {out kind:Int}
end
theorem Wk.mono' {ps:List Psg} {out out':Int} {help help':Bool} {a c n:Nat} {l:List Nat} (W:Wk ps out help a c n l):(∀ k,k ∈ l→k<ps.length→opn out help (ps.getD k Psg.zero)=true→opn out' help' (ps.getD k Psg.zero)=true)→Wk ps out' help' a c n l:=by
  induction W with
  | nil a=>exact fun _ => .nil a
  | @cons a b c n k l hk ho _ ih=>
    intro h
    have ho1:opn out help (ps.getD k Psg.zero)=true:=by
      cases hb:opn out help (ps.getD k Psg.zero) with
      | true=>rfl
      | false=>rw [Kq hb] at ho;omega
    refine .cons hk ?_ (ih fun q hq=>h q (List.mem_cons_of_mem _ hq))
    rw [Ec (h k (List.mem_cons_self ..) hk ho1),←Ec ho1]
    exact ho
theorem Wk.mono {ps:List Psg} {out out':Int} {help help':Bool} (h:∀ k,k<ps.length→opn out help (ps.getD k Psg.zero)=true→opn out' help' (ps.getD k Psg.zero)=true) {a c n:Nat} {l:List Nat} (W:Wk ps out help a c n l):Wk ps out' help' a c n l:=W.mono' fun k _=>h k
end
end Go.Proofs.YtinghmelkmblmaaGreat
