/- Part 4 of the proof. -/
import Derived.Test.YtopmadlgolnmfaaGreatQcc
namespace Go.Proofs.YtopmadlgolnmfaaGreat
open Go.RowKit
set_option linter.unusedVariables false
set_option linter.unusedSimpArgs false
set_option maxRecDepth 100000
set_option maxHeartbeats 4000000
section
def enc2 (k:Int×Int):Value := .agg #[.int .i64 k.1,.int .i64 k.2]
section
variable {P:Program} {w:World} {kt e:TypeId}
theorem mB (h1:One P e) {cs:Array Value} {i:Nat} {v:Value} (h:cs[i]?=some v):(part e cs i).run P w = .ok v w:=by
  have:(isAgg e).run P w = .ok false w:=by
    unfold One lF at h1
    unfold isAgg
    cases hu:P.underlying e with
    | none=>rw [hu] at h1;simp at h1
    | some d=>rw [hu] at h1;simp only [Sem.run_bind,cL hu,Result.andThen_ok];cases d <;> simp_all
  simp [part,this,h]
theorem Rs (hs:Sz P e 1):(sizeOf e).run P w = .ok 1 w:=by
  unfold Sz at hs
  cases hi:P.info? e with
  | none=>rw [hi] at hs;simp at hs
  | some i=>rw [hi] at hs;simp at hs;simp [sizeOf,typeInfo,hi,hs]
theorem Jh (he:P.underlying e=some (.int .i64)) (d:Nat) (a b:Int):(Op.equalIn (d+1) e (.int .i64 a) (.int .i64 b)).run P w = .ok (a == b) w:=by
  simp [Op.equalIn,cL he]
theorem Xe (hk:P.underlying kt=some (.array 2 e)) (he:P.underlying e=some (.int .i64)) (h1:One P e) (hs:Sz P e 1) (d:Nat) (k k':Int×Int):(Op.equalIn (d+2) kt (enc2 k) (enc2 k')).run P w = .ok (decide (k=k')) w:=by
  obtain ⟨a,b⟩:=k
  obtain ⟨a',b'⟩:=k'
  have p0:∀ x y:Int,(part e #[.int .i64 x,.int .i64 y] 0).run P w = .ok (.int .i64 x) w:=fun x y=>mB h1 rfl
  have p1:∀ x y:Int,(part e #[.int .i64 x,.int .i64 y] 1).run P w = .ok (.int .i64 y) w:=fun x y=>mB h1 rfl
  unfold enc2
  rw [Op.equalIn]
  simp [cL hk,Rs hs,p0,p1,Jh he,Std.Legacy.Range.forIn_eq_forIn_range',Std.Legacy.Range.size,List.range']
  by_cases h:a=a' <;> by_cases h2:b=b' <;> simp [h,h2]
theorem Ji (he:P.underlying e=some (.int .i64)) (m:Bool) (n:Nat) (a:Int):(Instr.checkKey m (n+1) e (.int .i64 a)).run P w = .ok () w:=by
  rw [Instr.checkKey]
  simp only [Sem.run_bind,cL he,Result.andThen_ok]
  rfl
theorem Xf (hk:P.underlying kt=some (.array 2 e)) (he:P.underlying e=some (.int .i64)) (h1:One P e) (hs:Sz P e 1) (m:Bool) (n:Nat) (k:Int×Int):(Instr.checkKey m (n+2) kt (enc2 k)).run P w = .ok () w:=by
  have p0:∀ x y:Int,(part e #[.int .i64 x,.int .i64 y] 0).run P w = .ok (.int .i64 x) w:=fun x y=>mB h1 rfl
  have p1:∀ x y:Int,(part e #[.int .i64 x,.int .i64 y] 1).run P w = .ok (.int .i64 y) w:=fun x y=>mB h1 rfl
  unfold enc2
  rw [Instr.checkKey]
  simp [cL hk,Rs hs,p0,p1,Ji he,Std.Legacy.Range.forIn_eq_forIn_range',Std.Legacy.Range.size,List.range']
theorem Jj {κ:Type} [DecidableEq κ] {enc:κ→Value} (heq:∀ (k k':κ) (w:World),(Op.equal kt (enc k) (enc k')).run P w = .ok (decide (k=k')) w) (k:κ):∀ (l:List (κ×Value)) (es:List MapEntry) (i:Nat),es.map (fun e=>(e.key,e.val))=l.map (fun p=>(enc p.1,p.2))→(Instr.findAsking kt (enc k) es i).run P w = .ok (findL k l i) w:=by
  intro l
  induction l with
  | nil=>
    intro es i he
    have:es=[]:=by simpa using he
    subst this
    rfl
  | cons p l ih=>
    intro es i he
    cases es with
    | nil=>simp at he
    | cons x es=>
      simp only [List.map_cons,List.cons.injEq,Prod.mk.injEq] at he
      obtain ⟨⟨g1,g2⟩,g3⟩:=he
      rw [Instr.findAsking,g1]
      simp only [Sem.run_bind,heq,Result.andThen_ok,findL]
      by_cases hk:k=p.1
      · rw [if_pos hk,decide_eq_true hk,g2];rfl
      · rw [if_neg hk,decide_eq_false hk]
        exact ih es (i+1) g3
theorem Lx {κ:Type} [DecidableEq κ] {enc:κ→Value} {n:Nat} (hk:P.underlying kt=some (.array n e)) (heq:∀ (k k':κ) (w:World),(Op.equal kt (enc k) (enc k')).run P w = .ok (decide (k=k')) w)
    (hck:∀ (m:Bool) (k:κ) (w:World),(Instr.checkKey m 10000 kt (enc k)).run P w = .ok () w) (hb:∀ k:κ,Instr.sameBits 10000 (enc k) (enc k)=true):KeyOk P kt enc:=by
  refine ⟨fun l k es w he=>?_,hck,hb⟩
  rw [run_findKey_eq w (by rw [hk])]
  exact Jj heq k l es 0 he
theorem Gw (hk:P.underlying kt=some (.array 2 e)) (he:P.underlying e=some (.int .i64)) (h1:One P e) (hs:Sz P e 1):KeyOk P kt enc2:=
  Lx hk (fun k k' w=>by unfold Op.equal;rw [show Op.maxDepth=9998+2 from rfl];exact Xe hk he h1 hs 9998 k k') (fun m k w=>by rw [show (10000:Nat)=9998+2 from rfl];exact Xf hk he h1 hs m 9998 k) (fun k=>by rw [show (10000:Nat)=9998+2 from rfl];simp [enc2,Instr.sameBits])
end
theorem aBp {κ:Type} {enc:κ→Value} {es:List MapEntry} {l:List (κ×Value)} {j:Nat} {k:κ} {v:Value} (he:es.map (fun e=>(e.key,e.val))=l.map (fun p=>(enc p.1,p.2))) (h:l[j]?=some (k,v)):∃ e,es[j]?=some e∧e.key=enc k∧e.val=v:=by
  have h1:(es.map (fun e=>(e.key,e.val)))[j]?=(l.map (fun p=>(enc p.1,p.2)))[j]?:=by rw [he]
  rw [List.getElem?_map,List.getElem?_map,h] at h1
  cases h2:es[j]? with
  | none=>rw [h2] at h1;simp at h1
  | some e=>rw [h2] at h1;simp at h1;exact ⟨e,rfl,h1.1,h1.2⟩
def mapK {κ:Type} [DecidableEq κ] (enc:κ→Value) (b:Nat) (Φ:(κ→Option Value)→Prop):Mem where
  fp:=fun k=>k=b
  holds:=fun w=>∃ (es:Array MapEntry) (ck:Nat) (l:List (κ×Value)),w.heap[b]?=some (.map es ck)∧es.toList.map (fun e=>(e.key,e.val))=l.map (fun p=>(enc p.1,p.2))∧(∀ x ∈ es.toList,x.born<ck)∧(es.toList.map MapEntry.born).Nodup∧Φ (getL l)
  stable:=fun _ _ h ⟨es,ck,l,h1,h2⟩=>⟨es,ck,l,(h b rfl).trans h1,h2⟩
section
variable {P:Program} {ops:Array Oper} {w w0:World} {F0:Nat→Prop} {R:List Mem} {Q:Exit→Act→World→Prop} {rest:List Oper} {N:FN} {L:List (Nat×Value)} {a:Act} {ty:TypeId} {pos:String} {af:Array Edge}
variable {κ:Type} [DecidableEq κ] {enc:κ→Value} {Φ Φ':(κ→Option Value)→Prop}
theorem jH {d t:Nat} (enc:κ→Value) (Φ:(κ→Option Value)→Prop) (hΦ:Φ (fun _=>none)) (H:Fr N L a) (hd:Nat.blt d N.n=true) (S:St w0 F0 R w)
    (k:∀ b w' a',w0.heap.size≤b→St w0 F0 (mapK enc b Φ::R) w'→Fr N ((d,.map (some b))::L) a'→wpList P ops Q rest a' w') :
    wpList P ops Q (⟨some d,.makeMap t none,ty,pos,af,none⟩::rest) a w:=by
  refine wpList_plain rfl fun K hK=>?_
  unfold Oper.wp
  have e:(execOp a.eval ⟨some d,.makeMap t none,ty,pos,af,none⟩).run P w = .ok (.value (.map (some w.heap.size))) (w.alloc (.map #[] 0)):=by
    simp [execOp,Instr.makeMap,newObj,Sem.run]
  rw [e]
  refine hK _ _ (k w.heap.size _ _ S.size (S.new (Keeps.alloc w _ _) ⟨#[],0,[],heap_alloc_new w _,rfl,fun x hx=>by simp at hx,by simp,hΦ⟩ ?_) (H.put _ hd))
  intro q hq
  rw [show q=w.heap.size from hq]
  simp
theorem Bc {x y:Operand} {t kt et b i:Nat} {d:Option Nat} {g:Option (Nat×Bool)} {z v:Value} {k:κ} (S:St w0 F0 R w) (hi:R[i]?=some (mapK enc b Φ)) (ht:MapT P t kt et) (hk:KeyOk P kt enc) (hz:ZeroV P et z) (hx:ev L x=some (.map (some b))) (hy:ev L y=some (enc k)) (hv:∀ h,Φ h→(h k).getD z=v) :
    Does P L ⟨d,.lookup t x y false,ty,pos,af,g⟩ w v:=fun ρ hρ=>by
  obtain ⟨es,ck,l,hb,he,_,_,hΦ⟩:=S.holds hi
  have:=oZ (k:=k) ht hk hz (⟨es,ck,hb,he⟩:(mapM enc b l).holds w) false
  simp [execOp,hρ _ _ hx,hρ _ _ hy,this,hv _ hΦ]
theorem fN {x y:Operand} {t kt et b i:Nat} {d:Option Nat} {g:Option (Nat×Bool)} {z v:Value} {s:Bool} {k:κ} (S:St w0 F0 R w) (hi:R[i]?=some (mapK enc b Φ)) (ht:MapT P t kt et) (hk:KeyOk P kt enc) (hz:ZeroV P et z) (hx:ev L x=some (.map (some b))) (hy:ev L y=some (enc k)) (hv:∀ h,Φ h→(h k).getD z=v∧(h k).isSome=s) :
    Does P L ⟨d,.lookup t x y true,ty,pos,af,g⟩ w (.tuple #[v,.bool s]):=fun ρ hρ=>by
  obtain ⟨es,ck,l,hb,he,_,_,hΦ⟩:=S.holds hi
  have:=oZ (k:=k) ht hk hz (⟨es,ck,hb,he⟩:(mapM enc b l).holds w) true
  obtain ⟨h1,h2⟩:=hv _ hΦ
  simp [execOp,hρ _ _ hx,hρ _ _ hy,this,h1,h2]
theorem Ru {l:List (κ×Value)} {k:κ} {v:Value} (h:findL k l 0=none):setL l k v=l++[(k,v)]:=by unfold setL;rw [h]
theorem Rv {l:List (κ×Value)} {k:κ} {v v0:Value} {j:Nat} (h:findL k l 0=some (j,v0)):setL l k v=l.modify j fun p=>(p.1,v):=by unfold setL;rw [h]
theorem Ly {l:List (κ×Value)} {k:κ} {v:Value}:getL (setL l k v)=fun k'=>if k'=k then some v else getL l k':=funext fun k'=>Bz v k k' l
theorem Dq (f:MapEntry→MapEntry) (hf:∀ e,(f e).born=e.born):∀ (l:List MapEntry) (i:Nat),(l.modify i f).map MapEntry.born=l.map MapEntry.born:=by
  intro l
  induction l with
  | nil=>intro i;simp
  | cons e l ih=>
    intro i
    cases i with
    | zero=>simp [hf]
    | succ i=>simp [List.modify_succ_cons,ih]
theorem Xg {l l':List MapEntry} {ck:Nat} (h:l'.map MapEntry.born=l.map MapEntry.born) (hl:∀ x ∈ l,x.born<ck):∀ x ∈ l',x.born<ck:=fun x hx=>by
  have h1:x.born ∈ l'.map MapEntry.born:=List.mem_map.2 ⟨x,hx,rfl⟩
  rw [h] at h1
  obtain ⟨y,hy,e⟩:=List.mem_map.1 h1
  have:=hl y hy
  omega
theorem Rw {l:List MapEntry} {e:MapEntry} {ck:Nat} (he:e.born=ck) (hl:∀ x ∈ l,x.born<ck) (hn:(l.map MapEntry.born).Nodup):(∀ x ∈ l++[e],x.born<ck+1)∧((l++[e]).map MapEntry.born).Nodup:=by
  constructor
  · intro x hx
    rcases List.mem_append.1 hx with hx|hx
    · have:=hl x hx;omega
    · rw [List.mem_singleton.1 hx];omega
  · rw [List.map_append,List.nodup_append]
    refine ⟨hn,by simp,fun p hp q hq e1=>?_⟩
    obtain ⟨x,hx,rfl⟩:=List.mem_map.1 hp
    simp only [List.map_cons,List.map_nil,List.mem_singleton] at hq
    have:=hl x hx
    omega
theorem fW {x y u:Operand} {t kt et b i:Nat} {k:κ} {v:Value} (Φ':(κ→Option Value)→Prop) (H:Fr N L a) (S:St w0 F0 R w) (hi:R[i]?=some (mapK enc b Φ)) (ht:MapT P t kt et) (hk:KeyOk P kt enc) (hx:ev L x=some (.map (some b))) (hy:ev L y=some (enc k)) (hu:ev L u=some v)
    (hΦ':∀ h,Φ h→Φ' (fun k'=>if k'=k then some v else h k'))
    (kk:∀ w' a',St w0 F0 (R.set i (mapK enc b Φ')) w'→Fr N L a'→wpList P ops Q rest a' w') :
    wpList P ops Q (⟨none,.mapUpdate t x y u,ty,pos,af,none⟩::rest) a w:=by
  refine wpList_plain rfl fun K hK=>?_
  obtain ⟨es,ck,l,hb,he,hlt,hnd,hΦ⟩:=S.holds hi
  have hf:=hk.find l k es.toList w he
  have hg:(getObj b).run P w = .ok (.map es ck) w:=by simp [getObj,Sem.run,hb]
  have hs:∀ o,(setObj b o).run P w = .ok () (w.putObj b o):=fun o=>by simp [setObj,Sem.run,hb,World.putObj]
  have hkeeps:∀ o,Keeps w (w.putObj b o) (fun k=>k=b):=fun o=>⟨rfl,rfl,rfl,by simp [World.putObj],fun q _ hq=>World.putObj_heap_other (fun e=>hq e)⟩
  have hΦ2:Φ' (getL (setL l k v)):=by rw [Ly];exact hΦ' _ hΦ
  unfold MapT at ht
  unfold Oper.wp
  cases hfl:findL k l 0 with
  | none=>
    rw [hfl] at hf
    have e1:(execOp a.eval ⟨none,.mapUpdate t x y u,ty,pos,af,none⟩).run P w = .ok .skip (w.putObj b (.map (es.push { key:=enc k,val:=v,born:=ck }) (ck+1))):=by
      simp [execOp,H.eval hx,H.eval hy,H.eval hu,Instr.mapUpdate,cL ht,hg,hk.check,hf,hs]
    rw [e1]
    have hb2:=Rw (e:={ key:=enc k,val:=v,born:=ck }) rfl hlt hnd
    refine hK _ _ (kk _ _ (S.updSame hi (hkeeps _) ⟨_,_,setL l k v,World.putObj_heap_same (eQ hb),?_,?_,?_,hΦ2⟩ (fun _ h=>h)) (H.put_none _))
    · rw [Ru hfl];simp [he]
    · rw [Array.toList_push];exact hb2.1
    · rw [Array.toList_push];exact hb2.2
  | some q=>
    obtain ⟨j,v0⟩:=q
    rw [hfl] at hf
    have hat:=Ca hfl
    obtain ⟨e0,h1,h2,h3⟩:=aBp he hat
    have hej:(es[j]?).map (·.key)=some (enc k):=by rw [←Array.getElem?_toList,h1,←h2];rfl
    have hst:(Instr.keyThatStays (enc k) (enc k)).run P w = .ok (enc k) w:=by simp [Instr.keyThatStays,hk.bits k]
    have e1:(execOp a.eval ⟨none,.mapUpdate t x y u,ty,pos,af,none⟩).run P w = .ok .skip (w.putObj b (.map (es.modify j fun e=>{ e with key:=enc k,val:=v }) ck)):=by
      simp [execOp,H.eval hx,H.eval hy,H.eval hu,Instr.mapUpdate,cL ht,hg,hk.check,hf,hs,hej,hst]
    rw [e1]
    have hbm:=Dq (fun e=>{ e with key:=enc k,val:=v }) (fun _=>rfl) es.toList j
    refine hK _ _ (kk _ _ (S.updSame hi (hkeeps _) ⟨_,_,setL l k v,World.putObj_heap_same (eQ hb),?_,?_,?_,hΦ2⟩ (fun _ h=>h)) (H.put_none _))
    · rw [Rv hfl,Array.toList_modify]
      refine vG _ _ _ _ es.toList l j he fun e p g1 g2 g3=>?_
      rw [hat] at g3
      injection g3 with g3
      subst g3
      rfl
    · rw [Array.toList_modify];exact Xg hbm hlt
    · rw [Array.toList_modify,hbm];exact hnd
end
def ints (xs:List Int):Value := .agg (xs.map fun x=>Value.int .i64 x).toArray
structure IntsK (P:Program) (t:TypeId) (n D:Nat):Prop where
  agg:Agg P t
  sz:Sz P t n
  eq:∀ (d:Nat) (xs ys:List Int) (w:World),xs.length=n→ys.length=n→(Op.equalIn (d+D) t (ints xs) (ints ys)).run P w = .ok (decide (xs=ys)) w
  ck:∀ (m:Bool) (d:Nat) (xs:List Int) (w:World),xs.length=n→(Instr.checkKey m (d+D) t (ints xs)).run P w = .ok () w
section
variable {P:Program} {w:World} {kt e:TypeId} {n D:Nat}
theorem yV {n:Nat} (ha:Agg P e) (hs:Sz P e n) (cs:Array Value) (i:Nat):(part e cs i).run P w = .ok (.agg (cs.extract i (i+n))) w:=by
  have h1:(isAgg e).run P w = .ok true w:=by
    unfold Agg lF at ha
    unfold isAgg
    cases hu:P.underlying e with
    | none=>rw [hu] at ha;simp at ha
    | some d=>rw [hu] at ha;simp only [Sem.run_bind,cL hu,Result.andThen_ok];cases d <;> simp_all
  have h2:(sizeOf e).run P w = .ok n w:=by
    unfold Sz at hs
    cases hi:P.info? e with
    | none=>rw [hi] at hs;simp at hs
    | some i=>rw [hi] at hs;simp at hs;simp [sizeOf,typeInfo,hi,hs]
  simp [part,h1,h2]
theorem yW {n:Nat} (hs:Sz P e n):(sizeOf e).run P w = .ok n w:=by
  unfold Sz at hs
  cases hi:P.info? e with
  | none=>rw [hi] at hs;simp at hs
  | some i=>rw [hi] at hs;simp at hs;simp [sizeOf,typeInfo,hi,hs]
theorem Dr (xs:List Int) (i n:Nat):((xs.map fun x=>Value.int .i64 x).toArray).extract i (i+n)=(((xs.drop i).take n).map fun x=>Value.int .i64 x).toArray:=by
  rw [List.extract_toArray,List.extract_eq_take_drop,Nat.add_sub_cancel_left,List.map_take,List.map_drop]
theorem Xh {xs:List Int} {i:Nat} (h:i<xs.length):((xs.map fun x=>Value.int .i64 x).toArray)[i]?=some (.int .i64 (xs.getD i 0)):=by
  simp [List.getD_eq_getElem?_getD,h]
theorem Rx {α:Type} {f:α→Sem Bool} {b:α→Bool} {w:World} (l:List α) (h:∀ i ∈ l,(f i).run P w = .ok (b i) w) :
    (do let r ←forIn (m:=Sem) l ((none,()):Option Bool×PUnit) fun i r=>do
          let x ←f i
          if !x then pure (ForInStep.done (some false,())) else pure (ForInStep.yield (none,()))
        match r.fst with
        | some a=>pure a
        | none=>pure true:Sem Bool).run P w = .ok (l.all b) w:=by
  have key:∀ l:List α,(∀ i ∈ l,(f i).run P w = .ok (b i) w)→(forIn (m:=Sem) l ((none,()):Option Bool×PUnit) fun i r=>do
          let x ←f i
          if !x then pure (ForInStep.done (some false,())) else pure (ForInStep.yield (none,()))).run P w = .ok ((if l.all b=true then none else some false,())) w:=by
    intro l
    induction l with
    | nil=>intro _;simp
    | cons a l ih=>
      intro h
      have h1:=h a (by simp)
      have h2:=ih fun i hi=>h i (by simp [hi])
      rw [List.forIn_cons]
      cases hb:b a with
      | true=>
        rw [hb] at h1
        have e:(a::l).all b=l.all b:=by simp [hb]
        rw [e]
        simp only [Sem.run_bind,h1,Result.andThen_ok]
        simpa using h2
      | false=>
        rw [hb] at h1
        simp [h1,hb]
  simp only [Sem.run_bind,key l h,Result.andThen_ok]
  by_cases hl:l.all b=true
  · simp [hl]
  · simp [hl]
theorem Lz {α:Type} {f:α→Sem Unit} {w:World} (l:List α) (h:∀ i ∈ l,(f i).run P w = .ok () w) :
    (forIn (m:=Sem) l () fun i r=>do f i;pure (ForInStep.yield ())).run P w = .ok () w:=by
  induction l with
  | nil=>simp
  | cons a l ih=>
    have h1:=h a (by simp)
    have h2:=ih fun i hi=>h i (by simp [hi])
    rw [List.forIn_cons]
    simp only [Sem.run_bind,h1,Result.andThen_ok]
    simpa using h2
def seg (xs:List Int) (off n:Nat):List Int:=(xs.drop off).take n
theorem rF {xs:List Int} {off n:Nat} (h:off+n≤xs.length):(seg xs off n).length=n:=by simp [seg];omega
structure PartK (P:Program) (t:TypeId) (n D:Nat):Prop where
  eq:∀ (d:Nat) (xs ys:List Int) (off:Nat) (w:World),off+n≤xs.length→off+n≤ys.length →
    (do let a ←part t (xs.map fun x=>Value.int .i64 x).toArray off;let b ←part t (ys.map fun x=>Value.int .i64 x).toArray off;Op.equalIn (d+D) t a b:Sem Bool).run P w = .ok (decide (seg xs off n=seg ys off n)) w
  ck:∀ (m:Bool) (d:Nat) (xs:List Int) (off:Nat) (w:World),off+n≤xs.length→(do let a ←part t (xs.map fun x=>Value.int .i64 x).toArray off;Instr.checkKey m (d+D) t a:Sem Unit).run P w = .ok () w
theorem PartK.of (h:IntsK P kt n D):PartK P kt n D:=by
  refine ⟨fun d xs ys off w hx hy=>?_,fun m d xs off w hx=>?_⟩
  · simp only [Sem.run_bind,yV h.agg h.sz,Result.andThen_ok,Dr]
    exact h.eq d _ _ w (rF hx) (rF hy)
  · simp only [Sem.run_bind,yV h.agg h.sz,Result.andThen_ok,Dr]
    exact h.ck m d _ w (rF hx)
theorem Jk {xs:List Int} {i:Nat} (h:i<xs.length):seg xs i 1=[xs.getD i 0]:=by
  rw [seg,List.drop_eq_getElem_cons h,List.take_succ_cons,List.take_zero,List.getD_eq_getElem?_getD,List.getElem?_eq_getElem h]
  rfl
theorem PartK.int (he:P.underlying e=some (.int .i64)) (h1:One P e):PartK P e 1 1:=by
  have hp:∀ (zs:List Int) (i:Nat),i<zs.length→∀ w,(part e (zs.map fun x=>Value.int .i64 x).toArray i).run P w = .ok (.int .i64 (zs.getD i 0)) w:=fun zs i hi w=>mB h1 (Xh hi)
  refine ⟨fun d xs ys off w hx hy=>?_,fun m d xs off w hx=>?_⟩
  · simp only [Sem.run_bind,hp xs off (by omega),hp ys off (by omega),Result.andThen_ok,Jh he]
    rw [Jk (by omega),Jk (by omega)]
    rw [show decide ([xs.getD off 0]=[ys.getD off 0])=decide (xs.getD off 0=ys.getD off 0) by simp]
    rfl
  · simp only [Sem.run_bind,hp xs off (by omega),Result.andThen_ok,Ji he]
theorem PartK.mono {n D:Nat} (h:PartK P e n D):PartK P e n (D+1):=
  ⟨fun d xs ys off w hx hy=>by have:=h.eq (d+1) xs ys off w hx hy;rw [Nat.add_assoc,Nat.add_comm 1 D] at this;exact this,fun m d xs off w hx=>by have:=h.ck m (d+1) xs off w hx;rw [Nat.add_assoc,Nat.add_comm 1 D] at this;exact this⟩
theorem PartK.int2 (he:P.underlying e=some (.int .i64)) (h1:One P e):PartK P e 1 2:=(PartK.int he h1).mono
theorem Jl {xs ys:List Int} {off n m:Nat} (hx:off+n+m≤xs.length) (hy:off+n+m≤ys.length):seg xs off (n+m)=seg ys off (n+m)↔seg xs off n=seg ys off n∧seg xs (off+n) m=seg ys (off+n) m:=by
  have e:∀ zs:List Int,seg zs off (n+m)=seg zs off n++seg zs (off+n) m:=fun zs=>by
    unfold seg;rw [List.take_add,List.drop_drop]
  rw [e,e]
  exact ⟨fun h=>List.append_inj h (by rw [rF (by omega),rF (by omega)]),fun h=>by rw [h.1,h.2]⟩
theorem uG {xs:List Int} {n:Nat} (h:xs.length=n):seg xs 0 n=xs:=by unfold seg;rw [List.drop_zero,List.take_of_length_le (by omega)]
theorem aBq {xs ys:List Int} {m:Nat}:∀ len,len*m≤xs.length→len*m≤ys.length→((List.range len).all fun i=>decide (seg xs (i*m) m=seg ys (i*m) m))=decide (seg xs 0 (len*m)=seg ys 0 (len*m)):=by
  intro len
  induction len with
  | zero=>intro _ _;simp [seg]
  | succ len ih=>
    intro hx hy
    rw [Nat.add_mul] at hx hy
    rw [List.range_succ,List.all_append,ih (by omega) (by omega),Bool.eq_iff_iff,Nat.add_mul,Nat.one_mul,decide_eq_true_eq,Jl (by omega) (by omega),Nat.zero_add]
    simp
theorem Ry {len m D:Nat} (hk:P.underlying kt=some (.array len e)) (hs:Sz P kt (len*m)) (he:PartK P e m D) (hse:Sz P e m):IntsK P kt (len*m) (D+1):=by
  refine ⟨by unfold Agg lF;rw [hk],hs,fun d xs ys w hx hy=>?_,fun b d xs w hx=>?_⟩
  · have hq:∀ i ∈ List.range len,(do let a ←part e (xs.map fun x=>Value.int .i64 x).toArray (i*m);let b ←part e (ys.map fun x=>Value.int .i64 x).toArray (i*m);Op.equalIn (d+D) e a b:Sem Bool).run P w = .ok (decide (seg xs (i*m) m=seg ys (i*m) m)) w:=fun i hi=>by
      have hi':=List.mem_range.1 hi
      have:(i+1)*m≤len*m:=Nat.mul_le_mul_right _ (by omega)
      rw [Nat.add_mul] at this
      exact he.eq d xs ys (i*m) w (by omega) (by omega)
    have hr:=Rx (P:=P) (w:=w) (List.range len) hq
    rw [aBq len (by omega) (by omega),uG hx,uG hy] at hr
    unfold ints
    rw [show d+(D+1)=(d+D)+1 from rfl,Op.equalIn]
    simp only [Sem.run_bind,cL hk,yW hse,Result.andThen_ok,Std.Legacy.Range.forIn_eq_forIn_range',Std.Legacy.Range.size]
    rw [List.range_eq_range'] at hr
    simp at hr ⊢
    rw [←hr]
    congr 1
    funext a w'
    cases a with|mk x y=>cases x <;> rfl
  · have hz:(sizeOf e).run P w = .ok m w:=yW hse
    have hq:∀ i ∈ List.range len,(do let s ←sizeOf e;let a ←part e (xs.map fun x=>Value.int .i64 x).toArray (i*s);Instr.checkKey b (d+D) e a:Sem Unit).run P w = .ok () w:=fun i hi=>by
      have hi':=List.mem_range.1 hi
      have:(i+1)*m≤len*m:=Nat.mul_le_mul_right _ (by omega)
      rw [Nat.add_mul] at this
      have h9:=he.ck b d xs (i*m) w (by omega)
      rw [Sem.run_bind,hz,Result.andThen_ok]
      exact h9
    have hr:=Lz (P:=P) (w:=w) (List.range len) hq
    unfold ints
    rw [show d+(D+1)=(d+D)+1 from rfl,Instr.checkKey]
    simp only [Sem.run_bind,cL hk,Result.andThen_ok,Std.Legacy.Range.forIn_eq_forIn_range',Std.Legacy.Range.size]
    rw [List.range_eq_range'] at hr
    simp at hr ⊢
    exact congrArg (fun r:Result Unit=>r.andThen fun _ w'=>Result.ok () w') hr
inductive FieldsK (P:Program) (D:Nat):Nat→List Field→Nat→Prop
  | nil (off:Nat):FieldsK P D off [] off
  | cons {off n E : Nat} {f : Field} {fs : List Field} (h1 : f.name ≠ "_") (h2 : f.offset = off) (h3 : PartK P f.type n D) (h4 : FieldsK P D (off + n) fs E) : FieldsK P D off (f :: fs) E
theorem FieldsK.le {fs:List Field} {off E:Nat} (h:FieldsK P D off fs E):off≤E:=by
  induction h with
  | nil=>exact Nat.le_refl _
  | cons _ _ _ _ ih=>omega
theorem FieldsK.eqs {fs:List Field} {off E:Nat} (h:FieldsK P D off fs E) (xs ys:List Int) (d:Nat) (hx:E≤xs.length) (hy:E≤ys.length) :
    (forIn (m := Sem) fs ((none, ()) : Option Bool × PUnit) fun f r => if f.name ≠ "_" then do
          let c ←(do let a ←part f.type (xs.map fun x=>Value.int .i64 x).toArray f.offset;let b ←part f.type (ys.map fun x=>Value.int .i64 x).toArray f.offset;Op.equalIn (d+D) f.type a b:Sem Bool)
          if !c then pure (ForInStep.done (some false,())) else pure (ForInStep.yield (none,()))
        else pure (ForInStep.yield (none,()))).run P w = .ok ((if seg xs off (E-off)=seg ys off (E-off) then none else some false,())) w:=by
  induction h with
  | nil off=>simp [seg]
  | @cons off n E f fs h1 h2 h3 h4 ih=>
    have hle:=h4.le
    have h5:=h3.eq d xs ys off w (by omega) (by omega)
    have h6:=ih hx hy
    have h7:=Jl (xs:=xs) (ys:=ys) (off:=off) (n:=n) (m:=E-(off+n)) (by omega) (by omega)
    rw [show n+(E-(off+n))=E-off by omega] at h7
    rw [List.forIn_cons,if_pos h1,h2]
    by_cases hs:seg xs off n=seg ys off n
    · rw [decide_eq_true hs] at h5
      rw [Sem.run_bind,Sem.run_bind,h5,Result.andThen_ok]
      simp only [Bool.not_true,Bool.false_eq_true,if_false,Sem.run_pure,Result.andThen_ok]
      rw [h6]
      by_cases ht:seg xs (off+n) (E-(off+n))=seg ys (off+n) (E-(off+n))
      · rw [if_pos ht,if_pos (h7.2 ⟨hs,ht⟩)]
      · rw [if_neg ht,if_neg (fun h=>ht (h7.1 h).2)]
    · rw [decide_eq_false hs] at h5
      rw [Sem.run_bind,Sem.run_bind,h5,Result.andThen_ok]
      simp only [Bool.not_false,if_true,Sem.run_pure,Result.andThen_ok]
      rw [if_neg (fun h=>hs (h7.1 h).1)]
theorem FieldsK.cks {fs:List Field} {off E:Nat} (h:FieldsK P D off fs E) (xs:List Int) (m:Bool) (d:Nat) (hx:E≤xs.length) :
    (forIn (m := Sem) fs () fun f r => if f.name ≠ "_" then do
          (do let a ←part f.type (xs.map fun x=>Value.int .i64 x).toArray f.offset;Instr.checkKey m (d+D) f.type a:Sem Unit)
          pure (ForInStep.yield ())
        else pure (ForInStep.yield ())).run P w = .ok () w:=by
  induction h with
  | nil off=>simp
  | @cons off n E f fs h1 h2 h3 h4 ih=>
    have hle:=h4.le
    have h5:=h3.ck m d xs off w (by omega)
    have h6:=ih hx
    rw [List.forIn_cons,if_pos h1,h2]
    rw [Sem.run_bind,Sem.run_bind,h5,Result.andThen_ok]
    simp only [Sem.run_pure,Result.andThen_ok]
    exact h6
theorem Rz {fs:Array Field} {n:Nat} (hk:P.underlying kt=some (.struct fs)) (hs:Sz P kt n) (hf:FieldsK P D 0 fs.toList n) (hst:P.stoodInHeld kt=false):IntsK P kt n (D+1):=by
  refine ⟨by unfold Agg lF;rw [hk],hs,fun d xs ys w hx hy=>?_,fun b d xs w hx=>?_⟩
  · have hr:=hf.eqs (w:=w) xs ys d (by omega) (by omega)
    rw [Nat.sub_zero,uG hx,uG hy] at hr
    have hpg:(program:Sem Program).run P w = .ok P w:=rfl
    unfold ints
    rw [show d+(D+1)=(d+D)+1 from rfl,Op.equalIn]
    simp only [Sem.run_bind,cL hk,hpg,hst,Result.andThen_ok]
    simp at hr ⊢
    have hr2:=congrArg (fun r:Result (Option Bool×PUnit)=>r.andThen fun a w'=>Sem.run P (match a.fst with|some r=>pure r|none=>pure true) w') hr
    refine Eq.trans ?_ (hr2.trans (by by_cases h:xs=ys <;> simp [h]))
    refine congrArg _ ?_
    funext a w'
    cases a with|mk x y=>cases x <;> rfl
  · have hr:=hf.cks (w:=w) xs b d (by omega)
    unfold ints
    rw [show d+(D+1)=(d+D)+1 from rfl,Instr.checkKey]
    simp only [Sem.run_bind,cL hk,Result.andThen_ok]
    simp at hr ⊢
    exact congrArg (fun r:Result Unit=>r.andThen fun _ w'=>Result.ok () w') hr
def KeyN (n:Nat):Type:={ l:List Int // l.length=n }
instance {n:Nat}:DecidableEq (KeyN n):=fun a b=>if h:a.1=b.1 then .isTrue (Subtype.ext h) else .isFalse fun e=>h (congrArg Subtype.val e)
def encN {n:Nat} (k:KeyN n):Value:=ints k.1
theorem Ma (xs:List Int) (d:Nat):Instr.sameBits (d+1) (ints xs) (ints xs)=true:=by
  unfold ints
  rw [Instr.sameBits]
  simp only [beq_self_eq_true,Bool.true_and]
  rw [List.all_eq_true]
  rintro ⟨x,y⟩ h
  rw [List.zip_eq_zipWith] at h
  simp only [List.zipWith_self,List.mem_map] at h
  obtain ⟨v,hv,e⟩:=h
  cases e
  have hv':x ∈ xs.map fun x=>Value.int .i64 x:=by simpa using hv
  obtain ⟨q,_,rfl⟩:=List.mem_map.1 hv'
  simp [Instr.sameBits]
theorem Xi {n:Nat} (h:IntsK P kt n D) (hD:D≤100) (hwide:(match P.underlying kt with|some (.array _ _)|some (.struct _)=>true|_=>false)=true):KeyOk P kt (encN (n:=n)):=by
  have heq:∀ (k k':KeyN n) (w:World),(Op.equal kt (encN k) (encN k')).run P w = .ok (decide (k=k')) w:=fun k k' w=>by
    have:=h.eq (10000-D) k.1 k'.1 w k.2 k'.2
    rw [Nat.sub_add_cancel (by omega)] at this
    unfold Op.equal Op.maxDepth encN
    rw [this]
    congr 1
    exact decide_eq_decide.2 ⟨fun h=>Subtype.ext h,fun h=>congrArg Subtype.val h⟩
  refine ⟨fun l k es w he=>?_,fun m k w=>?_,fun k=>Ma _ _⟩
  · rw [run_findKey_eq w hwide]
    exact Jj heq k l es 0 he
  · have:=h.ck m (10000-D) k.1 w k.2
    rw [Nat.sub_add_cancel (by omega)] at this
    exact this
end
structure Unt where
  mach:Int
  every:Int
  seen:Int
  rates:List (Int×Int)
  RA:Option Addr
  rc:Nat
  worn:Int
  turns:Int
  age:Int
  uses:List Use
  UA:Option Addr
  uc:Nat
  old:Int
  tn:Int
  cl:Int
  kind:Int
def Unt.zero:Unt:=⟨0,0,0,[],none,0,0,0,0,[],none,0,0,0,0,0⟩
def Unt.cell (u:Unt):Nat→Value
  | 0 => .int .i64 u.mach
  | 1 => .int .i64 u.every
  | 2 => .int .i64 u.seen
  | 3 => .slice u.RA u.rates.length u.rc
  | 4 => .int .i64 u.worn
  | 5 => .int .i64 u.turns
  | 6 => .int .i64 u.age
  | 7 => .slice u.UA u.uses.length u.uc
  | 8 => .int .i64 u.old
  | 9 => .int .i64 u.tn
  | 10 => .int .i64 u.cl
  | _ => .int .i64 u.kind
def vcell (l:List Unt) (k j:Nat):Value:=(l.getD k Unt.zero).cell j
def Unt.part (u:Unt):Part:=⟨u.rates,u.worn,u.turns,u.age⟩
def Unt.same (u v:Unt):Prop:=v={ u with RA:=v.RA,rc:=v.rc,UA:=v.UA,uc:=v.uc }
structure Spr where
  day:Int
  kind:Int
  many:Int
def Spr.zero:Spr:=⟨0,0,0⟩
def Spr.cell (s:Spr):Nat→Value
  | 0 => .int .i64 s.day
  | 1 => .int .i64 s.kind
  | _ => .int .i64 s.many
def kP (l:List Spr) (k j:Nat):Value:=(l.getD k Spr.zero).cell j
structure Tsk where
  day:Int
  unit:Int
  kind:Int
deriving instance DecidableEq for Tsk
def Tsk.zero:Tsk:=⟨0,0,0⟩
def Tsk.cell (t:Tsk):Nat→Value
  | 0 => .int .i64 t.day
  | 1 => .int .i64 t.unit
  | _ => .int .i64 t.kind
def cB (l:List Tsk) (k j:Nat):Value:=(l.getD k Tsk.zero).cell j
structure Yr where
  days:Int
  pl:Int
  ps:List Psg
  PA:Option Addr
  pc:Nat
  xs:List Int
  XA:Option Addr
  xc:Nat
  pe:List Int
  BA:Option Addr
  bc:Nat
  limit:Int
  help:Bool
  prs:List Prm
  QA:Option Addr
  qc:Nat
  us:List Unt
  VA:Option Addr
  vc:Nat
  crew:Int
  sps:List Spr
  SA:Option Addr
  sc:Nat
def Yr.cells (y:Yr):List Value:=[.int .i64 y.days,.int .i64 y.pl,.slice y.PA y.ps.length y.pc,.slice y.XA y.xs.length y.xc,.slice y.BA y.pe.length y.bc,.int .i64 y.limit,.bool y.help,.slice y.QA y.prs.length y.qc,.slice y.VA y.us.length y.vc,.int .i64 y.crew,.slice y.SA y.sps.length y.sc]
abbrev Yr.st (y:Yr):Value := .agg [.int .i64 y.pl,.slice y.PA y.ps.length y.pc,.slice y.XA y.xs.length y.xc].toArray
abbrev Yr.u (y:Yr) (k:Nat):Unt:=y.us.getD k Unt.zero
structure YIn (w:World) (F:Nat→Prop) (y:Yr):Prop where
  ps:InS w F 7 y.PA y.ps.length (pcell y.ps)
  xs:InS w F 1 y.XA y.xs.length (icl y.xs)
  pe:InS w F 1 y.BA y.pe.length (icl y.pe)
  prs:InS w F 5 y.QA y.prs.length (dH y.prs)
  us:InS w F 12 y.VA y.us.length (vcell y.us)
  sps:InS w F 3 y.SA y.sps.length (kP y.sps)
  rt:∀ k,k<y.us.length→InS w F 2 (y.us.getD k Unt.zero).RA (y.us.getD k Unt.zero).rates.length (scell (y.us.getD k Unt.zero).rates)
  ul:∀ k,k<y.us.length→InS w F 6 (y.us.getD k Unt.zero).UA (y.us.getD k Unt.zero).uses.length (ucell (y.us.getD k Unt.zero).uses)
structure YBd (y:Yr):Prop where
  ps:y.ps.length*56≤140737488351232
  xs:y.xs.length*8≤140737488351232
  pe:y.pe.length*8≤140737488351232
  prs:y.prs.length*40≤140737488351232
  us:y.us.length*120≤140737488351232
  sps:y.sps.length*24≤140737488351232
  rt:∀ k,k<y.us.length→(y.us.getD k Unt.zero).rates.length*16≤140737488351232
  ul:∀ k,k<y.us.length→(y.us.getD k Unt.zero).uses.length*48≤140737488351232
  cap:∀ k,k<y.us.length→(y.us.getD k Unt.zero).uses.length≤(y.us.getD k Unt.zero).uc
section
variable {w w0:World} {F F0:Nat→Prop} {R:List Mem} {y:Yr}
theorem YIn.now (h:YIn w0 F0 y) (S:St w0 F0 R w):YIn w noF y:=
  ⟨h.ps.now S,h.xs.now S,h.pe.now S,h.prs.now S,h.us.now S,h.sps.now S,fun k hk=>(h.rt k hk).now S,fun k hk=>(h.ul k hk).now S⟩
theorem YBd.psn (h:YBd y):y.ps.length≤9223372036854775807:=by have:=h.ps;omega
theorem YBd.xsn (h:YBd y):y.xs.length≤9223372036854775807:=by have:=h.xs;omega
theorem YBd.pen (h:YBd y):y.pe.length≤9223372036854775807:=by have:=h.pe;omega
theorem YBd.prn (h:YBd y):y.prs.length≤9223372036854775807:=by have:=h.prs;omega
theorem YBd.usn (h:YBd y):y.us.length≤9223372036854775807:=by have:=h.us;omega
theorem YBd.spn (h:YBd y):y.sps.length≤9223372036854775807:=by have:=h.sps;omega
theorem YBd.rtn (h:YBd y) {k:Nat} (hk:k<y.us.length):(y.us.getD k Unt.zero).rates.length≤9223372036854775807:=by have:=h.rt k hk;omega
theorem YBd.uln (h:YBd y) {k:Nat} (hk:k<y.us.length):(y.us.getD k Unt.zero).uses.length≤9223372036854775807:=by have:=h.ul k hk;omega
end
def untI (u:Unt):Prop:=(1≤u.every∧u.every≤20)∧(-20≤u.seen∧u.seen≤0)∧(0≤u.kind∧u.kind≤3)∧u.uses.length≤20∧(prevD u.uses u.uses.length≤u.old∧u.old≤99980)∧(0≤u.tn∧u.tn≤1000000)∧(0≤u.cl∧u.cl≤(u.rates.length:Int)-1)
instance (u:Unt):Decidable (untI u):=by unfold untI;exact inferInstance
def freeN (ps:List Psg) (us:List Unt) (n i:Nat) (m:Int):Bool:=!allN (fun k=>!(decide (0≤(ps.getD k Psg.zero).mach)&&decide ((ps.getD k Psg.zero).mach=m))) n&&allN (fun k=>!decide ((us.getD k Unt.zero).mach=m)) i
def freeM (ps:List Psg) (us:List Unt) (i:Nat) (m:Int):Bool:=freeN ps us ps.length i m
noncomputable def untU (ps:List Psg) (us:List Unt) (i:Nat) (u:Unt):Bool:=freeM ps us i u.mach&&(decide (untI u)&&decide (wearE u.part u.uses=0))
noncomputable def untB (ps:List Psg) (us:List Unt) (i:Nat):Bool:=untU ps us i (us.getD i Unt.zero)
def sprB (days:Int) (s:Spr):Bool:=decide ((0≤s.day∧s.day≤days-1)∧(0≤s.kind∧s.kind≤3)∧(1≤s.many∧s.many≤8))
def yrI (y:Yr):Prop:=(1≤y.days∧y.days≤20)∧((y.pe.length:Int)=y.pl∧∀ k,k<y.pe.length→0≤y.pe.getD k 0∧y.pe.getD k 0≤1000)∧(0≤y.limit∧y.limit≤60)∧(0≤y.crew∧y.crew≤8)∧y.sps.length≤20∧∀ k,k<y.sps.length→sprB y.days (y.sps.getD k Spr.zero)=true
open Classical in
noncomputable def yearE (y:Yr):Int:=if keptE y.pl y.ps y.xs [] y.prs≠0 then keptE y.pl y.ps y.xs [] y.prs else if ¬ yrI y then 120 else if 6<y.us.length then 2 else if allN (untB y.ps y.us) y.us.length=true then 0 else 121
def befB (a b:Tsk):Bool:=if a.day≠b.day then decide (a.day<b.day) else if a.unit≠b.unit then decide (a.unit<b.unit) else decide (a.kind<b.kind)
def tskB (y:Yr) (l:List Tsk) (i:Nat):Bool:=decide ((0≤(l.getD i Tsk.zero).day∧(l.getD i Tsk.zero).day≤y.days-1)∧(0≤(l.getD i Tsk.zero).unit∧(l.getD i Tsk.zero).unit≤(y.us.length:Int)-1)∧(1≤(l.getD i Tsk.zero).kind∧(l.getD i Tsk.zero).kind≤2))&&(decide (i=0)||befB (l.getD (i-1) Tsk.zero) (l.getD i Tsk.zero))
noncomputable def taskE (y:Yr) (l:List Tsk):Int:=if yearE y≠0 then yearE y else if 60<l.length then 2 else if allN (tskB y l) l.length=true then 0 else 122
structure YOk (y:Yr):Prop where
  kept:keptE y.pl y.ps y.xs [] y.prs=0
  yr:yrI y
  many:y.us.length≤6
  un:∀ k,k<y.us.length→untB y.ps y.us k=true
section
variable {y:Yr} {l:List Tsk} {i k:Nat} {ps:List Psg} {us:List Unt}
theorem pR (h:keptE y.pl y.ps y.xs [] y.prs≠0):yearE y=keptE y.pl y.ps y.xs [] y.prs:=by unfold yearE;rw [if_pos h]
theorem rG (h:keptE y.pl y.ps y.xs [] y.prs=0) (h1:¬ yrI y):yearE y=120:=by unfold yearE;rw [if_neg (by omega),if_pos h1]
theorem wW (h:keptE y.pl y.ps y.xs [] y.prs=0) (h1:yrI y) (h2:6<y.us.length):yearE y=2:=by unfold yearE;rw [if_neg (by omega),if_neg (fun h=>h h1),if_pos h2]
theorem wX (h:keptE y.pl y.ps y.xs [] y.prs=0) (h1:yrI y) (h2:¬ 6<y.us.length) (hk:k<y.us.length) (h3:untB y.ps y.us k=false):yearE y=121:=by
  unfold yearE;rw [if_neg (by omega),if_neg (fun h=>h h1),if_neg h2,if_neg]
  rw [bQ]
  intro h4
  rw [h4 k hk] at h3
  cases h3
theorem wY (h:keptE y.pl y.ps y.xs [] y.prs=0) (h1:yrI y) (h2:¬ 6<y.us.length) (h3:allN (untB y.ps y.us) y.us.length=true):yearE y=0:=by
  unfold yearE;rw [if_neg (by omega),if_neg (fun h=>h h1),if_neg h2,if_pos h3]
theorem oQ (h:yearE y=0):YOk y:=by
  unfold yearE at h
  split at h
  · omega
  · split at h
    · cases h
    · split at h
      · cases h
      · split at h
        · rename_i h1 h2 h3 h4
          exact ⟨by omega,Classical.not_not.1 h2,by omega,bQ.1 h4⟩
        · cases h
theorem wZ (h:yearE y≠0):taskE y l=yearE y:=by unfold taskE;rw [if_pos h]
theorem xA (h:yearE y=0) (h1:60<l.length):taskE y l=2:=by unfold taskE;rw [if_neg (by omega),if_pos h1]
theorem iE (h:yearE y=0) (h1:¬ 60<l.length) (hi:i<l.length) (h2:tskB y l i=false):taskE y l=122:=by
  unfold taskE;rw [if_neg (by omega),if_neg h1,if_neg]
  rw [bQ]
  intro h4
  rw [h4 i hi] at h2
  cases h2
theorem rH (h:yearE y=0) (h1:¬ 60<l.length) (h2:allN (tskB y l) l.length=true):taskE y l=0:=by unfold taskE;rw [if_neg (by omega),if_neg h1,if_pos h2]
theorem uH (h:taskE y l=0):yearE y=0∧l.length≤60∧∀ k,k<l.length→tskB y l k=true:=by
  unfold taskE at h
  split at h
  · omega
  · split at h
    · cases h
    · split at h
      · rename_i h1 h2 h3
        exact ⟨by omega,by omega,bQ.1 h3⟩
      · cases h
theorem Bd (h:tskB y l i=true):(0≤(l.getD i Tsk.zero).day∧(l.getD i Tsk.zero).day≤y.days-1)∧(0≤(l.getD i Tsk.zero).unit∧(l.getD i Tsk.zero).unit≤(y.us.length:Int)-1)∧(1≤(l.getD i Tsk.zero).kind∧(l.getD i Tsk.zero).kind≤2):=by
  unfold tskB at h
  rw [Bool.and_eq_true] at h
  exact of_decide_eq_true h.1
theorem sM {m:Int}:freeM ps us i m=true↔(∃ k,k<ps.length∧0≤(ps.getD k Psg.zero).mach∧(ps.getD k Psg.zero).mach=m)∧∀ k,k<i→(us.getD k Unt.zero).mach≠m:=by
  unfold freeM freeN
  rw [Bool.and_eq_true,Bool.not_eq_true',←Bool.not_eq_true,bQ,bQ]
  constructor
  · rintro ⟨h1,h2⟩
    refine ⟨Classical.byContradiction fun h3=>h1 fun k hk=>?_,fun k hk=>?_⟩
    · rw [Bool.not_eq_true',←Bool.not_eq_true,Bool.and_eq_true,decide_eq_true_eq,decide_eq_true_eq]
      exact fun h4=>h3 ⟨k,hk,h4⟩
    · have:=h2 k hk
      rw [Bool.not_eq_true'] at this
      exact of_decide_eq_false this
  · rintro ⟨⟨k,hk,h1⟩,h2⟩
    refine ⟨fun h3=>?_,fun k hk=>by rw [decide_eq_false (h2 k hk)];rfl⟩
    have:=h3 k hk
    rw [decide_eq_true h1.1,decide_eq_true h1.2] at this
    cases this
structure UntOk (ps:List Psg) (us:List Unt) (u:Unt) (i:Nat):Prop where
  free:freeM ps us i u.mach=true
  i:untI u
  wear:wearE u.part u.uses=0
theorem xB {u:Unt}:untU ps us i u=true↔UntOk ps us u i:=by
  unfold untU
  rw [Bool.and_eq_true,Bool.and_eq_true,decide_eq_true_eq,decide_eq_true_eq]
  exact ⟨fun h=>⟨h.1,h.2.1,h.2.2⟩,fun h=>⟨h.free,h.i,h.wear⟩⟩
theorem kQ:untB ps us i=true↔UntOk ps us (us.getD i Unt.zero) i:=xB
theorem Ds {u:Unt} (h:¬ UntOk ps us u i):untU ps us i u=false:=by rw [←Bool.not_eq_true,xB];exact h
def macP (ps:List Psg) (us:List Unt) (n i:Nat) (h:Int→Option Value):Prop:=∀ m,(h m).getD (.bool false) = .bool (freeN ps us n i m)
theorem Mb:macP ps us 0 0 (fun _=>none):=fun m=>rfl
theorem Dt {n:Nat} {m:Int}:freeN ps us (n+1) 0 m=(freeN ps us n 0 m||(decide (0≤(ps.getD n Psg.zero).mach)&&decide ((ps.getD n Psg.zero).mach=m))):=by
  unfold freeN
  simp only [allN,Bool.and_true,Bool.not_and,Bool.not_not,Bool.not_or]
theorem Xj {n:Nat} (hd:∀ j,j<n→0≤(ps.getD n Psg.zero).mach→(ps.getD j Psg.zero).mach≠(ps.getD n Psg.zero).mach) (hn:∀ j,j<n→(ps.getD n Psg.zero).mach<0→(ps.getD j Psg.zero).mach=(ps.getD n Psg.zero).mach→(ps.getD j Psg.zero).mach<0) :
    ∀ h,macP ps us n 0 h→macP ps us (n+1) 0 (fun k'=>if k'=(ps.getD n Psg.zero).mach then some (.bool (decide (0≤(ps.getD n Psg.zero).mach))) else h k'):=fun h hh m=>by
  dsimp only
  rw [Dt]
  by_cases e:m=(ps.getD n Psg.zero).mach
  · subst e
    rw [if_pos rfl,decide_eq_true (p:=(ps.getD n Psg.zero).mach=(ps.getD n Psg.zero).mach) rfl,Bool.and_true]
    by_cases h0:0≤(ps.getD n Psg.zero).mach
    · rw [decide_eq_true h0,Bool.or_true];rfl
    · rw [decide_eq_false h0,Bool.or_false]
      have:freeN ps us n 0 (ps.getD n Psg.zero).mach=false:=by
        unfold freeN
        rw [Bool.and_eq_false_iff]
        left
        rw [Bool.not_eq_false',bQ]
        intro k hk
        rw [Bool.not_eq_true',Bool.and_eq_false_iff,decide_eq_false_iff_not,decide_eq_false_iff_not]
        by_cases e2:(ps.getD k Psg.zero).mach=(ps.getD n Psg.zero).mach
        · left;omega
        · exact .inr e2
      rw [this];rfl
  · rw [if_neg e,decide_eq_false (p:=(ps.getD n Psg.zero).mach=m) (fun h=>e h.symm),Bool.and_false,Bool.or_false]
    exact hh m
theorem Xk {i:Nat}:∀ h,macP ps us ps.length i h→macP ps us ps.length (i+1) (fun k'=>if k'=(us.getD i Unt.zero).mach then some (.bool false) else h k'):=fun h hh m=>by
  dsimp only
  have e0:freeN ps us ps.length (i+1) m=(freeN ps us ps.length i m&&!decide ((us.getD i Unt.zero).mach=m)):=by
    unfold freeN
    show (_&&(allN _ i&&_))=_
    rw [Bool.and_assoc]
  rw [e0]
  by_cases e:m=(us.getD i Unt.zero).mach
  · subst e
    rw [if_pos rfl,decide_eq_true rfl,Bool.not_true,Bool.and_false];rfl
  · rw [if_neg e,decide_eq_false (fun h=>e h.symm),Bool.not_false,Bool.and_true]
    exact hh m
theorem Du (h:¬ UntOk ps us (us.getD i Unt.zero) i):untB ps us i=false:=by rw [←Bool.not_eq_true,kQ];exact h
end
def bsum (f:Nat→Bool):Nat→Int
  | 0=>0
  | n+1=>bsum f n+if f n=true then 2^n else 0
theorem rI (n:Nat):(0:Int)<2^n:=Int.pow_pos (by decide)
theorem uI (f:Nat→Bool):∀ n,0≤bsum f n∧bsum f n<2^n:=by
  intro n
  induction n with
  | zero=>exact ⟨Int.le_refl 0,(by decide:(0:Int)<2^0)⟩
  | succ n ih=>
    have h:=rI n
    rw [bsum,Int.pow_succ]
    split <;> omega
theorem Xl {x:Int} {n:Nat} (h0:0≤x) (h1:x<2^n):x/2^n%2=0∧(x+2^n)/2^n%2=1:=by
  have hp:=rI n
  have e1:x/2^n=0:=Int.ediv_eq_zero_of_lt h0 h1
  refine ⟨by rw [e1];rfl,?_⟩
  have e2:(x+2^n)/2^n=x/2^n+1:=by
    have:=Int.add_mul_ediv_right x 1 (show (2:Int)^n≠0 by omega)
    rw [Int.one_mul] at this
    exact this
  rw [e2,e1];rfl
theorem Xm {x:Int} {n d:Nat} (hd:d<n):(x+2^n)/2^d%2=x/2^d%2:=by
  have hp:=rI d
  have e:(2:Int)^n=(2^(n-d-1)*2)*2^d:=by
    rw [←Int.pow_succ,←Int.pow_add]
    congr 1;omega
  rw [e,Int.add_mul_ediv_right _ _ (by omega)]
  omega
theorem xC {f:Nat→Bool}:∀ {n d:Nat},d<n→bsum f n/2^d%2=if f d=true then 1 else 0:=by
  intro n
  induction n with
  | zero=>intro d h;omega
  | succ n ih=>
    intro d hd
    have hb:=uI f n
    rw [bsum]
    by_cases e:d=n
    · subst e
      have h:=Xl hb.1 hb.2
      split
      · exact h.2
      · rw [Int.add_zero];exact h.1
    · split
      · rw [Xm (by omega)];exact ih (by omega)
      · rw [Int.add_zero];exact ih (by omega)
theorem Jo {f:Nat→Bool} {n d:Nat} (h:n≤d):bsum f n/2^d%2=0:=by
  have hb:=uI f n
  have hp:(2:Int)^n≤2^d:=by
    have h1:2^n≤2^d:=Nat.pow_le_pow_right (by decide) h
    exact_mod_cast h1
  rw [Int.ediv_eq_zero_of_lt hb.1 (by omega)];rfl
theorem yX (f:Nat→Bool) {n:Nat} (h:n≤39):0≤bsum f n∧bsum f n<2^40:=by
  have hb:=uI f n
  have hp:(2:Int)^n≤2^39:=by
    have h1:2^n≤2^39:=Nat.pow_le_pow_right (by decide) h
    exact_mod_cast h1
  omega
theorem Gx {d:Nat} (h:d≤39):i64ok (1*2^((d:Nat):Int).toNat):=by
  have hp:(2:Int)^d≤2^39:=by
    have h1:2^d≤2^39:=Nat.pow_le_pow_right (by decide) h
    exact_mod_cast h1
  have h0:=rI d
  rw [Int.toNat_natCast]
  unfold i64ok
  omega
theorem Sa {f:Nat→Bool} {n:Nat} (h:f n=true):bsum f n+2^((n:Nat):Int).toNat=bsum f (n+1):=by rw [bsum,if_pos h];rfl
theorem Sb {f:Nat→Bool} {n:Nat} (h:f n=false):bsum f n=bsum f (n+1):=by rw [bsum,if_neg (by rw [h];simp),Int.add_zero]
theorem pS {f g:Nat→Bool}:∀ {n:Nat},(∀ i,i<n→f i=g i)→bsum f n=bsum g n:=by
  intro n
  induction n with
  | zero=>intro _;rfl
  | succ n ih=>intro h;rw [bsum,bsum,ih fun i hi=>h i (by omega),h n (by omega)]
theorem Xn {m k:Nat} (hm:m<2^40) (hk:k<40) (h:m/2^k%2=0):IntKind.i64.wrap ((BitVec.ofInt 64 (m:Int) ||| BitVec.ofInt 64 ((2^k:Nat):Int)).toNat:Int)=((m+2^k:Nat):Int):=by
  have hp:2^k≤2^39:=Nat.pow_le_pow_right (by omega) (by omega)
  have e:((BitVec.ofInt 64 (m:Int) ||| BitVec.ofInt 64 ((2^k:Nat):Int)).toNat)=m+2^k:=by
    rw [BitVec.toNat_or,BitVec.ofInt_natCast,BitVec.ofInt_natCast,BitVec.toNat_ofNat,BitVec.toNat_ofNat,Nat.mod_eq_of_lt (by omega),Nat.mod_eq_of_lt (by omega)]
    exact aAq h
  rw [e]
  exact i64ok.eq ⟨by omega,by omega⟩
section
variable {P:Program} {L:List (Nat×Value)} {w:World} {d:Option Nat} {ty:TypeId} {pos:String} {af:Array Edge} {g:Option (Nat×Bool)}
theorem xD {x y:Operand} {xt yt:TypeId} {m k:Int} (hx:ev L x=some (.int .i64 m)) (hy:ev L y=some (.int .i64 (1*2^k.toNat))) (hm:0≤m∧m<2^40) (hk:0≤k∧k<40) (h:m/2^k.toNat%2=0) :
    Does P L ⟨d,.binOp .or xt x y yt,ty,pos,af,g⟩ w (.int .i64 (m+2^k.toNat)):=fun ρ hρ=>by
  obtain ⟨m,rfl⟩:∃ n:Nat,m=n:=⟨m.toNat,by omega⟩
  have e1:(1:Int)*2^k.toNat=((2^k.toNat:Nat):Int):=by push_cast;omega
  have h1:m/2^k.toNat%2=0:=by
    have h2:((m/2^k.toNat%2:Nat):Int)=0:=by push_cast;exact h
    omega
  have e2:(m:Int)+2^k.toNat=((m+2^k.toNat:Nat):Int):=by push_cast;rfl
  have e:Op.intBits .or .i64 (m:Int) (1*2^k.toNat)=pure (.int .i64 ((m:Int)+2^k.toNat)):=by
    rw [e1,e2]
    exact congrArg (fun z=>(pure (Value.int .i64 z):Sem Value)) (Xn (by have:=hm.2;omega) (by omega) h1)
  rw [Int.one_mul] at e
  simp [execOp,hρ _ _ hx,hρ _ _ hy,eqGuard,binOp,e]
end
structure LSt where
  uses:List Use
  born:Int
  seen:Int
def insp (j:Int):Bool:=decide (j/2^(1:Int).toNat%2=1)
def renw (j:Int):Bool:=decide (j/2^(2:Int).toNat%2=1)
def useAt (u:Unt) (d born:Int):Use:=⟨d-born,u.tn,u.cl,false,0,0⟩
noncomputable def bydB (p:Part) (l:List Use):Bool:=!decide ((bI p l Prod.snd).2=0)||decide (0≤(bI p l Prod.snd).1)
def seenN (s:LSt) (j:Int) (d:Nat):Int:=if insp j=true then (d:Int) else s.seen
def certN (u:Unt) (s:LSt) (j:Int) (d:Nat):Bool:=decide ((d:Int)-seenN s j d≤u.every)
noncomputable def runN (u:Unt) (s:LSt) (j:Int) (d:Nat):Bool:=(decide (j=0)&&certN u s j d)&&!bydB u.part (s.uses++[useAt u d s.born])
noncomputable def stepL (u:Unt) (s:LSt) (j:Int) (d:Nat):LSt:=⟨if renw j=true then [] else if runN u s j d=true then s.uses++[useAt u d s.born] else s.uses,if renw j=true then (d:Int) else s.born,seenN s j d⟩
noncomputable def lifeS (u:Unt) (J:Nat→Int):Nat→LSt
  | 0=>⟨u.uses,-u.old,u.seen⟩
  | d+1=>stepL u (lifeS u J d) (J d) d
noncomputable def certB (u:Unt) (J:Nat→Int) (d:Nat):Bool:=certN u (lifeS u J d) (J d) d
noncomputable def runB' (u:Unt) (J:Nat→Int) (d:Nat):Bool:=runN u (lifeS u J d) (J d) d
section
variable {u:Unt} {J J':Nat→Int} {d n:Nat}
theorem yY:∀ d,(lifeS u J d).uses.length≤u.uses.length+d:=by
  intro d
  induction d with
  | zero=>exact Nat.le_refl _
  | succ d ih=>
    show (stepL u (lifeS u J d) (J d) d).uses.length≤_
    unfold stepL
    dsimp only
    split
    · simp
    · split
      · rw [List.length_append];show _+1≤_;omega
      · omega
theorem xE (ho:0≤u.old∧u.old≤99980):∀ d,-99980≤(lifeS u J d).born∧(lifeS u J d).born≤d:=by
  intro d
  induction d with
  | zero=>exact ⟨by show -99980 ≤ -u.old;omega,by show -u.old≤((0:Nat):Int);omega⟩
  | succ d ih=>
    show -99980≤(stepL u (lifeS u J d) (J d) d).born∧(stepL u (lifeS u J d) (J d) d).born≤((d+1:Nat):Int)
    unfold stepL
    dsimp only
    split <;> omega
theorem Dv {s:LSt} {j:Int} (h : -20≤s.seen∧s.seen≤d) : -20≤seenN s j d∧seenN s j d≤d:=by
  unfold seenN
  split <;> omega
theorem Gy (ho : -20≤u.seen∧u.seen≤0):∀ d:Nat,-20≤(lifeS u J d).seen∧(lifeS u J d).seen≤d:=by
  intro d
  induction d with
  | zero=>exact ⟨ho.1,ho.2⟩
  | succ d ih=>
    have h:=Dv (j:=J d) ih
    show -20≤seenN (lifeS u J d) (J d) d∧seenN (lifeS u J d) (J d) d≤((d+1:Nat):Int)
    omega
theorem tJ:∀ d,(∀ i,i<d→J i=J' i)→lifeS u J d=lifeS u J' d:=by
  intro d
  induction d with
  | zero=>intro _;rfl
  | succ d ih=>intro h;rw [lifeS,lifeS,ih fun i hi=>h i (by omega),h d (by omega)]
theorem Gz (h:∀ i,i≤d→J i=J' i):runB' u J d=runB' u J' d:=by unfold runB';rw [tJ d fun i hi=>h i (by omega),h d (Nat.le_refl d)]
theorem Dw (h:∀ i,i≤d→J i=J' i):certB u J d=certB u J' d:=by unfold certB;rw [tJ d fun i hi=>h i (by omega),h d (Nat.le_refl d)]
end
theorem Xo {w w0:World} {F0:Nat→Prop} {R:List Mem} {i b ty n:Nat} {f:Nat→Value} (S:St w0 F0 R w) (hi:R[i]?=some (boxM b ty ((List.range n).map f))) (hn:n≤maxLen):St w0 F0 (R.set i (ownM ty 1 (some ⟨b,0,none⟩) n n (fun k _=>f k))) w:=by
  refine S.imp hi (fun h => .inr ⟨b,_,rfl,h,Nat.le_refl _,hn,by simp,fun k j hk hj=>?_⟩) (fun k hk=>by obtain ⟨a,e,h⟩:=hk;cases e;exact h.symm)
  have:j=0:=by omega
  subst this
  simp [hk]
theorem Jp (u:Unt) (J:Nat→Int) (d:Nat) (x:Int) (h:x=seenN (lifeS u J d) (J d) d):((decide (J d=0)&&decide ((d:Int)-x≤u.every))&&!bydB u.part ((lifeS u J d).uses++[⟨(d:Int)-(lifeS u J d).born,u.tn,u.cl,false,0,0⟩]))=runB' u J d:=by subst h;rfl
theorem Dx (u:Unt) (J:Nat→Int) (d:Nat) (x:Int) (h:x=seenN (lifeS u J d) (J d) d):decide ((d:Int)-x≤u.every)=certB u J d:=by subst h;rfl
noncomputable def usesN (u:Unt) (J:Nat→Int) (d:Nat):List Use:=if runB' u J d=true then (lifeS u J d).uses++[useAt u d (lifeS u J d).born] else (lifeS u J d).uses
theorem Sc {u:Unt} {J:Nat→Int} {d:Nat} {x:Int} (h:renw (J d)=true) (hx:x=seenN (lifeS u J d) (J d) d):(⟨[],(d:Int),x⟩:LSt)=lifeS u J (d+1):=by
  subst hx
  show _=stepL u (lifeS u J d) (J d) d
  unfold stepL
  simp only [h,if_true]
theorem Sd {u:Unt} {J:Nat→Int} {d:Nat} {x:Int} (h:renw (J d)=false) (hx:x=seenN (lifeS u J d) (J d) d):(⟨usesN u J d,(lifeS u J d).born,x⟩:LSt)=lifeS u J (d+1):=by
  subst hx
  show _=stepL u (lifeS u J d) (J d) d
  unfold stepL usesN
  simp only [h,Bool.false_eq_true,if_false]
  rfl
theorem uJ {u:Unt} {J:Nat→Int} {d:Nat} (h:runB' u J d=true):usesN u J d=(lifeS u J d).uses++[useAt u d (lifeS u J d).born]:=if_pos h
theorem uK {u:Unt} {J:Nat→Int} {d:Nat} (h:runB' u J d=false):usesN u J d=(lifeS u J d).uses:=if_neg (by rw [h];simp)
def hasT (l:List Tsk) (d u k:Int):Bool:=l.any fun t=>decide (t.day=d∧t.unit=u∧t.kind=k)
def jobV (l:List Tsk) (u d:Int):Int:=(if hasT l d u 1=true then 2 else 0)+(if hasT l d u 2=true then 4 else 0)
theorem yZ {l:List Tsk} {u d:Int}:insp (jobV l u d)=hasT l d u 1:=by
  unfold insp jobV
  cases hasT l d u 1 <;> cases hasT l d u 2 <;> decide
theorem jobV_renw {l:List Tsk} {u d:Int}:renw (jobV l u d)=hasT l d u 2:=by
  unfold renw jobV
  cases hasT l d u 1 <;> cases hasT l d u 2 <;> decide
theorem Mc {l:List Tsk} {u d:Int}:decide (jobV l u d=0)=(!hasT l d u 1&&!hasT l d u 2):=by
  unfold jobV
  cases hasT l d u 1 <;> cases hasT l d u 2 <;> decide
theorem Xp (l:List Tsk) (u d:Int):0≤jobV l u d∧jobV l u d≤6:=by
  unfold jobV
  cases hasT l d u 1 <;> cases hasT l d u 2 <;> decide
theorem Dy (l m:List Tsk) (d u k:Int):hasT (l++m) d u k=(hasT l d u k||hasT m d u k):=by unfold hasT;rw [List.any_append]
def jobF (l:List Tsk) (u:Nat):Nat→Int:=fun d=>jobV l u d
noncomputable def runsY (y:Yr) (l:List Tsk) (i d:Nat):Bool:=runB' (y.us.getD i Unt.zero) (jobF l i) d
noncomputable def certY (y:Yr) (l:List Tsk) (i d:Nat):Bool:=certB (y.us.getD i Unt.zero) (jobF l i) d
noncomputable def outY (y:Yr) (l:List Tsk) (d:Nat):Nat→Int
  | 0=>0
  | i+1=>outY y l d i+if runsY y l i d=true then 0 else 2^(y.us.getD i Unt.zero).mach.toNat
def frzM (B:Nat→Prop) (wz:World):Mem where
  fp:=B
  holds:=fun w=>∀ k,B k→w.heap[k]?=wz.heap[k]?
  stable:=fun _ _ h h' k hk=>(h k hk).trans (h' k hk)
def RdF (w0:World) (F0 B:Nat→Prop) (wz:World) (sz:Nat) (A:Option Addr) (n:Nat) (cell:Nat→Nat→Value):Prop:=
  0<n→∃ b o,A=some ⟨b,o,none⟩∧((b<w0.heap.size∧¬ F0 b∧∀ k j,k<n→j<sz→w0.cell? ⟨b,o+k*sz+j,none⟩=some (cell k j))∨(B b∧b<wz.heap.size∧∀ k j,k<n→j<sz→wz.cell? ⟨b,o+k*sz+j,none⟩=some (cell k j)))
section
variable {w w0 wz:World} {F0 B:Nat→Prop} {R:List Mem} {sz n c i:Nat} {A:Option Addr} {cell:Nat→Nat→Value} {e:TypeId}
theorem RdF.base (h:InS w0 F0 sz A n cell):RdF w0 F0 B wz sz A n cell:=fun hn=>by
  obtain ⟨b,o,e,h1,h2,h3⟩:=h hn
  exact ⟨b,o,e,.inl ⟨h1,h2,h3⟩⟩
theorem RdF.nil:RdF w0 F0 B wz sz A 0 cell:=fun hn=>absurd hn (Nat.lt_irrefl 0)
theorem RdF.now (h:RdF w0 F0 B wz sz A n cell) (S:St w0 F0 R w) (hi:R[i]?=some (frzM B wz)):InS w noF sz A n cell:=fun hn=>by
  obtain ⟨b,o,e,h⟩:=h hn
  rcases h with ⟨h1,h2,h3⟩|⟨h1,h2,h3⟩
  · refine ⟨b,o,e,Nat.lt_of_lt_of_le h1 S.size,fun h=>h,fun k j hk hj=>?_⟩
    rw [←h3 k j hk hj]
    exact World.cell?_of_block (w:=w0) (S.ro b h1 h2)
  · refine ⟨b,o,e,(S.inn _ (List.mem_of_getElem? hi) b h1).1,fun h=>h,fun k j hk hj=>?_⟩
    rw [←h3 k j hk hj]
    exact World.cell?_of_block (w:=wz) (S.holds hi b h1)
theorem St.frz0 (S:St w0 F0 R w):St w0 F0 (frzM noF w::R) w:=S.new (Keeps.refl _ _) (fun _ h=>h.elim) (fun _ h=>h.elim)
theorem RdF.grow {B':Nat→Prop} (h:RdF w0 F0 B wz sz A n cell) (S:St w0 F0 R w) (hi:R[i]?=some (frzM B wz)) (hB:∀ k,B k→B' k):RdF w0 F0 B' w sz A n cell:=fun hn=>by
  obtain ⟨b,o,e,h⟩:=h hn
  rcases h with h|⟨h1,h2,h3⟩
  · exact ⟨b,o,e,.inl h⟩
  · refine ⟨b,o,e,.inr ⟨hB b h1,(S.inn _ (List.mem_of_getElem? hi) b h1).1,fun k j hk hj=>?_⟩⟩
    rw [←h3 k j hk hj]
    exact World.cell?_of_block (w:=wz) (S.holds hi b h1)
theorem St.freeze (S:St w0 F0 (ownM e sz A n c cell::R) w) (hi:R[i]?=some (frzM B wz)) :
    ∃ B',St w0 F0 (R.set i (frzM B' w)) w∧RdF w0 F0 B' w sz A n cell∧∀ sz' A' n' cell',RdF w0 F0 B wz sz' A' n' cell'→RdF w0 F0 B' w sz' A' n' cell':=by
  refine ⟨fun k=>B k∨(ownM e sz A n c cell).fp k,S.merge (i:=i) hi (fun _ _=>rfl) (fun k h=>h.symm),fun hn=>?_,fun sz' A' n' cell' h=>h.grow S (i:=i+1) (by simpa using hi) fun _ h => .inl h⟩
  have hown:=S.holds (i:=0) rfl
  rcases hown with ⟨_,h,_⟩|⟨b,cs,rfl,hb,h1,h2,h3,h4⟩
  · omega
  · refine ⟨b,0,rfl,.inr ⟨.inr ⟨_,rfl,rfl⟩,eQ hb,fun k j hk hj=>?_⟩⟩
    rw [←h4 k j hk hj,Nat.zero_add]
    exact cell_of_row w b (k*sz+j) cs e (0,0) hb
end
section
variable {P:Program} {ops:Array Oper} {w w0:World} {F0:Nat→Prop} {R:List Mem} {Q:Exit→Act→World→Prop} {rest:List Oper} {N:FN} {L:List (Nat×Value)} {a:Act} {ty:TypeId} {pos:String} {af:Array Edge}
theorem rJ {d t e sz by_ n c m c':Nat} {x y:Operand} {zs:List Value} {A B:Option Addr} {cell cell':Nat→Nat→Value} (H:Fr N L a) (hd:Nat.blt d N.n=true) (S:St w0 F0 R w) (ht:SlT P t e) (hs:Sz P e sz) (hz:Zero P e zs) (hby:Bytes P e by_) (hzs:Nat.beq zs.length sz=true) (hpos:Nat.blt 0 sz=true)
    (hx:ev L x=some (.slice A n c)) (hy:ev L y=some (.slice B m c')) (hA:InS w noF sz A n cell) (hn:A=none→n=0∧c=0) (hfull:c<n+m) (hm:0<m) (hB:InS w noF sz B m cell') (hone:∀ k j,k<m→j<sz→(cell' k j).oneCell'=true)
    (hlen:(n+m)*by_≤140737488355328) (hlen2:n+m≤9223372036854775807)
    (k:∀ A' c1 w' a',St w0 F0 (ownM e sz A' (n+m) c1 (capp n cell cell')::R) w'→Fr N ((d,.slice A' (n+m) c1)::L) a'→wpList P ops Q rest a' w') :
    wpList P ops Q (⟨some d,.call ⟨.builtin .append,#[x,y],#[t,t]⟩,ty,pos,af,none⟩::rest) a w:=by
  have hpos':0<sz:=by simpa using hpos
  have hzs':zs.length=sz:=Nat.eq_of_beq_eq_true hzs
  have hflat:∀ (q:Nat) (C:Option Addr) (cl:Nat→Nat→Value),InS w noF sz C q cl→∀ b,C=some b→∀ (j:Nat) u,(flat sz q cl)[j]?=some u→w.cell? (b.add j)=some u:=by
    intro q C cl h b hb j u hu
    have hjl:j<q*sz:=by
      have:=(List.getElem?_eq_some_iff.1 hu).1
      simpa [flat] using this
    have hq0:0<q:=by
      rcases Nat.eq_zero_or_pos q with h0|h0
      · subst h0;omega
      · exact h0
    obtain ⟨b',o,hC,_,_,hc⟩:=h hq0
    rw [hb] at hC
    injection hC with hC
    subst hC
    rw [gO]
    have hk:j/sz<q:=(Nat.div_lt_iff_lt_mul hpos').2 hjl
    have hj:j%sz<sz:=Nat.mod_lt _ hpos'
    have he:j/sz*sz+j%sz=j:=by rw [Nat.mul_comm];exact Nat.div_add_mod j sz
    have h1:=hc _ _ hk hj
    have h2:=kF (cell:=cl) hk hj
    rw [he,hu,Option.some.injEq] at h2
    rw [Nat.add_assoc,he] at h1
    rw [h1,h2]
  unfold Zero at hz
  unfold Sz at hs
  unfold Bytes at hby
  cases hi:P.info? e with
  | none=>rw [hi] at hz;simp at hz
  | some i=>
    rw [hi] at hz hs hby
    simp at hz hs hby
    obtain ⟨z,hz1,hz2⟩:=hz
    have hzsz:z.cells.size=sz:=by rw [←hzs',←hz2];simp
    obtain ⟨bb,bo,hBe,_⟩:=hB hm
    have hone':∀ u ∈ flat sz m cell',u.oneCell'=true:=by
      intro u hu
      simp only [flat,List.mem_map,List.mem_range] at hu
      obtain ⟨q,hq,rfl⟩:=hu
      exact hone _ _ ((Nat.div_lt_iff_lt_mul hpos').2 hq) (Nat.mod_lt _ hpos')
    refine wpList_append_grows (w:=w) rfl x y t rfl e i z sz by_ ht hi hz1 hs hby hzsz hpos' A n c (flat sz n cell) (H.eval hx) hn (by simp [flat]) (hflat n A cell hA) ⟨bb,bo,none⟩ m c' (flat sz m cell') (by rw [H.eval hy,hBe]) (by simp [flat]) (fun j u hu=>hflat m B cell' hB ⟨bb,bo,none⟩ hBe j u hu) hone' hfull (by simp only [maxLen];omega) hlen ?_
    intro v' w' hown hgrow
    have hfl:∀ k j,k<n+m→j<sz→(flat sz n cell++flat sz m cell')[k*sz+j]?=some (capp n cell cell' k j):=by
      intro k j hk hj
      have hl:(flat sz n cell).length=n*sz:=by simp [flat]
      unfold capp
      by_cases hkn:k<n
      · rw [if_pos hkn]
        have hlt:k*sz+j<n*sz:=by
          have:(k+1)*sz≤n*sz:=Nat.mul_le_mul_right _ (by omega)
          rw [Nat.add_mul] at this
          omega
        rw [List.getElem?_append_left (by omega)]
        exact kF hkn hj
      · rw [if_neg hkn]
        have hge:n*sz≤k*sz:=Nat.mul_le_mul_right _ (by omega)
        rw [List.getElem?_append_right (by omega),hl]
        have:k*sz+j-n*sz=(k-n)*sz+j:=by rw [Nat.sub_mul];omega
        rw [this]
        exact kF (by omega) hj
    have hown0:w'.ownsRow 0 e sz v' (n+m) (flat sz n cell++flat sz m cell'):=⟨hown.1,hown.2.imp (fun h=>h) fun ⟨g,cap,cur,h1,h2,h3⟩=>⟨g,cap,cur,h1,Nat.zero_le _,h3⟩⟩
    obtain ⟨A',c1,rfl,h6,h7⟩:=zS (cell:=capp n cell cell') hown0 hfl
    refine k A' c1 w' _ (S.new ((Keeps.of_grown hgrow).mono fun k hk=>by cases hk) h6 ?_) (H.put _ hd)
    rintro q ⟨aa,rfl,rfl⟩
    rcases hown.2 with ⟨h,_⟩|⟨g,cap,cur,h,h1,h2,_⟩
    · cases h
    · injection h with h _ _
      injection h with h
      subst h
      exact ⟨h1,eQ h2⟩
end
theorem tK {P:Program} {L:List (Nat×Value)} {w:World} {d:Option Nat} {ty:TypeId} {pos:String} {af:Array Edge} {g:Option (Nat×Bool)} {t e sz:Nat} {x y z:Operand} {A:Option Addr} {n c hi:Nat} {k1 k2:IntKind} (ht:SlT P t e) (hs:Sz P e sz) (hx:ev L x=some (.slice A n c)) (hy:ev L y=some (.int k1 (hi:Int))) (hz:ev L z=some (.int k2 (hi:Int))) (h:hi≤c) :
    Does P L ⟨d,.slice t x none (some y) (some z),ty,pos,af,g⟩ w (.slice A hi hi):=fun ρ hρ=>by
  have hb:(Instr.sliceBounds true n c none (some (.int k1 (hi:Int))) (some (.int k2 (hi:Int)))).run P w = .ok (0,hi,hi) w:=by
    simp [Instr.sliceBounds,Instr.sliceBound,asIntOf,h]
  have e1:(Instr.sliceAt t (.slice A n c) none (some (.int k1 (hi:Int))) (some (.int k2 (hi:Int)))).run P w = .ok (.slice A hi hi) w:=by
    unfold Instr.sliceAt
    simp only [Sem.run_bind,cL ht,Result.andThen_ok,Instr.slice,hb,hs.run,Sem.run_pure]
    have e0:(if hi=0 then A else A.map (·.add (0*sz)))=A:=by
      split
      · rfl
      · cases A with
        | none=>rfl
        | some ad=>simp [Addr.add]
    rw [e0]
    rfl
  simp [execOp,hρ _ _ hx,hρ _ _ hy,hρ _ _ hz,e1]
section
variable {w w0:World} {F0:Nat→Prop} {R:List Mem} {i b:Nat} {κ:Type} [DecidableEq κ] {enc:κ→Value} {Φ Φ':(κ→Option Value)→Prop}
theorem mapK.fix (S:St w0 F0 R w) (hi:R[i]?=some (mapK enc b Φ)):∃ h0,Φ h0∧St w0 F0 (R.set i (mapK enc b (fun h=>h=h0))) w:=by
  obtain ⟨es,ck,l,h1,h2,h3,h4,h5⟩:=S.holds hi
  exact ⟨getL l,h5,S.imp hi (fun _=>⟨es,ck,l,h1,h2,h3,h4,rfl⟩) (fun _ h=>h)⟩
theorem mapK.weak (S:St w0 F0 R w) (hi:R[i]?=some (mapK enc b Φ)) (h:∀ g,Φ g→Φ' g):St w0 F0 (R.set i (mapK enc b Φ')) w:=
  S.imp hi (fun ⟨es,ck,l,h1,h2,h3,h4,h5⟩=>⟨es,ck,l,h1,h2,h3,h4,h _ h5⟩) (fun _ h=>h)
theorem Dz {ty:TypeId} {cs:List Value} (S:St w0 F0 R w) (hi:R[i]?=some (boxM b ty cs)) (hn:cs.length≤maxLen):St w0 F0 (R.set i (ownM ty 1 (some ⟨b,0,none⟩) cs.length cs.length (fun k _=>cs.getD k undef))) w:=by
  refine S.imp hi (fun h => .inr ⟨b,_,rfl,h,Nat.le_refl _,hn,by simp,fun k j hk hj=>?_⟩) (fun k hk=>by obtain ⟨a,e,h⟩:=hk;cases e;exact h.symm)
  have:j=0:=by omega
  subst this
  simp [hk]
theorem Xq {ty:TypeId} {n:Nat} {cell:Nat→Nat→Value} (S:St w0 F0 R w) (hi:R[i]?=some (ownM ty 1 (some ⟨b,0,none⟩) n n cell)):St w0 F0 (R.set i (boxM b ty ((List.range n).map fun k=>cell k 0))) w:=by
  refine S.imp hi (fun h=>?_) (fun k hk=>⟨_,rfl,hk.symm⟩)
  rcases h with ⟨h,_⟩|⟨b',cs,hA,hb,h1,h2,h3,h4⟩
  · cases h
  · injection hA with hA
    injection hA with hA
    subst hA
    show w.heap[b]?=_
    rw [hb]
    have e:cs=((List.range n).map fun k=>cell k 0).toArray:=by
      apply Array.ext
      · simp;omega
      · intro k hk1 hk2
        have hk:k<n:=by simpa using hk2
        have:=h4 k 0 hk (by omega)
        rw [Nat.mul_one,Nat.add_zero,Array.getElem?_eq_getElem hk1,Option.some.injEq] at this
        rw [this];simp
    rw [e]
end
def orJ (j k:Int):Int:=if k=1 then (if j/2%2=1 then j else j+2) else (if j/4%2=1 then j else j+4)
theorem Se {P:Program} {L:List (Nat×Value)} {w:World} {d:Option Nat} {ty:TypeId} {pos:String} {af:Array Edge} {g:Option (Nat×Bool)} {x y:Operand} {xt yt:TypeId} {j k:Int} (hx:ev L x=some (.int .i64 j)) (hy:ev L y=some (.int .i64 (1*2^k.toNat))) (hj:j=0∨j=2∨j=4∨j=6) (hk:1≤k∧k≤2) :
    Does P L ⟨d,.binOp .or xt x y yt,ty,pos,af,g⟩ w (.int .i64 (orJ j k)):=fun ρ hρ=>by
  have hk':k=1∨k=2:=by omega
  have e:Op.intBits .or .i64 j (1*2^k.toNat)=pure (.int .i64 (orJ j k)):=by
    rcases hk' with rfl|rfl <;> rcases hj with rfl|rfl|rfl|rfl <;> rfl
  simp only [execOp,hρ _ _ hx,hρ _ _ hy]
  rw [Int.one_mul] at e
  simp [eqGuard,binOp,e]
theorem Md (l:List Tsk) (u d:Int):jobV l u d=0∨jobV l u d=2∨jobV l u d=4∨jobV l u d=6:=by
  unfold jobV
  cases hasT l d u 1 <;> cases hasT l d u 2 <;> decide
theorem Sf (t:Tsk) (d u k:Int):hasT [t] d u k=decide (t.day=d∧t.unit=u∧t.kind=k):=by
  unfold hasT;simp
theorem xF {l:List Tsk} {t:Tsk} {u d:Int} (hk:1≤t.kind∧t.kind≤2):jobV (l++[t]) u d=if t.unit=u∧t.day=d then orJ (jobV l u d) t.kind else jobV l u d:=by
  have h1:=Dy l [t] d u 1
  have h2:=Dy l [t] d u 2
  rw [Sf] at h1 h2
  by_cases h:t.unit=u∧t.day=d
  · rw [if_pos h]
    have hk':t.kind=1∨t.kind=2:=by omega
    unfold jobV
    rw [h1,h2]
    rcases hk' with e|e
    · rw [e,decide_eq_true (show t.day=d∧t.unit=u∧(1:Int)=1 from ⟨h.2,h.1,rfl⟩),decide_eq_false (show ¬ (t.day=d∧t.unit=u∧(1:Int)=2) from fun h=>by omega)]
      cases hasT l d u 1 <;> cases hasT l d u 2 <;> decide
    · rw [e,decide_eq_false (show ¬ (t.day=d∧t.unit=u∧(2:Int)=1) from fun h=>by omega),decide_eq_true (show t.day=d∧t.unit=u∧(2:Int)=2 from ⟨h.2,h.1,rfl⟩)]
      cases hasT l d u 1 <;> cases hasT l d u 2 <;> decide
  · rw [if_neg h]
    unfold jobV
    rw [h1,h2,decide_eq_false (fun h9=>h ⟨h9.2.1,h9.1⟩),decide_eq_false (fun h9=>h ⟨h9.2.1,h9.1⟩),Bool.or_false,Bool.or_false]
theorem zA {l:List Tsk} {k:Nat} (hk:k<l.length):l.take (k+1)=l.take k++[l.getD k Tsk.zero]:=by
  rw [List.take_succ_eq_append_getElem hk,List.getD_eq_getElem?_getD,List.getElem?_eq_getElem hk]
  rfl
def kcl (i:Nat) (J:Nat→Int) (k _j:Nat):Value:=if k=0 then .int .i64 i else .int .i64 (J (k-1))
def jobP (l:List Tsk) (n i:Nat):Nat→Int:=fun d=>jobV (l.take n) i d
theorem Sg (l:List Tsk) (i:Nat):jobP l l.length i=jobF l i:=by
  funext d;unfold jobP jobF;rw [List.take_length]
theorem Me (l:List Tsk) (i:Nat):jobP l 0 i=fun _=>0:=by funext d;rfl
theorem Sh {l:List Tsk} {i k j:Nat} (hk:k<21) (hj:j<1):(([.int .i64 (i:Int),.int .i64 0,.int .i64 0,.int .i64 0,.int .i64 0,.int .i64 0,.int .i64 0,.int .i64 0,.int .i64 0,.int .i64 0,.int .i64 0,.int .i64 0,.int .i64 0,.int .i64 0,.int .i64 0,.int .i64 0,.int .i64 0,.int .i64 0,.int .i64 0,.int .i64 0,.int .i64 0]:List Value).getD k undef)=kcl i (jobP l 0 i) k j:=by
  rw [Me]
  unfold kcl
  rcases Nat.eq_zero_or_pos k with e|e
  · subst e;rfl
  · rw [if_neg (by omega)]
    obtain ⟨q,rfl⟩:∃ q,k=q+1:=⟨k-1,by omega⟩
    have hq:q<20:=by omega
    show ((List.replicate 20 (Value.int .i64 0)).getD q undef)=_
    rw [List.getD_eq_getElem?_getD,List.getElem?_replicate,if_pos hq]
    rfl
theorem Xr {k:Int} (h:1≤k∧k≤2):i64ok (1*2^k.toNat):=by
  have hk':k=1∨k=2:=by omega
  rcases hk' with rfl|rfl <;> (unfold i64ok;decide)
theorem Xs {l:List Tsk} {n i:Nat} (hn:n<l.length) (hk:1≤(l.getD n Tsk.zero).kind∧(l.getD n Tsk.zero).kind≤2) (h:¬ (l.getD n Tsk.zero).unit=(i:Int)):jobP l (n+1) i=jobP l n i:=by
  funext d
  unfold jobP
  rw [zA hn,xF hk,if_neg (fun h9=>h h9.1)]
theorem Xu {l:List Tsk} {n i d:Nat} (hn:n<l.length) (hk:1≤(l.getD n Tsk.zero).kind∧(l.getD n Tsk.zero).kind≤2) (h:(l.getD n Tsk.zero).unit=(i:Int)) (hd:(l.getD n Tsk.zero).day=(d:Int)) :
    ∀ k j,j<1→cput (kcl i (jobP l n i)) (d+1) 0 (.int .i64 (orJ (jobP l n i d) (l.getD n Tsk.zero).kind)) k j=kcl i (jobP l (n+1) i) k j:=by
  intro k j hj
  have hj0:j=0:=by omega
  subst hj0
  unfold cput kcl jobP
  rw [zA hn]
  by_cases e:k=d+1
  · subst e
    rw [if_pos ⟨rfl,rfl⟩,if_neg (by omega),Nat.add_sub_cancel,xF hk,if_pos ⟨h,hd⟩]
  · rw [if_neg (fun h9=>e h9.1)]
    by_cases e0:k=0
    · rw [if_pos e0,if_pos e0]
    · rw [if_neg e0,if_neg e0,xF hk,if_neg (fun h9=>by omega)]
def keyOf (i:Nat) (J:Nat→Int):KeyN 21:=⟨(i:Int)::(List.range 20).map J,by simp⟩
noncomputable def lifeV (u:Unt) (J:Nat→Int) (n:Nat):Value := .agg [.int .i64 (bsum (runB' u J) n),.int .i64 (bsum (certB u J) n)].toArray
theorem Ea {u:Unt} {J J':Nat→Int} {n:Nat} (h:∀ d,d<n→J d=J' d):lifeV u J n=lifeV u J' n:=by
  unfold lifeV
  rw [pS (f:=runB' u J) (g:=runB' u J') fun d hd=>Gz fun i hi=>h i (by omega),pS (f:=certB u J) (g:=certB u J') fun d hd=>Dw fun i hi=>h i (by omega)]
theorem Mf {i i':Nat} {J J':Nat→Int} (h:keyOf i J=keyOf i' J'):i=i'∧∀ d,d<20→J d=J' d:=by
  have h1:(i:Int)::(List.range 20).map J=(i':Int)::(List.range 20).map J':=congrArg Subtype.val h
  injection h1 with h2 h3
  refine ⟨by omega,fun d hd=>?_⟩
  have h4:=congrArg (fun l=>l[d]?) h3
  simp only [List.getElem?_map,List.getElem?_range hd,Option.map_some,Option.some.injEq] at h4
  exact h4
def livP (y:Yr) (h:KeyN 21→Option Value):Prop:=∀ i J v,i<y.us.length→h (keyOf i J)=some v→v=lifeV (y.us.getD i Unt.zero) J y.days.toNat
theorem Mg {y:Yr}:livP y (fun _=>none):=fun _ _ _ _ h=>by cases h
theorem Si {y:Yr} {i:Nat} {J:Nat→Int} {v:Value} (hd:y.days.toNat≤20) (hv:v=lifeV (y.us.getD i Unt.zero) J y.days.toNat):∀ h,livP y h→livP y (fun k'=>if k'=keyOf i J then some v else h k'):=fun h hh i' J' v' hi' hv'=>by
  dsimp only at hv'
  split at hv'
  · rename_i e
    obtain ⟨e1,e2⟩:=Mf e
    subst e1
    rw [Option.some.injEq] at hv'
    rw [←hv',hv]
    exact Ea fun d hd'=>(e2 d (by omega)).symm
  · exact hh i' J' v' hi' hv'
noncomputable def leavB (y:Yr) (out:Int):Bool:=decide (mfv y.pl.toNat y.limit.toNat y.pe y.xs (hds out y.xs y.ps)=sumI y.pe y.pe.length)
def safP (y:Yr) (h:Int→Option Value):Prop:=∀ o v,(0≤o∧o≤4095)→h o=some v→v = .bool (leavB y o)
theorem Mh {y:Yr}:safP y (fun _=>none):=fun _ _ _ h=>by cases h
theorem Sj {y:Yr} {o:Int} {v:Value} (hv:v = .bool (leavB y o)):∀ h,safP y h→safP y (fun k'=>if k'=o then some v else h k'):=fun h hh o' v' ho' hv'=>by
  dsimp only at hv'
  split at hv'
  · rename_i e;subst e;rw [Option.some.injEq] at hv';rw [←hv',hv]
  · exact hh o' v' ho' hv'
noncomputable def prmB (y:Yr) (d out:Int) (k:Nat):Bool:=!(decide ((y.prs.getD k Prm.zero).first≤d)&&decide (d≤(y.prs.getD k Prm.zero).last))||decide (0≤dst y.pl.toNat y.ps out (y.help&&(y.prs.getD k Prm.zero).helped) (y.prs.getD k Prm.zero).to.toNat (y.prs.getD k Prm.zero).fr.toNat)
noncomputable def keepB (y:Yr) (d out:Int):Bool:=allN (prmB y d out) y.prs.length
def kepP (y:Yr) (h:Int×Int→Option Value):Prop:=∀ d o v,(0≤o∧o≤4095)→h (d,o)=some v→v = .bool (keepB y d o)
theorem Mi {y:Yr}:kepP y (fun _=>none):=fun _ _ _ _ h=>by cases h
theorem Sk {y:Yr} {d o:Int} {v:Value} (hv:v = .bool (keepB y d o)):∀ h,kepP y h→kepP y (fun k'=>if k'=(d,o) then some v else h k'):=fun h hh d' o' v' ho' hv'=>by
  dsimp only at hv'
  split at hv'
  · rename_i e;cases e;rw [Option.some.injEq] at hv';rw [←hv',hv]
  · exact hh d' o' v' ho' hv'
theorem Sl {f g:Nat→Bool} {n:Nat} (h1:f n=false) (h2:g n=true) (h3:∀ i,i≠n→g i=f i):∀ N,bsum g N=bsum f N+if n<N then 2^n else 0:=by
  intro N
  induction N with
  | zero=>rw [if_neg (by omega)];rfl
  | succ N ih=>
    rw [bsum,bsum,ih]
    by_cases e:N=n
    · subst e
      rw [h1,h2,if_neg (Nat.lt_irrefl N),if_pos (c:=N<N+1) (by omega)]
      simp
    · rw [h3 N e]
      generalize (if f N=true then (2:Int)^N else 0)=z
      by_cases h4:n<N
      · rw [if_pos h4,if_pos (c:=n<N+1) (by omega)];omega
      · rw [if_neg h4,if_neg (c:=n<N+1) (by omega)];omega
noncomputable def outM (y:Yr) (l:List Tsk) (d k m:Nat):Bool:=!allN (fun i=>!(decide ((y.us.getD i Unt.zero).mach=(m:Int))&&!runsY y l i d)) k
section
variable {y:Yr} {l:List Tsk} {d k m:Nat}
theorem sN:outM y l d (k+1) m=(outM y l d k m||(decide ((y.us.getD k Unt.zero).mach=(m:Int))&&!runsY y l k d)):=by
  unfold outM
  simp only [allN,Bool.not_and,Bool.not_not,Bool.not_or]
theorem Sm:outM y l d k m=true↔∃ i,i<k∧(y.us.getD i Unt.zero).mach=(m:Int)∧runsY y l i d=false:=by
  unfold outM
  rw [Bool.not_eq_true',←Bool.not_eq_true,bQ]
  constructor
  · intro h
    refine Classical.byContradiction fun h2=>h fun i hi=>?_
    rw [Bool.not_eq_true',←Bool.not_eq_true,Bool.and_eq_true,decide_eq_true_eq,Bool.not_eq_true']
    exact fun h3=>h2 ⟨i,hi,h3⟩
  · rintro ⟨i,hi,h1,h2⟩ h
    have:=h i hi
    rw [h1,h2] at this
    simp at this
theorem mC {ps:List Psg} {us:List Unt} {P:Int} {xs:List Int} (V:StV P ps xs) {u:Unt} {i:Nat} (h:UntOk ps us u i):(0≤u.mach∧u.mach≤11)∧∀ j,j<i→(us.getD j Unt.zero).mach≠u.mach:=by
  obtain ⟨⟨k,hk,h1,h2⟩,h3⟩:=sM.1 h.free
  have h4:=bS.1 (V.pas k hk)
  exact ⟨by omega,h3⟩
theorem YOk.V (h:YOk y):StV y.pl y.ps y.xs:=gK (qW (qX h.kept).1).1
theorem xG (h:YOk y) (hk:k<y.us.length):outM y l d k (y.us.getD k Unt.zero).mach.toNat=false:=by
  have h1:=mC h.V (kQ.1 (h.un k hk))
  rw [←Bool.not_eq_true,Sm]
  rintro ⟨i,hi,h2,_⟩
  have:=h1.2 i hi
  omega
theorem zC (h:YOk y):∀ k,k≤y.us.length→outY y l d k=bsum (outM y l d k) 12:=by
  intro k
  induction k with
  | zero=>
    intro _
    have:∀ N,bsum (outM y l d 0) N=0:=fun N=>by
      induction N with
      | zero=>rfl
      | succ N ih=>rw [bsum,ih];rfl
    rw [this];rfl
  | succ k ih=>
    intro hk
    have h1:=mC h.V (kQ.1 (h.un k (by omega)))
    have hf:=xG (l:=l) (d:=d) h (show k<y.us.length by omega)
    rw [outY,ih (by omega)]
    by_cases hr:runsY y l k d=true
    · rw [if_pos hr,Int.add_zero]
      refine pS fun i _=>?_
      rw [sN,hr]
      simp
    · rw [if_neg hr]
      rw [Bool.not_eq_true] at hr
      rw [Sl (g:=outM y l d (k+1)) (n:=(y.us.getD k Unt.zero).mach.toNat) hf (by rw [sN,hr,decide_eq_true (by omega)];simp) (fun i hi=>by rw [sN,decide_eq_false (by omega)];simp),if_pos (by omega)]
theorem rK (h:YOk y) (hk:k≤y.us.length):0≤outY y l d k∧outY y l d k≤4095:=by
  rw [zC h k hk]
  have:=uI (outM y l d k) 12
  have e:(2:Int)^12=4096:=by decide
  omega
theorem Sn (h:YOk y) (hk:k≤y.us.length) (hm:m<12):outY y l d k/2^m%2=if outM y l d k m=true then 1 else 0:=by
  rw [zC h k hk];exact xC hm
theorem Ha (h:YOk y) (hk:k<y.us.length):outY y l d k/2^(y.us.getD k Unt.zero).mach.toNat%2=0:=by
  have h1:=mC h.V (kQ.1 (h.un k hk))
  rw [Sn h (by omega) (by omega),xG h hk];rfl
theorem So (hr:runsY y l k d=true):outY y l d (k+1)=outY y l d k:=by rw [outY,if_pos hr,Int.add_zero]
theorem Sp (hr:runsY y l k d=false):outY y l d (k+1)=outY y l d k+2^(y.us.getD k Unt.zero).mach.toNat:=by rw [outY,if_neg (by rw [hr];simp)]
noncomputable def setsQ (y:Yr) (l:List Tsk) (k q:Nat) (d _j:Nat):Value := .int .i64 (if d<q then outY y l d (k+1) else outY y l d k)
noncomputable def setsV (y:Yr) (l:List Tsk) (k:Nat) (d _j:Nat):Value := .int .i64 (outY y l d k)
theorem xH:setsQ y l k 0=setsV y l k:=by
  funext d j;unfold setsQ setsV;rw [if_neg (by omega)]
theorem zD {n:Nat}:∀ d j,d<n→j<1→setsQ y l k n d j=setsV y l (k+1) d j:=fun d j hd _=>by
  unfold setsQ setsV;rw [if_pos hd]
theorem zE {q:Nat} (hr:runsY y l k q=true):setsQ y l k q=setsQ y l k (q+1):=by
  funext d j
  unfold setsQ
  by_cases e:d=q
  · subst e;rw [if_neg (by omega),if_pos (by omega),So hr]
  · by_cases h:d<q
    · rw [if_pos h,if_pos (by omega)]
    · rw [if_neg h,if_neg (by omega)]
theorem zF {q:Nat} {v:Int} (hr:runsY y l k q=false) (hv:v=outY y l q k+2^(y.us.getD k Unt.zero).mach.toNat):∀ d j,j<1→cput (setsQ y l k q) q 0 (.int .i64 v) d j=setsQ y l k (q+1) d j:=fun d j hj=>by
  subst hv
  have:j=0:=by omega
  subst this
  unfold cput setsQ
  by_cases e:d=q
  · subst e;rw [if_pos ⟨rfl,rfl⟩,if_pos (by omega),Sp hr]
  · rw [if_neg (fun h=>e h.1)]
    by_cases h:d<q
    · rw [if_pos h,if_pos (by omega)]
    · rw [if_neg h,if_neg (by omega)]
theorem aEo {n q:Nat} (hq:q<n) (h:bsum (runB' (y.us.getD k Unt.zero) (jobF l k)) n/2^((q:Nat):Int).toNat%2=0):runsY y l k q=false:=by
  rw [Int.toNat_natCast,xC hq] at h
  rw [←Bool.not_eq_true]
  intro h2
  have h3:runB' (y.us.getD k Unt.zero) (jobF l k) q=true:=h2
  rw [if_pos h3] at h
  cases h
theorem aEp {n q:Nat} (hq:q<n) (h:¬ bsum (runB' (y.us.getD k Unt.zero) (jobF l k)) n/2^((q:Nat):Int).toNat%2=0):runsY y l k q=true:=by
  rw [Int.toNat_natCast,xC hq] at h
  refine Classical.byContradiction fun h2=>h ?_
  rw [if_neg (show ¬ runB' (y.us.getD k Unt.zero) (jobF l k) q=true from h2)]
theorem YOk.leave (h:YOk y) {out:Int} (ho:0≤out∧out≤4095):dS y.pl y.ps y.xs out y.pe y.limit=0:=by
  have h1:=(qW (qX h.kept).1).1
  have h2:=h.yr
  unfold yrI at h2
  unfold dS
  rw [if_neg (by omega),if_pos]
  have h4:fI y.pl y.pe=true:=by unfold fI;rw [decide_eq_true h2.2.1.1,Bool.and_true,bQ];exact fun k hk=>decide_eq_true (h2.2.1.2 k hk)
  rw [h4,decide_eq_true ho,decide_eq_true h2.2.2.1]
  rfl
end
def spS (y:Yr) (d k:Nat):Nat→Int
  | 0=>0
  | n+1=>spS y d k n+if (y.sps.getD n Spr.zero).day=(d:Int)∧(y.sps.getD n Spr.zero).kind=(k:Int) then (y.sps.getD n Spr.zero).many else 0
def tkK (y:Yr) (l:List Tsk) (n:Nat):Int:=(y.us.getD (l.getD n Tsk.zero).unit.toNat Unt.zero).kind
def ovS (y:Yr) (l:List Tsk) (d k:Nat):Nat→Int
  | 0=>0
  | n+1=>ovS y l d k n+if ((l.getD n Tsk.zero).day=(d:Int)∧(l.getD n Tsk.zero).kind=2)∧tkK y l n=(k:Int) then 1 else 0
def stk (y:Yr) (l:List Tsk) (k:Nat):Nat→Int
  | 0=>0
  | d+1=>stk y l k d+spS y d k y.sps.length-ovS y l d k l.length
def jbS (l:List Tsk) (d:Nat):Nat→Int
  | 0=>0
  | n+1=>jbS l d n+if (l.getD n Tsk.zero).day=(d:Int) then 1 else 0
def shS (y:Yr) (l:List Tsk) (d:Nat):Nat→Bool
  | 0=>false
  | n+1=>shS y l d n||(decide ((l.getD n Tsk.zero).day=(d:Int)∧(l.getD n Tsk.zero).kind=2)&&decide (stk y l (tkK y l n).toNat d+spS y d (tkK y l n).toNat y.sps.length-ovS y l d (tkK y l n).toNat (n+1)<0))
noncomputable def faultD (y:Yr) (l:List Tsk) (d:Nat):Int:=if y.crew<jbS l d l.length then 1 else if shS y l d l.length=true then 2 else if keepB y d (outY y l d y.us.length)=false then 3 else if leavB y (outY y l d y.us.length)=false then 4 else 0
noncomputable def judgeD (y:Yr) (l:List Tsk):Nat:=fstB (fun d=>decide (faultD y l d≠0)) y.days.toNat
noncomputable def judgeV (y:Yr) (l:List Tsk):Int×Int:=if judgeD y l<y.days.toNat then ((judgeD y l:Int),faultD y l (judgeD y l)) else (0,0)
section
variable {y:Yr} {l:List Tsk} {d k n m:Nat}
theorem mD (hd:d<y.days.toNat) (h:∀ q,q<d→faultD y l q=0) (hf:faultD y l d≠0):judgeV y l=((d:Int),faultD y l d):=by
  have e:judgeD y l=d:=Aj (f:=fun d=>decide (faultD y l d≠0)) (fun q hq=>decide_eq_false (fun h9=>h9 (h q hq))) (decide_eq_true hf) hd
  unfold judgeV
  rw [e,if_pos hd]
theorem xI (h:∀ q,q<y.days.toNat→faultD y l q=0):judgeV y l=(0,0):=by
  have e:judgeD y l=y.days.toNat:=kM (fun q hq=>decide_eq_false (fun h9=>h9 (h q hq)))
  unfold judgeV
  rw [e,if_neg (Nat.lt_irrefl _)]
theorem nY (h:YOk y):∀ n,n≤y.sps.length→0≤spS y d k n∧spS y d k n≤8*(n:Int):=by
  intro n
  induction n with
  | zero=>intro _;exact ⟨Int.le_refl 0,Int.le_refl 0⟩
  | succ n ih=>
    intro hn
    have h1:=ih (by omega)
    have h2:=h.yr.2.2.2.2.2 n (by omega)
    unfold sprB at h2
    have h3:=of_decide_eq_true h2
    rw [spS]
    split <;> omega
theorem Hb:∀ n,0≤ovS y l d k n∧ovS y l d k n≤n:=by
  intro n
  induction n with
  | zero=>exact ⟨Int.le_refl 0,Int.le_refl 0⟩
  | succ n ih=>rw [ovS];split <;> omega
theorem Hc:∀ n,0≤jbS l d n∧jbS l d n≤n:=by
  intro n
  induction n with
  | zero=>exact ⟨Int.le_refl 0,Int.le_refl 0⟩
  | succ n ih=>rw [jbS];split <;> omega
theorem Sq (h:YOk y) (hl:l.length≤1000):∀ d:Nat,-1000*(d:Int)≤stk y l k d∧stk y l k d≤160*d:=by
  intro d
  induction d with
  | zero=>exact ⟨Int.le_refl 0,Int.le_refl 0⟩
  | succ d ih=>
    have h1:=nY (d:=d) (k:=k) h y.sps.length (Nat.le_refl _)
    have h2:=Hb (y:=y) (l:=l) (d:=d) (k:=k) l.length
    have h3:=h.yr.2.2.2.2.1
    rw [stk]
    omega
def stkC (y:Yr) (l:List Tsk) (d n m k _j:Nat):Value := .int .i64 (stk y l k d+spS y d k n-ovS y l d k m)
theorem Mj:stkC y l d y.sps.length l.length=stkC y l (d+1) 0 0:=by
  funext k j;unfold stkC;rw [stk];simp [spS,ovS]
theorem Xv {x:Int} {q:Nat} (hd:(y.sps.getD n Spr.zero).day=(d:Int)) (hq:(y.sps.getD n Spr.zero).kind=(q:Int)) (hx:x=stk y l q d+spS y d q n-ovS y l d q 0+(y.sps.getD n Spr.zero).many):∀ k j,j<1→cput (stkC y l d n 0) q 0 (.int .i64 x) k j=stkC y l d (n+1) 0 k j:=fun k j hj=>by
  subst hx
  have:j=0:=by omega
  subst this
  unfold cput stkC
  by_cases e:k=q
  · subst e;rw [if_pos ⟨rfl,rfl⟩,spS,if_pos ⟨hd,hq⟩];congr 1;omega
  · rw [if_neg (fun h=>e h.1),spS,if_neg (fun h=>e (by omega))];congr 1;omega
theorem Xw (hd:¬ (y.sps.getD n Spr.zero).day=(d:Int)):stkC y l d n 0=stkC y l d (n+1) 0:=by
  funext k j;unfold stkC;rw [spS,if_neg (fun h=>hd h.1)];congr 1;omega
theorem Xx {x:Int} {q:Nat} (hd:(l.getD m Tsk.zero).day=(d:Int)∧(l.getD m Tsk.zero).kind=2) (hq:tkK y l m=(q:Int)) (hx:x=stk y l q d+spS y d q n-ovS y l d q m-1):∀ k j,j<1→cput (stkC y l d n m) q 0 (.int .i64 x) k j=stkC y l d n (m+1) k j:=fun k j hj=>by
  subst hx
  have:j=0:=by omega
  subst this
  unfold cput stkC
  by_cases e:k=q
  · subst e;rw [if_pos ⟨rfl,rfl⟩,ovS,if_pos ⟨hd,hq⟩];congr 1;omega
  · rw [if_neg (fun h=>e h.1),ovS,if_neg (fun h=>e (by omega))];congr 1;omega
theorem Eb (hd:¬ ((l.getD m Tsk.zero).day=(d:Int)∧(l.getD m Tsk.zero).kind=2)):stkC y l d n m=stkC y l d n (m+1):=by
  funext k j;unfold stkC;rw [ovS,if_neg (fun h=>hd h.1)];congr 1;omega
theorem aAk {b:Int} (hb:b=jbS l d m) (hd:¬ (l.getD m Tsk.zero).day=(d:Int)):b=jbS l d (m+1):=by rw [jbS,if_neg hd,hb];omega
theorem xJ {b:Int} (hb:b=jbS l d m) (hd:(l.getD m Tsk.zero).day=(d:Int)):b+1=jbS l d (m+1):=by rw [jbS,if_pos hd,hb]
theorem Sr {s:Bool} (hs:s=shS y l d m) (hd:¬ ((l.getD m Tsk.zero).day=(d:Int)∧(l.getD m Tsk.zero).kind=2)):s=shS y l d (m+1):=by
  rw [shS,decide_eq_false hd,Bool.false_and,Bool.or_false,hs]
theorem Ss {s:Bool} {q:Nat} {x:Int} (hs:s=shS y l d m) (hd:(l.getD m Tsk.zero).day=(d:Int)∧(l.getD m Tsk.zero).kind=2) (hq:tkK y l m=(q:Int)) (hx:x=stk y l q d+spS y d q y.sps.length-ovS y l d q (m+1)):(s||decide (x<0))=shS y l d (m+1):=by
  subst hx
  rw [shS,decide_eq_true hd,Bool.true_and,hs,show (tkK y l m).toNat=q by omega]
theorem uL (h:y.crew<jbS l d l.length):faultD y l d=1:=by unfold faultD;rw [if_pos h]
theorem uM (h:¬ y.crew<jbS l d l.length) (h2:shS y l d l.length=true):faultD y l d=2:=by unfold faultD;rw [if_neg h,if_pos h2]
theorem uN (h:¬ y.crew<jbS l d l.length) (h2:shS y l d l.length=false) (h3:keepB y d (outY y l d y.us.length)=false):faultD y l d=3:=by unfold faultD;rw [if_neg h,if_neg (by rw [h2];simp),if_pos h3]
theorem Be (h:¬ y.crew<jbS l d l.length) (h2:shS y l d l.length=false) (h3:keepB y d (outY y l d y.us.length)=true) (h4:leavB y (outY y l d y.us.length)=false):faultD y l d=4:=by unfold faultD;rw [if_neg h,if_neg (by rw [h2];simp),if_neg (by rw [h3];simp),if_pos h4]
theorem Bf (h:¬ y.crew<jbS l d l.length) (h2:shS y l d l.length=false) (h3:keepB y d (outY y l d y.us.length)=true) (h4:leavB y (outY y l d y.us.length)=true):faultD y l d=0:=by unfold faultD;rw [if_neg h,if_neg (by rw [h2];simp),if_neg (by rw [h3];simp),if_neg (by rw [h4];simp)]
theorem Ec (h:∀ q,q<d→faultD y l q=0) (h2:faultD y l d=0):∀ q,q<d+1→faultD y l q=0:=fun q hq=>by
  by_cases e:q=d
  · subst e;exact h2
  · exact h q (by omega)
end
def filtN (f:Nat→Bool):Nat→List Nat
  | 0=>[]
  | n+1=>if f n=true then filtN f n++[n] else filtN f n
section
variable {y:Yr} {l:List Tsk} {u:Int} {f:Nat→Bool} {n:Nat}
theorem zG:∀ n,(filtN f n).length≤n:=by
  intro n
  induction n with
  | zero=>exact Nat.le_refl _
  | succ n ih=>
    rw [filtN]
    split
    · rw [List.length_append];show _+1≤_;omega
    · omega
theorem Su (h:f n=true):filtN f n++[n]=filtN f (n+1):=by rw [filtN,if_pos h]
theorem Sv (h:f n=false):filtN f n=filtN f (n+1):=by rw [filtN,if_neg (by rw [h];simp)]
end
section
variable {y:Yr} {l:List Tsk} {i d k:Nat} {f:Nat→Bool}
end
end
section
theorem Sw {w:World} {p:Part} {l:List Use} {v:Value} {w':World} (h:WearR w p l v w'):∃ A n c,v = .tuple #[.slice A n c,.int .i64 (wearE p l)]∧St w noF [] w':=by
  rcases h with ⟨h0,A,c,rfl,S⟩|⟨_,rfl,S⟩
  · exact ⟨A,_,c,by rw [h0],S.sel [] rfl rfl⟩
  · exact ⟨none,0,0,rfl,S⟩
theorem pT {l:List Use} {k:Nat} (h:k+1=l.length):(l.getD k Use.zero).day=prevD l l.length:=by rw [←h];rfl
theorem xK {p:Part} {l:List Use} (h:wearE p l=0):0≤prevD l l.length∧p.rates.length≤4:=by
  have h1:=kB (mU h).1
  have h2:=h1.hdr
  unfold iQ at h2
  simp only [decide_eq_true_eq] at h2
  exact ⟨rD h1.uses,h2.2.1⟩
theorem Ed {P:Int} {ps:List Psg} {xs:List Int} (V:StV P ps xs) {n:Nat} (hn:n<ps.length):(∀ j,j<n→0≤(ps.getD n Psg.zero).mach→(ps.getD j Psg.zero).mach≠(ps.getD n Psg.zero).mach)∧∀ j,j<n→(ps.getD n Psg.zero).mach<0→(ps.getD j Psg.zero).mach=(ps.getD n Psg.zero).mach→(ps.getD j Psg.zero).mach<0:=
  ⟨fun j hj h0=>V.mach n hn h0 j hj,fun j _ h0 e=>by omega⟩
theorem Xy {pl:Int} {ps:List Psg} {xs:List Int} {day:List Hq} {l:List Prm} (h:keptE pl ps xs day l=0):StV pl ps xs:=gK (qW (qX h).1).1
theorem Xz {pl:Int} {ps:List Psg} {xs:List Int} {day:List Hq} {l:List Prm}:(keptV pl ps xs day l).2.2.2=keptE pl ps xs day l:=by
  unfold keptV
  split
  · rfl
  · split
    · dsimp only;omega
    · dsimp only;omega
theorem mE {days:Int} {s:Spr}:sprB days s=true↔((0≤s.day∧s.day≤days-1)∧(0≤s.kind∧s.kind≤3)∧(1≤s.many∧s.many≤8)):=by unfold sprB;rw [decide_eq_true_eq]
theorem Sx {pe:List Int} {k:Nat} (h:∀ q,q<k→0≤pe.getD q 0∧pe.getD q 0≤1000) (hk:0≤pe.getD k 0∧pe.getD k 0≤1000):∀ q,q<k+1→0≤pe.getD q 0∧pe.getD q 0≤1000:=fun q hq=>by
  by_cases e:q=k
  · subst e;exact hk
  · exact h q (by omega)
theorem fX {f:Nat→Bool} {k:Nat} (h:∀ q,q<k→f q=true) (hk:f k=true):∀ q,q<k+1→f q=true:=fun q hq=>by
  by_cases e:q=k
  · subst e;exact hk
  · exact h q (by omega)
theorem bX (n lo hi:Int) (w:World) :
    Calls Tryz.prog 28 [.int .i64 n,.int .i64 lo,.int .i64 hi].toArray w (Ret (fun v w'=>v = .bool (decide (lo≤n)&&decide (n≤hi))∧w'=w)):=by
 refine enter Tryz.func28 rfl Tryz.ntmps28 rfl (fun a H=>?_)
 have S:=St.start w
 refine sS H fun K1 k1=>sr 1 rfl<|sE ?_;clear H a;intro a H
 refine k1 _ ?_;clear k1 K1
 replace H:=H.keep [0,1,2] rfl
 refine sS H fun K2 k2=>sr 4 rfl<|sg 3 3 10 13 true G G (fun hg4=>sy hg4<|sr 1 rfl<|sy hg4<|sr 1 rfl<|sy hg4<|sr 1 rfl<|sz 3 G G G)<|sa G G G<|sr 1 rfl<|sE ?_;clear H a;intro a H
 refine k2 _ ?_;clear k2 K2
 refine wp_ret ?_
 refine ret1 (fn:=Tryz.f28) rfl H rfl ?_
 exact ⟨rfl,rfl⟩
theorem Ya (u:Unt) (ps:List Psg) (us:List Unt) (i mb:Nat) (w:World) (F:Nat→Prop) (S:St w F [mapK (fun n:Int=>Value.int .i64 n) mb (macP ps us ps.length i)] w) (hur:InS w F 2 u.RA u.rates.length (scell u.rates)) (hurn:u.rates.length≤9223372036854775807) (huu:InS w F 6 u.UA u.uses.length (ucell u.uses)) (huun:u.uses.length≤9223372036854775807) :
    Calls Tryz.prog 48 [.agg [.int .i64 u.mach,.int .i64 u.every,.int .i64 u.seen,.slice u.RA u.rates.length u.rc,.int .i64 u.worn,.int .i64 u.turns,.int .i64 u.age,.slice u.UA u.uses.length u.uc,.int .i64 u.old,.int .i64 u.tn,.int .i64 u.cl,.int .i64 u.kind].toArray,.map (some mb)].toArray w (Ret (fun v w'=>v = .bool (untU ps us i u)∧St w F [mapK (fun n:Int=>Value.int .i64 n) mb (macP ps us ps.length i)] w')):=by
 refine enter Tryz.func48 rfl Tryz.ntmps48 rfl (fun a H=>?_)
 skip
 refine aA fun K1 k1=>?_
 refine aP H rfl S G G ?_;clear H a S;intro b2 _ a hb2 hbw2 S H
 refine ls 1 H<|sr 1 rfl<|sE ?_;clear H a;intro a H
 refine k1 _ _ ?_;clear k1 K1
 refine wp_seq_k fun K2 k2=>?_
 replace H:=H.keep [1,2] rfl
 refine sS H fun K3 k3=>sr 1 rfl<|sf mN rfl<|sl S 0 aB G G G<|sd ((Bc S (i:=1) rfl yG (gP rfl) G G G (fun h hh=>hh u.mach):Does _ _ _ _ (.bool (freeM ps us i u.mach))))<|sr 2 rfl<|sg 4 5 14 18 false G G (fun hg6=>sy hg6<|sf oI rfl<|sy hg6<|sl S 0 aB G G G<|sy hg6<|sc rfl Tryz.func28 G G (bX _ _ _ _)<|sy hg6<|sr 1 rfl<|sz 4 G G G)<|so G G G<|sr 1 rfl<|sg 4 11 20 24 false G G (fun hg12=>sy hg12<|sf qL rfl<|sy hg12<|sl S 0 aB G G G<|sy hg12<|sc rfl Tryz.func28 G G (bX _ _ _ _)<|sy hg12<|sr 1 rfl<|sz 4 G G G)<|so G G G<|sr 1 rfl<|sg 4 17 26 30 false G G (fun hg18=>sy hg18<|sf tW rfl<|sy hg18<|sl S 0 aB G G G<|sy hg18<|sc rfl Tryz.func28 G G (bX _ _ _ _)<|sy hg18<|sr 1 rfl<|sz 4 G G G)<|so G G G<|sE ?_;clear H a;intro a H
 refine k3 _ ?_;clear k3 K3
 refine aT H rfl (fun hc1=>?_) (fun hc1=>?_)
 ·skip
  try simp only [o1,o2,o3,o4,o5,o6,o7,o8,o9,oa] at hc1
  replace H:=H.keep [] rfl
  refine sS H fun K4 k4=>sr 1 rfl<|sE ?_;clear H a;intro a H
  refine k4 _ ?_;clear k4 K4
  refine wp_ret ?_
  refine ret1 (fn:=Tryz.f48) rfl H rfl ?_
  rw [Ds (ps:=ps) (us:=us) (i:=i) (u:=u) (fun h=>by have h1:=h.free;have h2:=h.i;unfold untI at h2;rw [h1] at hc1;simp only [Bool.true_eq_false,Bool.not_true,Bool.false_eq_true,not_true_eq_false,false_or] at hc1;omega)];exact ⟨rfl,(S.sel [1] G G)⟩
 try simp only [o1,o2,o3,o4,o5,o6,o7,o8,o9,oa] at hc1
 refine wp_skip ?_
 refine k2 _ _ ?_
 refine wp_seq_k fun K5 k5=>?_
 replace H:=H.keep [2] rfl
 refine aA fun K6 k6=>?_
 refine ls 4 H<|sf jV rfl<|sd ((aD dE dV rfl S (i:=0) G G))<|sf gD rfl<|sl S 0 iW G G G<|sE ?_;clear H a;intro a H
 refine aC H G G Tryz.func67 G G (dU (pM u.rates u.worn u.turns u.age u.RA u.rc u.uses u.UA u.uc _ (hur.now S) hurn (huu.now S) huun) (fun _ _ h=>Sw h)) ?_;clear H a
 rintro _ _ a ⟨WA,wn,wc,rfl,S2⟩ H
 replace S:=S.call S2;clear S2
 refine ls 5 H<|sr 5 rfl<|sE ?_;clear H a;intro a H
 refine k6 _ _ ?_;clear k6 K6
 replace H:=H.keep [2,6] rfl
 refine sS H fun K7 k7=>sr 3 rfl<|sg 4 2 42 46 false G G (fun hg3=>sy hg3<|sf gD rfl<|sy hg3<|sl S 0 iW G G G<|sy hg3<|sL cG rfl<|sy hg3<|sr 1 rfl<|sz 4 G G G)<|so G G G<|sE ?_;clear H a;intro a H
 refine k7 _ ?_;clear k7 K7
 refine aT H rfl (fun hc2=>?_) (fun hc2=>?_)
 ·skip
  try simp only [o1,o2,o3,o4,o5,o6,o7,o8,o9,oa] at hc2
  refine sS H fun K8 k8=>sr 1 rfl<|sE ?_;clear H a;intro a H
  refine k8 _ ?_;clear k8 K8
  refine wp_ret ?_
  refine ret1 (fn:=Tryz.f48) rfl H rfl ?_
  rw [Ds (ps:=ps) (us:=us) (i:=i) (u:=u) (fun h=>by have h1:=h.wear;have h2:=h.i;unfold untI at h2;rcases hc2 with h9|h9;exact h9 h1;omega)];exact ⟨rfl,(S.sel [1] rfl rfl)⟩
 try simp only [o1,o2,o3,o4,o5,o6,o7,o8,o9,oa] at hc2
 have hwe:wearE u.part u.uses=0:=by have h9:=hc2;show wearE ⟨u.rates,u.worn,u.turns,u.age⟩ u.uses=0;omega
 have hpv:=xK hwe
 refine wp_skip ?_
 refine k5 _ _ ?_
 replace H:=H.keep [2] rfl
 refine sS H fun K9 k9=>sr 1 rfl<|sE ?_;clear H a;intro a H
 refine k9 _ ?_;clear k9 K9
 have SR:=(S.sel [0,1] G G)
 refine fG (X:=Int) [2] H rfl (fun x=>[(7,.int .i64 x)]) (fun x=>[]) (fun x=>x=prevD u.uses u.uses.length) SR (fun K11 k11=>?_) ?_
 ·skip
  refine sS H fun K12 k12=>sf gD rfl<|sl S 0 iW G G G<|sL cG rfl<|sr 1 rfl<|sE ?_;clear H a;intro a H
  refine k12 _ ?_;clear k12 K12
  refine sS H fun K13 k13=>sr 2 rfl<|sE ?_;clear H a;intro a H
  refine k13 _ ?_;clear k13 K13
  refine condL H rfl (fun hc3=>?_) (fun hc3=>?_)
  ·skip
   replace H:=H.keep [2,8] rfl
   refine sO H<|sf gD rfl<|sl S 0 iW G G G<|sr 1 rfl<|sd (aS G G (by unfold i64ok;omega))<|sI cG bV G G (huu.adr (by omega)) (by omega) (by omega)<|sp gY rfl<|slm aB rfl (huu.rd S (by omega) (by omega))<|sr 1 rfl<|sE ?_;clear H a;intro a H
   exact k11 _ a _ (pT (k:=((u.uses.length:Int)-1).toNat) (by omega)) (S.sel [0,1] G G) (H.keep [7,2] rfl)
  refine wp_skip ?_
  exact k11 _ a _ (by rw [show u.uses.length=0 by omega];rfl) (S.sel [0,1] G G) (H.keep [7,2] rfl)
 clear SR H S a
 intro xm a wm hp S H
 obtain ⟨x,rfl⟩:∃ y,y=xm:=⟨_,rfl⟩
 replace H:=H.keep [2,7] rfl
 refine sS H fun K15 k15=>sf qM rfl<|sl S 0 aB G G G<|sr 1 rfl<|sc rfl Tryz.func28 G G (bX _ _ _ _)<|sr 1 rfl<|sg 3 4 64 67 true G G (fun hg5=>sy hg5<|sf qN rfl<|sy hg5<|sl S 0 aB G G G<|sy hg5<|sc rfl Tryz.func28 G G (bX _ _ _ _)<|sz 3 G G G)<|sa G G G<|sr 1 rfl<|sg 8 9 69 77 true G G (fun hg10=>sy hg10<|sf qO rfl<|sy hg10<|sl S 0 aB G G G<|sy hg10<|sf jV rfl<|sy hg10<|sf fH rfl<|sy hg10<|sl S 0 iA G G G<|sy hg10<|sL cY rfl<|sy hg10<|sd (aS G G (by unfold i64ok;omega))<|sy hg10<|sc rfl Tryz.func28 G G (bX _ _ _ _)<|sz 8 G G G)<|sa G G G<|sr 1 rfl<|sE ?_;clear H a;intro a H
 refine k15 _ ?_;clear k15 K15
 refine wp_ret ?_
 refine ret1 (fn:=Tryz.f48) rfl H rfl ?_
 refine ⟨congrArg Value.bool ?_,(S.sel [1] G G)⟩
 rw [Bool.eq_iff_iff,xB]
 simp only [Bool.and_eq_true,decide_eq_true_eq]
 constructor
 · intro h9
   refine ⟨?_,?_,hwe⟩
   · rcases hc1 with ⟨⟨⟨h1,_⟩,_⟩,_⟩;exact h1
   · unfold untI;omega
 · intro h9
   have h2:=h9.i
   unfold untI at h2
   omega
theorem Yb (y:Yr) (w:World) (hy:YIn w noF y) (hyb:YBd y) :
    Calls Tryz.prog 27 [.agg [.int .i64 y.days,.int .i64 y.pl,.slice y.PA y.ps.length y.pc,.slice y.XA y.xs.length y.xc,.slice y.BA y.pe.length y.bc,.int .i64 y.limit,.bool y.help,.slice y.QA y.prs.length y.qc,.slice y.VA y.us.length y.vc,.int .i64 y.crew,.slice y.SA y.sps.length y.sc].toArray].toArray w (Ret (fun v w'=>v = .int .i64 (yearE y)∧St w noF [] w')):=by
 have hn1:=hyb.psn;have hn2:=hyb.pen;have hn3:=hyb.usn;have hn4:=hyb.spn
 refine enter Tryz.func27 rfl Tryz.ntmps27 rfl (fun a H=>?_)
 have S:=St.start w
 refine aA fun K1 k1=>?_
 refine aP H rfl S G G ?_;clear H a S;intro b1 _ a hb1 hbw1 S H
 refine ls 1 H<|sr 1 rfl<|sE ?_;clear H a;intro a H
 refine k1 _ _ ?_;clear k1 K1
 refine wp_seq_k fun K2 k2=>?_
 replace H:=H.keep [1] rfl
 refine aA fun K3 k3=>?_
 refine ls 4 H<|sf eH rfl<|sd ((aD cA cP rfl S (i:=0) G G))<|sf kY rfl<|sl S 0 pF G G G<|sE ?_;clear H a;intro a H
 refine aC H G G Tryz.func47 G G (Lg y.pl y.ps y.PA y.pc y.xs y.XA y.xc ([]:List Hq) none 0 (fun _=>none) (fun _=>0) y.prs y.QA y.qc _ (hy.ps.now S) hyb.psn (hy.xs.now S) hyb.xsn InS.nil (by decide) (fun k hk=>absurd hk (Nat.not_lt_zero k)) (fun k hk=>absurd hk (Nat.not_lt_zero k)) (hy.prs.now S) hyb.prn) ?_;clear H a
 rintro _ _ a ⟨rfl,S2⟩ H
 replace S:=S.call S2;clear S2
 rw [Xz] at H
 refine ls 9 H<|sr 9 rfl<|sE ?_;clear H a;intro a H
 refine k3 _ _ ?_;clear k3 K3
 replace H:=H.keep [1,6] rfl
 refine sS H fun K4 k4=>sr 2 rfl<|sE ?_;clear H a;intro a H
 refine k4 _ ?_;clear k4 K4
 refine condN H rfl (fun hc1=>?_) (fun hc1=>?_)
 ·skip
  refine sS H fun K5 k5=>sr 2 rfl<|sE ?_;clear H a;intro a H
  refine k5 _ ?_;clear k5 K5
  refine wp_ret ?_
  refine ret1 (fn:=Tryz.f27) rfl H rfl ?_
  exact ⟨congrArg _ (pR hc1).symm,(S.sel [] G G)⟩
 have hke:keptE y.pl y.ps y.xs [] y.prs=0:=by omega
 have hV:=Xy hke
 refine wp_skip ?_
 refine k2 _ _ ?_
 refine wp_seq_k fun K6 k6=>?_
 replace H:=H.keep [1] rfl
 refine sS H fun K7 k7=>sf dP rfl<|sl S 0 aB G G G<|sc rfl Tryz.func28 G G (bX _ _ _ _)<|sr 2 rfl<|sg 7 4 33 40 false G G (fun hg5=>by
     have hq5:=hg5;try simp only [o1,o2,o3,o4,o5,o6,o7,o8,o9,oa] at hq5
     exact sy hg5<|sf gS rfl<|sy hg5<|sl S 0 dL G G G<|sy hg5<|sL aO rfl<|sy hg5<|sf eH rfl<|sy hg5<|sf dK rfl<|sy hg5<|sl S 0 aB G G G<|sy hg5<|sr 1 rfl<|sz 7 G G G)<|so G G G<|sr 1 rfl<|sg 4 13 42 46 false G G (fun hg14=>by
     have hq14:=hg14;try simp only [o1,o2,o3,o4,o5,o6,o7,o8,o9,oa] at hq14
     exact sy hg14<|sf mM rfl<|sy hg14<|sl S 0 aB G G G<|sy hg14<|sc rfl Tryz.func28 G G (bX _ _ _ _)<|sy hg14<|sr 1 rfl<|sz 4 G G G)<|so G G G<|sr 1 rfl<|sg 4 19 48 52 false G G (fun hg20=>by
     have hq20:=hg20;try simp only [o1,o2,o3,o4,o5,o6,o7,o8,o9,oa] at hq20
     exact sy hg20<|sf tU rfl<|sy hg20<|sl S 0 aB G G G<|sy hg20<|sc rfl Tryz.func28 G G (bX _ _ _ _)<|sy hg20<|sr 1 rfl<|sz 4 G G G)<|so G G G<|sr 1 rfl<|sg 4 25 54 58 false G G (fun hg26=>by
     have hq26:=hg26;try simp only [o1,o2,o3,o4,o5,o6,o7,o8,o9,oa] at hq26
     exact sy hg26<|sf gT rfl<|sy hg26<|sl S 0 jN G G G<|sy hg26<|sL kH rfl<|sy hg26<|sr 1 rfl<|sz 4 G G G)<|so G G G<|sE ?_;clear H a;intro a H
 refine k7 _ ?_;clear k7 K7
 refine aT H rfl (fun hc2=>?_) (fun hc2=>?_)
 ·skip
  try simp only [o1,o2,o3,o4,o5,o6,o7,o8,o9,oa] at hc2
  replace H:=H.keep [] rfl
  refine sS H fun K8 k8=>sr 1 rfl<|sE ?_;clear H a;intro a H
  refine k8 _ ?_;clear k8 K8
  refine wp_ret ?_
  refine ret1 (fn:=Tryz.f27) rfl H rfl ?_
  rw [rG hke (fun h=>by unfold yrI at h;omega)];exact ⟨rfl,(S.sel [] G G)⟩
 try simp only [o1,o2,o3,o4,o5,o6,o7,o8,o9,oa] at hc2
 refine wp_skip ?_
 refine k6 _ _ ?_
 refine wp_seq_k fun K9 k9=>?_
 refine sS H fun K10 k10=>sf gS rfl<|sl S 0 dL G G G<|sL aO rfl<|sr 1 rfl<|sE ?_;clear H a;intro a H
 refine k10 _ ?_;clear k10 K10
 refine wp_block ?_
 refine loop_st (X:=Nat) (R0:=_) [1,61,62] H rfl (fun k=>[(63,.int .i64 (k:Int))]) (fun k=>[]) (fun g k=>k≤y.pe.length∧g+k=y.pe.length∧∀ q,q<k→0≤y.pe.getD q 0∧y.pe.getD q 0≤1000) (y.pe.length) 0 ?_ (S.sel [0] G G) (H.keep [63,1,61,62] rfl) ?_
 · exact ⟨by omega,by omega,fun q hq=>absurd hq (Nat.not_lt_zero q)⟩
 clear H S a
 intro g1 x1 a w1 hp S H K11 k11
 obtain ⟨k,rfl⟩:∃ y,y=x1:=⟨_,rfl⟩
 refine sS H fun K12 k12=>sr 1 rfl<|sE ?_;clear H a;intro a H
 refine k12 _ ?_;clear k12 K12
 refine wp_seq_k fun K13 k13=>?_
 refine condL H rfl (fun hc3=>?_) (fun hc3=>?_)
 ·skip
  refine wp_skip ?_
  refine k13 _ _ ?_
  refine wp_seq_k fun K14 k14=>?_
  refine wp_block ?_
  refine sS H fun K15 k15=>si aO aW G G (hy.pe.adr (by omega)) (by omega)<|slm aB rfl (hy.pe.rd S (by omega) (by omega))<|sr 1 rfl<|sE ?_;clear H a;intro a H
  refine k15 _ ?_;clear k15 K15
  refine sS H fun K16 k16=>sr 1 rfl<|sc rfl Tryz.func28 G G (bX _ _ _ _)<|sr 1 rfl<|sE ?_;clear H a;intro a H
  refine k16 _ ?_;clear k16 K16
  refine aT H rfl (fun hc4=>?_) (fun hc4=>?_)
  ·skip
   try simp only [o1,o2,o3,o4,o5,o6,o7,o8,o9,oa] at hc4
   refine sS H fun K17 k17=>sr 1 rfl<|sE ?_;clear H a;intro a H
   refine k17 _ ?_;clear k17 K17
   refine wp_ret ?_
   refine ret1 (fn:=Tryz.f27) rfl H rfl ?_
   rw [rG hke (fun h=>by have h9:=h.2.1.2 k (by omega);omega)];exact ⟨rfl,(S.sel [] G G)⟩
  try simp only [o1,o2,o3,o4,o5,o6,o7,o8,o9,oa] at hc4
  refine wp_skip ?_
  refine k14 _ _ ?_
  replace H:=H.keep [1,61,62,63] rfl
  refine sO H<|sd (aG G G (by unfold i64ok;omega))<|sr 1 rfl<|sE ?_;clear H a;intro a H
  exact k11 (g1-1) (k+1) a _ (by omega) (⟨by omega,by omega,Sx hp.2.2 (by omega)⟩) (S.sel [0] G G) (H.keep [63,1,61,62] rfl)
 refine wp_exit ?_
 refine k9 _ _ ?_
 refine wp_seq_k fun K19 k19=>?_
 refine sS H fun K20 k20=>sf gT rfl<|sl S 0 jN G G G<|sL kH rfl<|sr 1 rfl<|sE ?_;clear H a;intro a H
 refine k20 _ ?_;clear k20 K20
 refine wp_block ?_
 have hpe9:∀ q,q<y.pe.length→0≤y.pe.getD q 0∧y.pe.getD q 0≤1000:=fun q hq=>hp.2.2 q (by omega)
 refine loop_st (X:=Nat) (R0:=_) [1,72,73] H rfl (fun k=>[(74,.int .i64 (k:Int))]) (fun k=>[]) (fun g k=>k≤y.sps.length∧g+k=y.sps.length∧∀ q,q<k→sprB y.days (y.sps.getD q Spr.zero)=true) (y.sps.length) 0 ?_ (S.sel [0] G G) (H.keep [74,1,72,73] rfl) ?_
 · exact ⟨by omega,by omega,fun q hq=>absurd hq (Nat.not_lt_zero q)⟩
 clear H S a
 intro g2 x2 a w2 hp S H K21 k21
 obtain ⟨k,rfl⟩:∃ y,y=x2:=⟨_,rfl⟩
 refine sS H fun K22 k22=>sr 1 rfl<|sE ?_;clear H a;intro a H
 refine k22 _ ?_;clear k22 K22
 refine wp_seq_k fun K23 k23=>?_
 refine condL H rfl (fun hc5=>?_) (fun hc5=>?_)
 ·skip
  refine wp_skip ?_
  refine k23 _ _ ?_
  refine wp_seq_k fun K24 k24=>?_
  refine wp_block ?_
  refine aA fun K25 k25=>?_
  refine ls 2 H<|si kH kV G G (hy.sps.adr (by omega)) (by omega)<|sd ((aU Fm kV rfl S hy.sps (by omega) (by omega)))<|sE ?_;clear H a;intro a H
  refine aM H rfl S Ig ?_;clear H a S;intro b10 _ a hb10 hbw10 S H
  refine aH H S (i:=0) G G G G kV G G ?_
  clear H a S;intro _ a S H
  refine k25 _ _ ?_;clear k25 K25
  replace H:=H.keep [1,10,72,73,74] rfl
  refine sS H fun K26 k26=>sf tX rfl<|sl S 0 aB G G G<|sf dP rfl<|sl S 1 aB G G G<|sd (aS G G (by unfold i64ok;omega))<|sc rfl Tryz.func28 G G (bX _ _ _ _)<|sr 2 rfl<|sg 4 7 85 89 false G G (fun hg8=>by
      have hq8:=hg8;try simp only [o1,o2,o3,o4,o5,o6,o7,o8,o9,oa] at hq8
      exact sy hg8<|sf tY rfl<|sy hg8<|sl S 0 aB G G G<|sy hg8<|sc rfl Tryz.func28 G G (bX _ _ _ _)<|sy hg8<|sr 1 rfl<|sz 4 G G G)<|so G G G<|sr 1 rfl<|sg 4 13 91 95 false G G (fun hg14=>by
      have hq14:=hg14;try simp only [o1,o2,o3,o4,o5,o6,o7,o8,o9,oa] at hq14
      exact sy hg14<|sf tZ rfl<|sy hg14<|sl S 0 aB G G G<|sy hg14<|sc rfl Tryz.func28 G G (bX _ _ _ _)<|sy hg14<|sr 1 rfl<|sz 4 G G G)<|so G G G<|sE ?_;clear H a;intro a H
  refine k26 _ ?_;clear k26 K26
  refine aT H rfl (fun hc6=>?_) (fun hc6=>?_)
  ·skip
   try simp only [o1,o2,o3,o4,o5,o6,o7,o8,o9,oa] at hc6
   replace H:=H.keep [] rfl
   refine sS H fun K27 k27=>sr 1 rfl<|sE ?_;clear H a;intro a H
   refine k27 _ ?_;clear k27 K27
   refine wp_ret ?_
   refine ret1 (fn:=Tryz.f27) rfl H rfl ?_
   rw [rG hke (fun h=>by have h9:=mE.1 (h.2.2.2.2.2 k (by omega));omega)];exact ⟨rfl,(S.sel [] G G)⟩
  try simp only [o1,o2,o3,o4,o5,o6,o7,o8,o9,oa] at hc6
  refine wp_skip ?_
  refine k24 _ _ ?_
  refine sO H<|sd (aG G G (by unfold i64ok;omega))<|sr 1 rfl<|sE ?_;clear H a;intro a H
  exact k21 (g2-1) (k+1) a _ (by omega) (⟨by omega,by omega,fX (f:=fun q=>sprB y.days (y.sps.getD q Spr.zero)) hp.2.2 (mE.2 (by omega))⟩) (S.sel [1] G G) (H.keep [74,1,72,73] rfl)
 refine wp_exit ?_
 refine k19 _ _ ?_
 refine wp_seq_k fun K29 k29=>?_
 refine sS H fun K30 k30=>sf cS rfl<|sl S 0 dZ G G G<|sL cX rfl<|sr 1 rfl<|sE ?_;clear H a;intro a H
 refine k30 _ ?_;clear k30 K30
 refine condL H rfl (fun hc7=>?_) (fun hc7=>?_)
 ·skip
  refine sS H fun K31 k31=>sr 1 rfl<|sE ?_;clear H a;intro a H
  refine k31 _ ?_;clear k31 K31
  refine wp_ret ?_
  refine ret1 (fn:=Tryz.f27) rfl H rfl ?_
  rw [wW hke (by
    unfold yrI
    have h9:=hp.2.2
    exact ⟨by omega,⟨by omega,hpe9⟩,by omega,by omega,by omega,fun q hq=>h9 q (by omega)⟩) (by omega)];exact ⟨rfl,(S.sel [] G G)⟩
 refine wp_skip ?_
 refine k29 _ _ ?_
 replace H:=H.keep [1] rfl
 refine aA fun K32 k32=>?_
 refine jH (fun n:Int=>Value.int .i64 n) (macP y.ps y.us 0 0) Mb H rfl S ?_;clear H a S;intro mb _ a hmb S H
 refine ls 1 H<|sr 1 rfl<|sE ?_;clear H a;intro a H
 refine k32 _ _ ?_;clear k32 K32
 refine wp_seq_k fun K33 k33=>?_
 refine sS H fun K34 k34=>sf eH rfl<|sf eE rfl<|sl S 1 fD G G G<|sL eR rfl<|sr 1 rfl<|sE ?_;clear H a;intro a H
 refine k34 _ ?_;clear k34 K34
 refine wp_block ?_
 have hyi:yrI y:=by
   unfold yrI
   have h9:=hp.2.2
   exact ⟨by omega,⟨by omega,hpe9⟩,by omega,by omega,by omega,fun q hq=>h9 q (by omega)⟩
 refine loop_st (X:=Nat) (R0:=_) [1,11,105,106] H rfl (fun k=>[(107,.int .i64 (k:Int))]) (fun k=>[mapK (fun n:Int=>Value.int .i64 n) mb (macP y.ps y.us k 0)]) (fun g k=>k≤y.ps.length∧g+k=y.ps.length) (y.ps.length) 0 ?_ (S.sel [0,1] G G) (H.keep [107,1,11,105,106] rfl) ?_
 · exact ⟨by omega,by omega⟩
 clear H S a
 intro g3 x3 a w3 hp S H K35 k35
 obtain ⟨k,rfl⟩:∃ y,y=x3:=⟨_,rfl⟩
 refine sS H fun K36 k36=>sr 1 rfl<|sE ?_;clear H a;intro a H
 refine k36 _ ?_;clear k36 K36
 refine wp_seq_k fun K37 k37=>?_
 refine condL H rfl (fun hc8=>?_) (fun hc8=>?_)
 ·skip
  refine wp_skip ?_
  refine k37 _ _ ?_
  refine wp_seq_k fun K38 k38=>?_
  refine wp_block ?_
  refine aA fun K39 k39=>?_
  refine ls 2 H<|si eR dD G G (hy.ps.adr (by omega)) (by omega)<|sd ((aU fO dD rfl S hy.ps (by omega) (by omega)))<|sE ?_;clear H a;intro a H
  refine aM H rfl S kK ?_;clear H a S;intro b13 _ a hb13 hbw13 S H
  refine aH H S (i:=0) G G G G dD G G ?_
  clear H a S;intro _ a S H
  refine k39 _ _ ?_;clear k39 K39
  replace H:=H.keep [1,11,13,105,106,107] rfl
  refine cE ?_
  refine ls 6 H<|sr 1 rfl<|sf eW rfl<|sl S 0 aB G G G<|sf eW rfl<|sl S 0 aB G G G<|sr 1 rfl<|sE ?_;clear H a;intro a H
  refine fW (k:=(y.ps.getD k Psg.zero).mach) (macP y.ps y.us (k+1) 0) H S (i:=1) rfl yG (gP rfl) G G G (Xj (Ed hV (by omega)).1 (Ed hV (by omega)).2) ?_;clear H a S;intro _ a S H
  refine k38 _ _ ?_
  refine sO H<|sd (aG G G (by unfold i64ok;omega))<|sr 1 rfl<|sE ?_;clear H a;intro a H
  exact k35 (g3-1) (k+1) a _ (by omega) (⟨by omega,by omega⟩) (S.sel [1,2] G G) (H.keep [107,1,11,105,106] rfl)
 refine wp_exit ?_
 refine k33 _ _ ?_
 refine wp_seq_k fun K42 k42=>?_
 replace H:=H.keep [1,11] rfl
 refine sS H fun K43 k43=>sf cS rfl<|sl S 1 dZ G G G<|sL cX rfl<|sr 1 rfl<|sE ?_;clear H a;intro a H
 refine k43 _ ?_;clear k43 K43
 refine wp_block ?_
 obtain rfl:k=y.ps.length:=by omega
 refine loop_st (X:=Nat) (R0:=_) [11,119,120] H rfl (fun k=>[(121,.int .i64 (k:Int))]) (fun k=>[mapK (fun n:Int=>Value.int .i64 n) mb (macP y.ps y.us y.ps.length k)]) (fun g k=>k≤y.us.length∧g+k=y.us.length∧∀ q,q<k→untB y.ps y.us q=true) (y.us.length) 0 ?_ (S.sel [0,1] G G) (H.keep [121,11,119,120] rfl) ?_
 · exact ⟨by omega,by omega,fun q hq=>absurd hq (Nat.not_lt_zero q)⟩
 clear H S a
 intro g4 x4 a w4 hp S H K44 k44
 obtain ⟨k,rfl⟩:∃ y,y=x4:=⟨_,rfl⟩
 refine sS H fun K45 k45=>sr 1 rfl<|sE ?_;clear H a;intro a H
 refine k45 _ ?_;clear k45 K45
 refine wp_seq_k fun K46 k46=>?_
 refine condL H rfl (fun hc9=>?_) (fun hc9=>?_)
 ·skip
  refine wp_skip ?_
  refine k46 _ _ ?_
  refine wp_seq_k fun K47 k47=>?_
  refine wp_block ?_
  refine aA fun K48 k48=>?_
  refine ls 2 H<|si cX dC G G (hy.us.adr (by omega)) (by omega)<|sd ((aU lH dC rfl S hy.us (by omega) (by omega)))<|sE ?_;clear H a;intro a H
  refine aM H rfl S fU ?_;clear H a S;intro b15 _ a hb15 hbw15 S H
  refine aH H S (i:=0) G G G G dC G G ?_
  clear H a S;intro _ a S H
  refine k48 _ _ ?_;clear k48 K48
  refine wp_seq_k fun K49 k49=>?_
  refine aA fun K50 k50=>?_
  refine ls 2 H<|sd ((aD lH dC rfl S (i:=0) G G))<|sr 1 rfl<|sE ?_;clear H a;intro a H
  refine aC H G G Tryz.func48 G G (Ya (y.u k) y.ps y.us k mb _ _ ((S.sel [1] G G).startR) ((hy.rt k (by omega)).nowR (S.sel [1] G G)) (hyb.rtn (by omega)) ((hy.ul k (by omega)).nowR (S.sel [1] G G)) (hyb.uln (by omega))) ?_;clear H a
  rintro _ _ a ⟨rfl,S2⟩ H
  replace S:=St.callR (M:=[_]) (S.sel [1,0,2] G G) S2;clear S2
  refine ls 1 H<|sr 1 rfl<|sE ?_;clear H a;intro a H
  refine k50 _ _ ?_;clear k50 K50
  refine aT H rfl (fun hc10=>?_) (fun hc10=>?_)
  ·skip
   try simp only [o1,o2,o3,o4,o5,o6,o7,o8,o9,oa] at hc10
   replace H:=H.keep [] rfl
   refine sS H fun K51 k51=>sr 1 rfl<|sE ?_;clear H a;intro a H
   refine k51 _ ?_;clear k51 K51
   refine wp_ret ?_
   refine ret1 (fn:=Tryz.f27) rfl H rfl ?_
   rw [wX hke hyi (by omega) (show k<y.us.length by omega) hc10];exact ⟨rfl,(S.sel [] G G)⟩
  try simp only [o1,o2,o3,o4,o5,o6,o7,o8,o9,oa] at hc10
  refine wp_skip ?_
  refine k49 _ _ ?_
  refine cE ?_
  refine ls 3 H<|sr 1 rfl<|sf mN rfl<|sl S 1 aB G G G<|sE ?_;clear H a;intro a H
  refine fW (k:=(y.us.getD k Unt.zero).mach) (macP y.ps y.us y.ps.length (k+1)) H S (i:=0) rfl yG (gP rfl) G G G Xk ?_;clear H a S;intro _ a S H
  refine k47 _ _ ?_
  refine sO H<|sd (aG G G (by unfold i64ok;omega))<|sr 1 rfl<|sE ?_;clear H a;intro a H
  exact k44 (g4-1) (k+1) a _ (by omega) (⟨by omega,by omega,fX (f:=untB y.ps y.us) hp.2.2 hc10⟩) (S.sel [0,2] G G) (H.keep [121,11,119,120] rfl)
 refine wp_exit ?_
 refine k42 _ _ ?_
 refine sS H fun K54 k54=>sr 1 rfl<|sE ?_;clear H a;intro a H
 refine k54 _ ?_;clear k54 K54
 refine wp_ret ?_
 refine ret1 (fn:=Tryz.f27) rfl H rfl ?_
 rw [wY hke hyi (by omega) (bQ.2 fun q hq=>hp.2.2 q (by omega))];exact ⟨rfl,(S.sel [] G G)⟩
end
section
theorem chk5 (A B C:Prop) [Decidable A] [Decidable B] [Decidable C] (k:Nat):¬ A∨(A∧¬ B)∨(A∧B∧¬ C)∨(A∧B∧C∧k=0)∨(A∧B∧C∧0<k):=by
  by_cases hA:A <;> by_cases hB:B <;> by_cases hC:C <;> by_cases hk:k=0 <;> simp [hA,hB,hC,hk] <;> omega
section
variable {P:Program} {w:World} {L:List (Nat×Value)} {ty:TypeId} {pos:String} {af:Array Edge} {dd:Option Nat} {g:Option (Nat×Bool)}
theorem iF {x:Operand} {xt:TypeId} {lo n hi:Int} (hx:ev L x=some (.bool (decide (lo≤n)&&decide (n≤hi)))) (h:¬ (lo≤n∧n≤hi)):Does P L ⟨dd,.unOp .not xt x,ty,pos,af,g⟩ w (.bool true):=by
  have h1:=kD (P:=P) (d:=dd) (w:=w) (ty:=ty) (pos:=pos) (af:=af) (g:=g) (xt:=xt) hx
  have e:(!(decide (lo≤n)&&decide (n≤hi)))=true:=by simp only [Bool.not_eq_true',Bool.and_eq_false_iff,decide_eq_false_iff_not];omega
  rw [e] at h1
  exact h1
theorem cH {x:Operand} {xt:TypeId} {lo n hi:Int} (hx:ev L x=some (.bool (decide (lo≤n)&&decide (n≤hi)))) (h:lo≤n∧n≤hi):Does P L ⟨dd,.unOp .not xt x,ty,pos,af,g⟩ w (.bool false):=by
  have h1:=kD (P:=P) (d:=dd) (w:=w) (ty:=ty) (pos:=pos) (af:=af) (g:=g) (xt:=xt) hx
  rw [decide_eq_true h.1,decide_eq_true h.2] at h1
  exact h1
end
section
variable {y:Yr} {l:List Tsk} {k:Nat}
def tskI (y:Yr) (t:Tsk):Prop:=(0≤t.day∧t.day≤y.days-1)∧(0≤t.unit∧t.unit≤(y.us.length:Int)-1)∧(1≤t.kind∧t.kind≤2)
theorem mF (h:¬ ((0≤(l.getD k Tsk.zero).day∧(l.getD k Tsk.zero).day≤y.days-1)∧(0≤(l.getD k Tsk.zero).unit∧(l.getD k Tsk.zero).unit≤(y.us.length:Int)-1)∧(1≤(l.getD k Tsk.zero).kind∧(l.getD k Tsk.zero).kind≤2))):tskB y l k=false:=by
  unfold tskB;rw [decide_eq_false h,Bool.false_and]
theorem Ee (hB:(0≤(l.getD k Tsk.zero).day∧(l.getD k Tsk.zero).day≤y.days-1)∧(0≤(l.getD k Tsk.zero).unit∧(l.getD k Tsk.zero).unit≤(y.us.length:Int)-1)∧(1≤(l.getD k Tsk.zero).kind∧(l.getD k Tsk.zero).kind≤2)∧0<k) (h:befB (l.getD ((k:Int)-1).toNat Tsk.zero) (l.getD k Tsk.zero)=false):tskB y l k=false:=by
  rw [show ((k:Int)-1).toNat=k-1 by omega] at h
  unfold tskB;rw [h,decide_eq_false (show ¬ k=0 by omega),Bool.or_self,Bool.and_false]
theorem oR (hB:(0≤(l.getD k Tsk.zero).day∧(l.getD k Tsk.zero).day≤y.days-1)∧(0≤(l.getD k Tsk.zero).unit∧(l.getD k Tsk.zero).unit≤(y.us.length:Int)-1)∧(1≤(l.getD k Tsk.zero).kind∧(l.getD k Tsk.zero).kind≤2)∧k=0):tskB y l k=true:=by
  unfold tskB;rw [decide_eq_true ⟨hB.1,hB.2.1,hB.2.2.1⟩,decide_eq_true hB.2.2.2];rfl
theorem oS (hB:(0≤(l.getD k Tsk.zero).day∧(l.getD k Tsk.zero).day≤y.days-1)∧(0≤(l.getD k Tsk.zero).unit∧(l.getD k Tsk.zero).unit≤(y.us.length:Int)-1)∧(1≤(l.getD k Tsk.zero).kind∧(l.getD k Tsk.zero).kind≤2)∧0<k) (h:befB (l.getD ((k:Int)-1).toNat Tsk.zero) (l.getD k Tsk.zero)=true):tskB y l k=true:=by
  rw [show ((k:Int)-1).toNat=k-1 by omega] at h
  unfold tskB;rw [decide_eq_true ⟨hB.1,hB.2.1,hB.2.2.1⟩,h,Bool.or_true];rfl
end
theorem Mk (a b:Tsk) (w:World) :
    Calls Tryz.prog 29 [.agg [.int .i64 a.day,.int .i64 a.unit,.int .i64 a.kind].toArray,.agg [.int .i64 b.day,.int .i64 b.unit,.int .i64 b.kind].toArray].toArray w (Ret (fun v w'=>v = .bool (befB a b)∧St w noF [] w')):=by
 refine enter Tryz.func29 rfl Tryz.ntmps29 rfl (fun a H=>?_)
 have S:=St.start w
 refine aA fun K1 k1=>?_
 refine aP H rfl S G G ?_;clear H a S;intro b2 _ a hb2 hbw2 S H
 refine aP H rfl S G G ?_;clear H a S;intro b3 _ a hb3 hbw3 S H
 refine ls 1 H<|sr 1 rfl<|sE ?_;clear H a;intro a H
 refine k1 _ _ ?_;clear k1 K1
 refine wp_seq_k fun K2 k2=>?_
 refine sS H fun K3 k3=>sf dT rfl<|sl S 1 aB G G G<|sf dT rfl<|sl S 0 aB G G G<|sr 1 rfl<|sE ?_;clear H a;intro a H
 refine k3 _ ?_;clear k3 K3
 refine condN H rfl (fun hc1=>?_) (fun hc1=>?_)
 ·skip
  replace H:=H.keep [2,3] rfl
  refine sS H fun K4 k4=>sf dT rfl<|sl S 1 aB G G G<|sf dT rfl<|sl S 0 aB G G G<|sr 2 rfl<|sE ?_;clear H a;intro a H
  refine k4 _ ?_;clear k4 K4
  refine wp_ret ?_
  refine ret1 (fn:=Tryz.f29) rfl H rfl ?_
  refine ⟨?_,(S.sel [] G G)⟩;unfold befB;rw [if_pos hc1]
 refine wp_skip ?_
 refine k2 _ _ ?_
 refine wp_seq_k fun K5 k5=>?_
 replace H:=H.keep [2,3] rfl
 refine sS H fun K6 k6=>sf eI rfl<|sl S 1 aB G G G<|sf eI rfl<|sl S 0 aB G G G<|sr 1 rfl<|sE ?_;clear H a;intro a H
 refine k6 _ ?_;clear k6 K6
 refine condN H rfl (fun hc2=>?_) (fun hc2=>?_)
 ·skip
  replace H:=H.keep [2,3] rfl
  refine sS H fun K7 k7=>sf eI rfl<|sl S 1 aB G G G<|sf eI rfl<|sl S 0 aB G G G<|sr 2 rfl<|sE ?_;clear H a;intro a H
  refine k7 _ ?_;clear k7 K7
  refine wp_ret ?_
  refine ret1 (fn:=Tryz.f29) rfl H rfl ?_
  refine ⟨?_,(S.sel [] G G)⟩;unfold befB;rw [if_neg (fun h=>h (by omega)),if_pos hc2]
 refine wp_skip ?_
 refine k5 _ _ ?_
 replace H:=H.keep [2,3] rfl
 refine sS H fun K8 k8=>sf gC rfl<|sl S 1 aB G G G<|sf gC rfl<|sl S 0 aB G G G<|sr 2 rfl<|sE ?_;clear H a;intro a H
 refine k8 _ ?_;clear k8 K8
 refine wp_ret ?_
 refine ret1 (fn:=Tryz.f29) rfl H rfl ?_
 refine ⟨?_,(S.sel [] G G)⟩;unfold befB;rw [if_neg (fun h=>h (by omega)),if_neg (fun h=>h (by omega))]
theorem xL (y:Yr) (l:List Tsk) (LA:Option Addr) (lc:Nat) (w:World) (hy:YIn w noF y) (hyb:YBd y) (hl:InS w noF 3 LA l.length (cB l)) (hln:l.length≤9223372036854775807) :
    Calls Tryz.prog 9 [.agg [.int .i64 y.days,.int .i64 y.pl,.slice y.PA y.ps.length y.pc,.slice y.XA y.xs.length y.xc,.slice y.BA y.pe.length y.bc,.int .i64 y.limit,.bool y.help,.slice y.QA y.prs.length y.qc,.slice y.VA y.us.length y.vc,.int .i64 y.crew,.slice y.SA y.sps.length y.sc].toArray,.slice LA l.length lc].toArray w (Ret (fun v w'=>v = .int .i64 (taskE y l)∧St w noF [] w')):=by
 have hn3:=hyb.usn
 refine enter Tryz.func9 rfl Tryz.ntmps9 rfl (fun a H=>?_)
 have S:=St.start w
 refine aA fun K1 k1=>?_
 refine aP H rfl S G G ?_;clear H a S;intro b2 _ a hb2 hbw2 S H
 refine ls 1 H<|sr 1 rfl<|sE ?_;clear H a;intro a H
 refine k1 _ _ ?_;clear k1 K1
 refine wp_seq_k fun K2 k2=>?_
 refine aA fun K3 k3=>?_
 refine ls 1 H<|sd ((aD bJ bG rfl S (i:=0) G G))<|sE ?_;clear H a;intro a H
 refine aC H G G Tryz.func27 G G (Yb y _ (hy.now S) hyb) ?_;clear H a
 rintro _ _ a ⟨rfl,S2⟩ H
 replace S:=S.call S2;clear S2
 refine ls 1 H<|sr 1 rfl<|sE ?_;clear H a;intro a H
 refine k3 _ _ ?_;clear k3 K3
 refine sS H fun K4 k4=>sr 2 rfl<|sE ?_;clear H a;intro a H
 refine k4 _ ?_;clear k4 K4
 refine condN H rfl (fun hc1=>?_) (fun hc1=>?_)
 ·skip
  refine sS H fun K5 k5=>sr 2 rfl<|sE ?_;clear H a;intro a H
  refine k5 _ ?_;clear k5 K5
  refine wp_ret ?_
  refine ret1 (fn:=Tryz.f9) rfl H rfl ?_
  exact ⟨congrArg _ (wZ hc1).symm,(S.sel [] G G)⟩
 have hye:yearE y=0:=by omega
 have hyi:=(oQ hye).yr
 unfold yrI at hyi
 refine wp_skip ?_
 refine k2 _ _ ?_
 refine wp_seq_k fun K6 k6=>?_
 replace H:=H.keep [1,2] rfl
 refine sS H fun K7 k7=>sr 1 rfl<|sL cQ rfl<|sr 1 rfl<|sE ?_;clear H a;intro a H
 refine k7 _ ?_;clear k7 K7
 refine condL H rfl (fun hc2=>?_) (fun hc2=>?_)
 ·skip
  refine sS H fun K8 k8=>sr 1 rfl<|sE ?_;clear H a;intro a H
  refine k8 _ ?_;clear k8 K8
  refine wp_ret ?_
  refine ret1 (fn:=Tryz.f9) rfl H rfl ?_
  rw [xA hye (by omega)];exact ⟨rfl,(S.sel [] G G)⟩
 refine wp_skip ?_
 refine k6 _ _ ?_
 refine wp_seq_k fun K9 k9=>?_
 refine sS H fun K10 k10=>sr 1 rfl<|sL cQ rfl<|sr 1 rfl<|sE ?_;clear H a;intro a H
 refine k10 _ ?_;clear k10 K10
 refine wp_block ?_
 refine loop_st (X:=Nat) (R0:=_) [1,2,16,17] H rfl (fun k=>[(18,.int .i64 (k:Int))]) (fun k=>[]) (fun g k=>k≤l.length∧g+k=l.length∧∀ q,q<k→tskB y l q=true) (l.length) 0 ?_ (S.sel [0] G G) (H.keep [18,1,2,16,17] rfl) ?_
 · exact ⟨by omega,by omega,fun q hq=>absurd hq (Nat.not_lt_zero q)⟩
 clear H S a
 intro g1 x1 a w1 hp S H K11 k11
 obtain ⟨k,rfl⟩:∃ y,y=x1:=⟨_,rfl⟩
 refine sS H fun K12 k12=>sr 1 rfl<|sE ?_;clear H a;intro a H
 refine k12 _ ?_;clear k12 K12
 refine wp_seq_k fun K13 k13=>?_
 refine condL H rfl (fun hc3=>?_) (fun hc3=>?_)
 ·skip
  refine wp_skip ?_
  refine k13 _ _ ?_
  refine wp_seq_k fun K14 k14=>?_
  refine wp_block ?_
  refine aA fun K15 k15=>?_
  refine ls 3 H<|sr 1 rfl<|si cQ cV G G (hl.adr (by omega)) (by omega)<|sd ((aU pG cV rfl S hl (by omega) (by omega)))<|sE ?_;clear H a;intro a H
  refine aM H rfl S oU ?_;clear H a S;intro b7 _ a hb7 hbw7 S H
  refine ls 1 H<|sr 1 rfl<|sE ?_;clear H a;intro a H
  refine aH H S (i:=0) G G G G cV G G ?_
  clear H a S;intro _ a S H
  refine k15 _ _ ?_;clear k15 K15
  rcases chk5 (0≤(l.getD k Tsk.zero).day∧(l.getD k Tsk.zero).day≤y.days-1) (0≤(l.getD k Tsk.zero).unit∧(l.getD k Tsk.zero).unit≤(y.us.length:Int)-1) (1≤(l.getD k Tsk.zero).kind∧(l.getD k Tsk.zero).kind≤2) k with hB|hB|hB|hB|hB
  ·skip
   skip
   replace H:=H.keep [1,2,6,7,16,17,18] rfl
   replace S:=S.drew
   refine cJ [(0,true),(1,true),(2,true),(3,true),(4,true),(5,false),(6,true),(7,true),(8,true),(9,true),(10,true),(11,true),(12,true),(13,true),(14,true),(15,true),(16,true),(17,true),(18,true),(19,true),(20,true),(21,true),(22,true),(23,true),(24,true),(25,true),(26,true),(27,true),(28,true),(29,true),(30,true),(31,true),(32,true),(33,true),(34,true),(35,true),(36,true)] (by kernel_rfl) (by kernel_rfl) (S.sel [0,1] G G) fun K16 k16=>?_
   refine qF H<|qd rfl (fun _ S=>(aF dT rfl))<|qd rfl (fun _ S=>aE aB rfl (boxM.rd S (i:=0) G G))<|qd rfl (fun _ S=>(aF dP rfl))<|qd rfl (fun _ S=>aE aB rfl (boxM.rd S (i:=1) G G))<|qd rfl (fun _ S=>aS G G (by unfold i64ok;omega))<|qK ?_;clear H a;intro a H
   refine bA rfl ?_
   refine aC H G G Tryz.func28 G G (bX _ _ _ _) ?_;clear H a
   rintro _ _ a ⟨rfl,rfl⟩ H
   refine wpList_nil (And.intro (S.sel [0,1] G G) ?_)
   refine qF H<|qd rfl (fun _ S=>iF rfl (by omega))<|qr 1 rfl<|qK ?_;clear H a;intro a H
   refine aQ H G G G G G ?_;clear H a;intro a H
   refine aQ H G G G G G ?_;clear H a;intro a H
   refine aQ H G G G G G ?_;clear H a;intro a H
   refine aQ H G G G G G ?_;clear H a;intro a H
   refine aQ H G G G G G ?_;clear H a;intro a H
   refine aQ H G G G G G ?_;clear H a;intro a H
   refine aQ H G G G G G ?_;clear H a;intro a H
   refine aQ H G G G G G ?_;clear H a;intro a H
   refine qF H<|qd rfl (fun _ S=>(bH G G G))<|qr 1 rfl<|qK ?_;clear H a;intro a H
   refine aQ H G G G G G ?_;clear H a;intro a H
   refine aQ H G G G G G ?_;clear H a;intro a H
   refine aQ H G G G G G ?_;clear H a;intro a H
   refine aQ H G G G G G ?_;clear H a;intro a H
   refine qF H<|qd rfl (fun _ S=>(bH G G G))<|qr 1 rfl<|qK ?_;clear H a;intro a H
   refine aQ H G G G G G ?_;clear H a;intro a H
   refine aQ H G G G G G ?_;clear H a;intro a H
   refine aQ H G G G G G ?_;clear H a;intro a H
   refine cF H G G G G ?_;clear H a;intro a H
   refine cF H G G G G ?_;clear H a;intro a H
   refine cF H G G G G ?_;clear H a;intro a H
   refine cF H G G G G ?_;clear H a;intro a H
   refine cF H G G G G ?_;clear H a;intro a H
   refine cF H G G G G ?_;clear H a;intro a H
   refine cF H G G G G ?_;clear H a;intro a H
   refine cF H G G G G ?_;clear H a;intro a H
   refine aQ H G G G G G ?_;clear H a;intro a H
   refine qF H<|qd rfl (fun _ S=>(bH G G G))<|qK ?_;clear H a;intro a H
   refine bU ?_
   refine k16 _ _ ?_
   clear k16 K16
   refine aT H rfl (fun hc4=>?_) (fun hc4=>?_)
   ·skip
    skip
    replace H:=H.keep [] rfl
    refine sS H fun K17 k17=>sr 1 rfl<|sE ?_;clear H a;intro a H
    refine k17 _ ?_;clear k17 K17
    refine wp_ret ?_
    refine ret1 (fn:=Tryz.f9) rfl H rfl ?_
    rw [iE hye (by omega) (show k<l.length by omega) (mF (by omega))];exact ⟨rfl,(S.sel [] G G)⟩
   skip
   cases hc4
  ·skip
   skip
   replace H:=H.keep [1,2,6,7,16,17,18] rfl
   replace S:=S.drew
   refine cJ [(0,true),(1,true),(2,true),(3,true),(4,true),(5,false),(6,true),(7,true),(8,true),(9,true),(10,true),(11,true),(12,true),(13,true),(14,false),(15,true),(16,true),(17,true),(18,true),(19,true),(20,true),(21,true),(22,true),(23,true),(24,true),(25,true),(26,true),(27,true),(28,true),(29,true),(30,true),(31,true),(32,true),(33,true),(34,true),(35,true),(36,true)] (by kernel_rfl) (by kernel_rfl) (S.sel [0,1] G G) fun K18 k18=>?_
   refine qF H<|qd rfl (fun _ S=>(aF dT rfl))<|qd rfl (fun _ S=>aE aB rfl (boxM.rd S (i:=0) G G))<|qd rfl (fun _ S=>(aF dP rfl))<|qd rfl (fun _ S=>aE aB rfl (boxM.rd S (i:=1) G G))<|qd rfl (fun _ S=>aS G G (by unfold i64ok;omega))<|qK ?_;clear H a;intro a H
   refine bA rfl ?_
   refine aC H G G Tryz.func28 G G (bX _ _ _ _) ?_;clear H a
   rintro _ _ a ⟨rfl,rfl⟩ H
   refine wpList_nil (And.intro (S.sel [0,1] G G) ?_)
   refine qF H<|qd rfl (fun _ S=>cH rfl (by omega))<|qr 1 rfl<|qK ?_;clear H a;intro a H
   refine aK H G G G G (fun _ S=>(aF eI rfl)) ?_;clear H a;intro a H
   refine aK H G G G G (fun _ S=>aE aB rfl (boxM.rd S (i:=0) G G)) ?_;clear H a;intro a H
   refine aK H G G G G (fun _ S=>(aF cS rfl)) ?_;clear H a;intro a H
   refine aK H G G G G (fun _ S=>aE dZ rfl (boxM.rd S (i:=1) G G)) ?_;clear H a;intro a H
   refine aK H G G G G (fun _ S=>dJ cX rfl) ?_;clear H a;intro a H
   refine aK H G G G G (fun _ S=>aS G G (by unfold i64ok;omega)) ?_;clear H a;intro a H
   refine bA rfl ?_
   refine bZ H G G ?_
   refine aC H G G Tryz.func28 G G (bX _ _ _ _) ?_;clear H a
   rintro _ _ a ⟨rfl,rfl⟩ H
   refine wpList_nil (And.intro (S.sel [0,1] G G) ?_)
   refine aK H G G G G (fun _ S=>iF rfl (by omega)) ?_;clear H a;intro a H
   refine qF H<|qd rfl (fun _ S=>(dN G G G))<|qr 1 rfl<|qK ?_;clear H a;intro a H
   refine aQ H G G G G G ?_;clear H a;intro a H
   refine aQ H G G G G G ?_;clear H a;intro a H
   refine aQ H G G G G G ?_;clear H a;intro a H
   refine aQ H G G G G G ?_;clear H a;intro a H
   refine qF H<|qd rfl (fun _ S=>(bH G G G))<|qr 1 rfl<|qK ?_;clear H a;intro a H
   refine aQ H G G G G G ?_;clear H a;intro a H
   refine aQ H G G G G G ?_;clear H a;intro a H
   refine aQ H G G G G G ?_;clear H a;intro a H
   refine cF H G G G G ?_;clear H a;intro a H
   refine cF H G G G G ?_;clear H a;intro a H
   refine cF H G G G G ?_;clear H a;intro a H
   refine cF H G G G G ?_;clear H a;intro a H
   refine cF H G G G G ?_;clear H a;intro a H
   refine cF H G G G G ?_;clear H a;intro a H
   refine cF H G G G G ?_;clear H a;intro a H
   refine cF H G G G G ?_;clear H a;intro a H
   refine aQ H G G G G G ?_;clear H a;intro a H
   refine qF H<|qd rfl (fun _ S=>(bH G G G))<|qK ?_;clear H a;intro a H
   refine bU ?_
   refine k18 _ _ ?_
   clear k18 K18
   refine aT H rfl (fun hc5=>?_) (fun hc5=>?_)
   ·skip
    skip
    replace H:=H.keep [] rfl
    refine sS H fun K19 k19=>sr 1 rfl<|sE ?_;clear H a;intro a H
    refine k19 _ ?_;clear k19 K19
    refine wp_ret ?_
    refine ret1 (fn:=Tryz.f9) rfl H rfl ?_
    rw [iE hye (by omega) (show k<l.length by omega) (mF (by omega))];exact ⟨rfl,(S.sel [] G G)⟩
   skip
   cases hc5
  ·skip
   skip
   replace H:=H.keep [1,2,6,7,16,17,18] rfl
   replace S:=S.drew
   refine cJ [(0,true),(1,true),(2,true),(3,true),(4,true),(5,false),(6,true),(7,true),(8,true),(9,true),(10,true),(11,true),(12,true),(13,true),(14,false),(15,true),(16,true),(17,true),(18,true),(19,true),(20,false),(21,true),(22,true),(23,true),(24,true),(25,true),(26,true),(27,true),(28,true),(29,true),(30,true),(31,true),(32,true),(33,true),(34,true),(35,true),(36,true)] (by kernel_rfl) (by kernel_rfl) (S.sel [0,1] G G) fun K20 k20=>?_
   refine qF H<|qd rfl (fun _ S=>(aF dT rfl))<|qd rfl (fun _ S=>aE aB rfl (boxM.rd S (i:=0) G G))<|qd rfl (fun _ S=>(aF dP rfl))<|qd rfl (fun _ S=>aE aB rfl (boxM.rd S (i:=1) G G))<|qd rfl (fun _ S=>aS G G (by unfold i64ok;omega))<|qK ?_;clear H a;intro a H
   refine bA rfl ?_
   refine aC H G G Tryz.func28 G G (bX _ _ _ _) ?_;clear H a
   rintro _ _ a ⟨rfl,rfl⟩ H
   refine wpList_nil (And.intro (S.sel [0,1] G G) ?_)
   refine qF H<|qd rfl (fun _ S=>cH rfl (by omega))<|qr 1 rfl<|qK ?_;clear H a;intro a H
   refine aK H G G G G (fun _ S=>(aF eI rfl)) ?_;clear H a;intro a H
   refine aK H G G G G (fun _ S=>aE aB rfl (boxM.rd S (i:=0) G G)) ?_;clear H a;intro a H
   refine aK H G G G G (fun _ S=>(aF cS rfl)) ?_;clear H a;intro a H
   refine aK H G G G G (fun _ S=>aE dZ rfl (boxM.rd S (i:=1) G G)) ?_;clear H a;intro a H
   refine aK H G G G G (fun _ S=>dJ cX rfl) ?_;clear H a;intro a H
   refine aK H G G G G (fun _ S=>aS G G (by unfold i64ok;omega)) ?_;clear H a;intro a H
   refine bA rfl ?_
   refine bZ H G G ?_
   refine aC H G G Tryz.func28 G G (bX _ _ _ _) ?_;clear H a
   rintro _ _ a ⟨rfl,rfl⟩ H
   refine wpList_nil (And.intro (S.sel [0,1] G G) ?_)
   refine aK H G G G G (fun _ S=>cH rfl (by omega)) ?_;clear H a;intro a H
   refine qF H<|qd rfl (fun _ S=>(dN G G G))<|qr 1 rfl<|qK ?_;clear H a;intro a H
   refine aK H G G G G (fun _ S=>(aF gC rfl)) ?_;clear H a;intro a H
   refine aK H G G G G (fun _ S=>aE aB rfl (boxM.rd S (i:=0) G G)) ?_;clear H a;intro a H
   refine bA rfl ?_
   refine bZ H G G ?_
   refine aC H G G Tryz.func28 G G (bX _ _ _ _) ?_;clear H a
   rintro _ _ a ⟨rfl,rfl⟩ H
   refine wpList_nil (And.intro (S.sel [0,1] G G) ?_)
   refine aK H G G G G (fun _ S=>iF rfl (by omega)) ?_;clear H a;intro a H
   refine qF H<|qd rfl (fun _ S=>(dN G G G))<|qr 1 rfl<|qK ?_;clear H a;intro a H
   refine aQ H G G G G G ?_;clear H a;intro a H
   refine aQ H G G G G G ?_;clear H a;intro a H
   refine aQ H G G G G G ?_;clear H a;intro a H
   refine cF H G G G G ?_;clear H a;intro a H
   refine cF H G G G G ?_;clear H a;intro a H
   refine cF H G G G G ?_;clear H a;intro a H
   refine cF H G G G G ?_;clear H a;intro a H
   refine cF H G G G G ?_;clear H a;intro a H
   refine cF H G G G G ?_;clear H a;intro a H
   refine cF H G G G G ?_;clear H a;intro a H
   refine cF H G G G G ?_;clear H a;intro a H
   refine aQ H G G G G G ?_;clear H a;intro a H
   refine qF H<|qd rfl (fun _ S=>(bH G G G))<|qK ?_;clear H a;intro a H
   refine bU ?_
   refine k20 _ _ ?_
   clear k20 K20
   refine aT H rfl (fun hc6=>?_) (fun hc6=>?_)
   ·skip
    skip
    replace H:=H.keep [] rfl
    refine sS H fun K21 k21=>sr 1 rfl<|sE ?_;clear H a;intro a H
    refine k21 _ ?_;clear k21 K21
    refine wp_ret ?_
    refine ret1 (fn:=Tryz.f9) rfl H rfl ?_
    rw [iE hye (by omega) (show k<l.length by omega) (mF (by omega))];exact ⟨rfl,(S.sel [] G G)⟩
   skip
   cases hc6
  ·skip
   skip
   replace H:=H.keep [1,2,6,7,16,17,18] rfl
   replace S:=S.drew
   refine cJ [(0,true),(1,true),(2,true),(3,true),(4,true),(5,false),(6,true),(7,true),(8,true),(9,true),(10,true),(11,true),(12,true),(13,true),(14,false),(15,true),(16,true),(17,true),(18,true),(19,true),(20,false),(21,true),(22,true),(23,true),(24,true),(25,true),(26,true),(27,true),(28,true),(29,true),(30,true),(31,true),(32,true),(33,true),(34,true),(35,true),(36,true)] (by kernel_rfl) (by kernel_rfl) (S.sel [0,1] G G) fun K22 k22=>?_
   refine qF H<|qd rfl (fun _ S=>(aF dT rfl))<|qd rfl (fun _ S=>aE aB rfl (boxM.rd S (i:=0) G G))<|qd rfl (fun _ S=>(aF dP rfl))<|qd rfl (fun _ S=>aE aB rfl (boxM.rd S (i:=1) G G))<|qd rfl (fun _ S=>aS G G (by unfold i64ok;omega))<|qK ?_;clear H a;intro a H
   refine bA rfl ?_
   refine aC H G G Tryz.func28 G G (bX _ _ _ _) ?_;clear H a
   rintro _ _ a ⟨rfl,rfl⟩ H
   refine wpList_nil (And.intro (S.sel [0,1] G G) ?_)
   refine qF H<|qd rfl (fun _ S=>cH rfl (by omega))<|qr 1 rfl<|qK ?_;clear H a;intro a H
   refine aK H G G G G (fun _ S=>(aF eI rfl)) ?_;clear H a;intro a H
   refine aK H G G G G (fun _ S=>aE aB rfl (boxM.rd S (i:=0) G G)) ?_;clear H a;intro a H
   refine aK H G G G G (fun _ S=>(aF cS rfl)) ?_;clear H a;intro a H
   refine aK H G G G G (fun _ S=>aE dZ rfl (boxM.rd S (i:=1) G G)) ?_;clear H a;intro a H
   refine aK H G G G G (fun _ S=>dJ cX rfl) ?_;clear H a;intro a H
   refine aK H G G G G (fun _ S=>aS G G (by unfold i64ok;omega)) ?_;clear H a;intro a H
   refine bA rfl ?_
   refine bZ H G G ?_
   refine aC H G G Tryz.func28 G G (bX _ _ _ _) ?_;clear H a
   rintro _ _ a ⟨rfl,rfl⟩ H
   refine wpList_nil (And.intro (S.sel [0,1] G G) ?_)
   refine aK H G G G G (fun _ S=>cH rfl (by omega)) ?_;clear H a;intro a H
   refine qF H<|qd rfl (fun _ S=>(dN G G G))<|qr 1 rfl<|qK ?_;clear H a;intro a H
   refine aK H G G G G (fun _ S=>(aF gC rfl)) ?_;clear H a;intro a H
   refine aK H G G G G (fun _ S=>aE aB rfl (boxM.rd S (i:=0) G G)) ?_;clear H a;intro a H
   refine bA rfl ?_
   refine bZ H G G ?_
   refine aC H G G Tryz.func28 G G (bX _ _ _ _) ?_;clear H a
   rintro _ _ a ⟨rfl,rfl⟩ H
   refine wpList_nil (And.intro (S.sel [0,1] G G) ?_)
   refine aK H G G G G (fun _ S=>cH rfl (by omega)) ?_;clear H a;intro a H
   refine qF H<|qd rfl (fun _ S=>(dN G G G))<|qr 1 rfl<|qK ?_;clear H a;intro a H
   refine aK H G G G G (fun _ S=>aJ rfl) ?_;clear H a;intro a H
   refine aK H G G G G (fun _ S=>rU G G (by omega)) ?_;clear H a;intro a H
   refine aK H G G G G (fun _ S=>aJ rfl) ?_;clear H a;intro a H
   refine aQ H G G G G G ?_;clear H a;intro a H
   refine aQ H G G G G G ?_;clear H a;intro a H
   refine aQ H G G G G G ?_;clear H a;intro a H
   refine aQ H G G G G G ?_;clear H a;intro a H
   refine aQ H G G G G G ?_;clear H a;intro a H
   refine aQ H G G G G G ?_;clear H a;intro a H
   refine aQ H G G G G G ?_;clear H a;intro a H
   refine aQ H G G G G G ?_;clear H a;intro a H
   refine aK H G G G G (fun _ S=>(bH G G G)) ?_;clear H a;intro a H
   refine qF H<|qd rfl (fun _ S=>(dN G G G))<|qK ?_;clear H a;intro a H
   refine bU ?_
   refine k22 _ _ ?_
   clear k22 K22
   refine aT H rfl (fun hc7=>?_) (fun hc7=>?_)
   ·skip
    skip
    cases hc7
   skip
   refine wp_skip ?_
   refine k14 _ _ ?_
   replace H:=H.keep [1,2,16,17,18] rfl
   refine sO H<|sd (aG G G (by unfold i64ok;omega))<|sr 1 rfl<|sE ?_;clear H a;intro a H
   exact k11 (g1-1) (k+1) a _ (by omega) (by first|exact ⟨by omega,by omega,fX (f:=tskB y l) hp.2.2 (oR hB)⟩|exact ⟨by omega,by omega,fX (f:=tskB y l) hp.2.2 (oS hB hc8)⟩) (S.sel [1] G G) (H.keep [18,1,2,16,17] rfl)
  skip
  replace H:=H.keep [1,2,6,7,16,17,18] rfl
  replace S:=S.drew
  refine cJ [(0,true),(1,true),(2,true),(3,true),(4,true),(5,false),(6,true),(7,true),(8,true),(9,true),(10,true),(11,true),(12,true),(13,true),(14,false),(15,true),(16,true),(17,true),(18,true),(19,true),(20,false),(21,true),(22,true),(23,true),(24,true),(25,true),(26,true),(27,true),(28,true),(29,true),(30,true),(31,true),(32,true),(33,false),(34,true),(35,true),(36,true)] (by kernel_rfl) (by kernel_rfl) (S.sel [0,1] G G) fun K24 k24=>?_
  refine qF H<|qd rfl (fun _ S=>(aF dT rfl))<|qd rfl (fun _ S=>aE aB rfl (boxM.rd S (i:=0) G G))<|qd rfl (fun _ S=>(aF dP rfl))<|qd rfl (fun _ S=>aE aB rfl (boxM.rd S (i:=1) G G))<|qd rfl (fun _ S=>aS G G (by unfold i64ok;omega))<|qK ?_;clear H a;intro a H
  refine bA rfl ?_
  refine aC H G G Tryz.func28 G G (bX _ _ _ _) ?_;clear H a
  rintro _ _ a ⟨rfl,rfl⟩ H
  refine wpList_nil (And.intro (S.sel [0,1] G G) ?_)
  refine qF H<|qd rfl (fun _ S=>cH rfl (by omega))<|qr 1 rfl<|qK ?_;clear H a;intro a H
  refine aK H G G G G (fun _ S=>(aF eI rfl)) ?_;clear H a;intro a H
  refine aK H G G G G (fun _ S=>aE aB rfl (boxM.rd S (i:=0) G G)) ?_;clear H a;intro a H
  refine aK H G G G G (fun _ S=>(aF cS rfl)) ?_;clear H a;intro a H
  refine aK H G G G G (fun _ S=>aE dZ rfl (boxM.rd S (i:=1) G G)) ?_;clear H a;intro a H
  refine aK H G G G G (fun _ S=>dJ cX rfl) ?_;clear H a;intro a H
  refine aK H G G G G (fun _ S=>aS G G (by unfold i64ok;omega)) ?_;clear H a;intro a H
  refine bA rfl ?_
  refine bZ H G G ?_
  refine aC H G G Tryz.func28 G G (bX _ _ _ _) ?_;clear H a
  rintro _ _ a ⟨rfl,rfl⟩ H
  refine wpList_nil (And.intro (S.sel [0,1] G G) ?_)
  refine aK H G G G G (fun _ S=>cH rfl (by omega)) ?_;clear H a;intro a H
  refine qF H<|qd rfl (fun _ S=>(dN G G G))<|qr 1 rfl<|qK ?_;clear H a;intro a H
  refine aK H G G G G (fun _ S=>(aF gC rfl)) ?_;clear H a;intro a H
  refine aK H G G G G (fun _ S=>aE aB rfl (boxM.rd S (i:=0) G G)) ?_;clear H a;intro a H
  refine bA rfl ?_
  refine bZ H G G ?_
  refine aC H G G Tryz.func28 G G (bX _ _ _ _) ?_;clear H a
  rintro _ _ a ⟨rfl,rfl⟩ H
  refine wpList_nil (And.intro (S.sel [0,1] G G) ?_)
  refine aK H G G G G (fun _ S=>cH rfl (by omega)) ?_;clear H a;intro a H
  refine qF H<|qd rfl (fun _ S=>(dN G G G))<|qr 1 rfl<|qK ?_;clear H a;intro a H
  refine aK H G G G G (fun _ S=>aJ rfl) ?_;clear H a;intro a H
  refine aK H G G G G (fun _ S=>rT G G (by omega)) ?_;clear H a;intro a H
  refine aK H G G G G (fun _ S=>aJ rfl) ?_;clear H a;intro a H
  refine aK H G G G G (fun _ S=>aJ rfl) ?_;clear H a;intro a H
  refine aK H G G G G (fun _ S=>aJ rfl) ?_;clear H a;intro a H
  refine aK H G G G G (fun _ S=>aS G G (by unfold i64ok;omega)) ?_;clear H a;intro a H
  refine aK H G G G G (fun _ S=>bP cQ cV G G (hl.adr (by omega)) (by omega) (by omega)) ?_;clear H a;intro a H
  refine aK H G G G G (fun _ S=>(aU pG cV rfl S hl (by omega) (by omega))) ?_;clear H a;intro a H
  refine aK H G G G G (fun _ S=>(aD pG cV rfl S (i:=0) G G)) ?_;clear H a;intro a H
  refine bA rfl ?_
  refine bZ H G G ?_
  refine aC H G G Tryz.func29 G G (Mk (l.getD ((k:Int)-1).toNat Tsk.zero) (l.getD k Tsk.zero) _) ?_;clear H a
  rintro _ _ a ⟨rfl,S2⟩ H
  replace S:=S.call S2;clear S2
  refine wpList_nil (And.intro (S.sel [0,1] G G) ?_)
  refine aK H G G G G (fun _ S=>kD rfl) ?_;clear H a;intro a H
  refine aK H G G G G (fun _ S=>(gG G G G)) ?_;clear H a;intro a H
  refine qF H<|qd rfl (fun _ S=>(dN G G G))<|qK ?_;clear H a;intro a H
  refine bU ?_
  refine k24 _ _ ?_
  clear k24 K24
  refine aT H rfl (fun hc8=>?_) (fun hc8=>?_)
  ·skip
   try simp only [o1,o2,o3,o4,o5,o6,o7,o8,o9,oa] at hc8
   replace hc8:befB (l.getD ((k:Int)-1).toNat Tsk.zero) (l.getD k Tsk.zero)=false:=by simpa using hc8
   replace H:=H.keep [] rfl
   refine sS H fun K25 k25=>sr 1 rfl<|sE ?_;clear H a;intro a H
   refine k25 _ ?_;clear k25 K25
   refine wp_ret ?_
   refine ret1 (fn:=Tryz.f9) rfl H rfl ?_
   rw [iE hye (by omega) (show k<l.length by omega) (Ee hB hc8)];exact ⟨rfl,(S.sel [] G G)⟩
  try simp only [o1,o2,o3,o4,o5,o6,o7,o8,o9,oa] at hc8
  replace hc8:befB (l.getD ((k:Int)-1).toNat Tsk.zero) (l.getD k Tsk.zero)=true:=by simpa using hc8
  refine wp_skip ?_
  refine k14 _ _ ?_
  refine sO H<|sd (aG G G (by unfold i64ok;omega))<|sr 1 rfl<|sE ?_;clear H a;intro a H
  exact k11 (g1-1) (k+1) a _ (by omega) (by first|exact ⟨by omega,by omega,fX (f:=tskB y l) hp.2.2 (oR hB)⟩|exact ⟨by omega,by omega,fX (f:=tskB y l) hp.2.2 (oS hB hc8)⟩) (S.sel [1] G G) (H.keep [18,1,2,16,17] rfl)
 refine wp_exit ?_
 refine k9 _ _ ?_
 refine sS H fun K27 k27=>sr 1 rfl<|sE ?_;clear H a;intro a H
 refine k27 _ ?_;clear k27 K27
 refine wp_ret ?_
 refine ret1 (fn:=Tryz.f9) rfl H rfl ?_
 rw [rH hye (by omega) (bQ.2 fun q hq=>hp.2.2 q (by omega))];exact ⟨rfl,(S.sel [] G G)⟩
end
section
theorem six {p:Nat→Prop} (h0:p 0) (h1:p 1) (h2:p 2) (h3:p 3) (h4:p 4) (h5:p 5):∀ j,j<6→p j:=by
  intro j hj
  match j,hj with
  | 0,_=>exact h0
  | 1,_=>exact h1
  | 2,_=>exact h2
  | 3,_=>exact h3
  | 4,_=>exact h4
  | 5,_=>exact h5
theorem pU {l:List Use} {x:Use} {vs:List Value} (h:∀ j,j<6→vs.getD j undef=x.cell j):∀ q j,q<l.length+1→j<6→capp l.length (ucell l) (fun k' j=>([vs].getD k' []).getD j undef) q j=ucell (l++[x]) q j:=by
  intro q j hq hj
  unfold capp ucell
  by_cases h1:q<l.length
  · rw [if_pos h1,List.getD_eq_getElem?_getD,List.getD_eq_getElem?_getD,List.getElem?_append_left h1]
  · rw [if_neg h1]
    have e:q=l.length:=by omega
    subst e
    rw [Nat.sub_self,List.getD_eq_getElem?_getD (l:=l++[x]),List.getElem?_append_right (Nat.le_refl _),Nat.sub_self]
    exact h j hj
theorem Yc {w:World} {p:Part} {l:List Use} {v:Value} {w':World} (h:v = .tuple #[.int .i64 (bI p l Prod.snd).1,.int .i64 (bI p l Prod.snd).2]∧St w noF [] w'):∃ n e:Int,v = .tuple #[.int .i64 n,.int .i64 e]∧bydB p l=(!decide (e=0)||decide (0≤n))∧St w noF [] w':=⟨_,_,h.1,rfl,h.2⟩
theorem Sy {w:World} {F:Nat→Prop} {sz n:Nat} {A:Option Addr} {cell:Nat→Nat→Value} (h:InS w F sz A n cell):A=none→n=0∧n=0:=fun e=>by
  rcases Nat.eq_zero_or_pos n with h0|h0
  · exact ⟨h0,h0⟩
  · obtain ⟨b,o,h1,_⟩:=h h0
    rw [e] at h1;cases h1
theorem Ml (u:Unt) (l:List Use) (LA:Option Addr) (lc:Nat) (age:Int) (w:World) (hur:InS w noF 2 u.RA u.rates.length (scell u.rates)) (hurn:u.rates.length≤9223372036854775807) (huu:InS w noF 6 u.UA u.uses.length (ucell u.uses)) (huun:u.uses.length≤9223372036854775807) (hl:InS w noF 6 LA l.length (ucell l)) (hln:l.length≤1000000) (hlc:l.length≤lc) :
    Calls Tryz.prog 83 [.agg [.int .i64 u.mach,.int .i64 u.every,.int .i64 u.seen,.slice u.RA u.rates.length u.rc,.int .i64 u.worn,.int .i64 u.turns,.int .i64 u.age,.slice u.UA u.uses.length u.uc,.int .i64 u.old,.int .i64 u.tn,.int .i64 u.cl,.int .i64 u.kind].toArray,.slice LA l.length lc,.int .i64 age].toArray w (Ret (fun v w'=>v = .bool (bydB u.part (l++[⟨age,u.tn,u.cl,false,0,0⟩]))∧St w noF [] w')):=by
 refine enter Tryz.func83 rfl Tryz.ntmps83 rfl (fun a H=>?_)
 have S:=St.start w
 refine aA fun K1 k1=>?_
 refine aP H rfl S G G ?_;clear H a S;intro b3 _ a hb3 hbw3 S H
 refine ls 1 H<|sr 1 rfl<|sE ?_;clear H a;intro a H
 refine k1 _ _ ?_;clear k1 K1
 replace H:=H.keep [1,2,3] rfl
 refine aA fun K2 k2=>?_
 refine ls 6 H<|sr 1 rfl<|sf qN rfl<|sl S 0 aB G G G<|sf qO rfl<|sl S 0 aB G G G<|sd (aN Fu G G)<|sE ?_;clear H a;intro a H
 refine aM H rfl S fZ ?_;clear H a S;intro b7 _ a hb7 hbw7 S H
 refine aH H S (i:=0) G G G G bV G G ?_
 clear H a S;intro _ a S H
 refine k2 _ _ ?_;clear k2 K2
 replace H:=H.keep [1,3,7] rfl
 replace S:=S.drew
 refine mI 999999 (.q 0 (.q 1 (.q 2 (.q 3 (.q 4 (.q 5 (.q 6 (.q 7 (.q 8 (.e 9 (.e 10 (.e 11 (.q 12 (.q 13 (.q 14 (.q 15 (.q 16 .nil))))))))))))))))) (by kernel_rfl) (by kernel_rfl) (S.sel [0,1] G G) fun K3 k3=>?_
 refine aI H G G (fun _ S=>(aF jV rfl)) ?_;clear H a;intro a H
 refine aI H G G (fun _ S=>(aD dE dV rfl S (i:=1) G G)) ?_;clear H a;intro a H
 refine aI H G G (fun _ S=>aJ rfl) ?_;clear H a;intro a H
 refine aI H G G (fun _ S=>aJ rfl) ?_;clear H a;intro a H
 refine aI H G G (fun _ S=>dJ cG rfl) ?_;clear H a;intro a H
 refine aI H G G (fun _ S=>aJ rfl) ?_;clear H a;intro a H
 refine aI H G G (fun _ S=>dJ cG rfl) ?_;clear H a;intro a H
 refine aI H G G (fun _ S=>tK cG bV G G G hlc) ?_;clear H a;intro a H
 refine aI H G G (fun _ S=>(aD jE bV rfl S (i:=0) G G)) ?_;clear H a;intro a H
 refine bE rfl ?_
 refine aL H rfl S cG bV fZ G G G G G G G G G ?_;clear H a S;intro A1 _ a hA1 S H
 refine wpList_nil (And.intro (Or.inr (S.sel [1,2] G G)) ?_)
 refine bE rfl ?_
 refine rJ H rfl S cG bV fZ pI G G G G (n:=l.length) (cell:=ucell l) (cell':=_) (hl.now S) (Sy (hl.now S)) (by omega) (by omega) (ownM.inS S (i:=0) rfl) (jR (six G G G G G G)) (by omega) (by omega) ?_;clear H a S;intro A2 c2 _ a S H
 replace S:=S.recell (i:=0) rfl (cell':=ucell (l++[⟨age,u.tn,u.cl,false,0,0⟩])) (pU (x:=⟨age,u.tn,u.cl,false,0,0⟩) (six G G G G G G))
 refine wpList_nil (And.intro (Or.inr (S.sel [2,3] G G)) ?_)
 refine bE rfl ?_
 rw [show l.length+1=(l++[(⟨age,u.tn,u.cl,false,0,0⟩:Use)]).length by simp] at H S
 have hcl9:=dU (As u.rates u.worn u.turns u.age u.RA u.rc (l++[⟨age,u.tn,u.cl,false,0,0⟩]) A2 c2 _ (hur.now S) hurn ((ownM.inS S (i:=0) rfl)) (by simp;omega)) (fun _ _ h=>Yc h)
 refine aC H G G Tryz.func101 G G hcl9 ?_;clear H a hcl9
 rintro _ _ a ⟨n9,e9,rfl,hb9,S2⟩ H
 replace S:=S.call S2;clear S2
 refine wpList_nil (And.intro (Or.inr (S.sel [2,3] G G)) ?_)
 refine aI H G G (fun _ S=>aJ rfl) ?_;clear H a;intro a H
 refine aI H G G (fun _ S=>cM G G) ?_;clear H a;intro a H
 refine aI H G G (fun _ S=>cM G G) ?_;clear H a;intro a H
 refine aI H G G (fun _ S=>gF rfl) ?_;clear H a;intro a H
 refine aI H G G (fun _ S=>gF rfl) ?_;clear H a;intro a H
 refine dY ?_
 refine k3 _ _ ?_
 clear k3 K3
 replace H:=H.keep [8,9] rfl
 refine sS H fun K4 k4=>sr 3 rfl<|sg 2 2 33 35 false G G (fun hg3=>sy hg3<|sr 1 rfl<|sy hg3<|sr 1 rfl<|sz 2 G G G)<|so G G G<|sr 1 rfl<|sE ?_;clear H a;intro a H
 refine k4 _ ?_;clear k4 K4
 refine wp_ret ?_
 refine ret1 (fn:=Tryz.f83) rfl H rfl ?_
 exact ⟨congrArg Value.bool hb9.symm,(S.sel [] G G)⟩
theorem Ye (u:Unt) (J:Nat→Int) (dy:Nat) (w:World) (hur:InS w noF 2 u.RA u.rates.length (scell u.rates)) (hurn:u.rates.length≤9223372036854775807) (huu:InS w noF 6 u.UA u.uses.length (ucell u.uses)) (huun:u.uses.length≤9223372036854775807) (hucp:u.uses.length≤u.uc) (hui:untI u) (ho0:0≤u.old) (hJ:∀ d,0≤J d∧J d≤6) (hdy:dy≤20) :
    Calls Tryz.prog 68 [.agg [.int .i64 u.mach,.int .i64 u.every,.int .i64 u.seen,.slice u.RA u.rates.length u.rc,.int .i64 u.worn,.int .i64 u.turns,.int .i64 u.age,.slice u.UA u.uses.length u.uc,.int .i64 u.old,.int .i64 u.tn,.int .i64 u.cl,.int .i64 u.kind].toArray,.agg ((List.range 20).map fun k=>Value.int .i64 (J k)).toArray,.int .i64 (dy:Int)].toArray w (Ret (fun v w'=>v = .agg [.int .i64 (bsum (runB' u J) dy),.int .i64 (bsum (certB u J) dy)].toArray∧St w noF [] w')):=by
 have hmx:maxLen=9223372036854775807:=rfl
 unfold untI at hui
 refine enter Tryz.func68 rfl Tryz.ntmps68 rfl (fun a H=>?_)
 have S:=St.start w
 refine aA fun K1 k1=>?_
 refine aP H rfl S G G ?_;clear H a S;intro b3 _ a hb3 hbw3 S H
 refine aP H rfl S G G ?_;clear H a S;intro b4 _ a hb4 hbw4 S H
 refine aM H rfl S yF ?_;clear H a S;intro b6 _ a hb6 hbw6 S H
 refine k1 _ _ ?_;clear k1 K1
 replace S:=Xo S (i:=1) rfl (by omega)
 refine aA fun K2 k2=>?_
 refine aM H rfl S yF ?_;clear H a S;intro b7 _ a hb7 hbw7 S H
 refine k2 _ _ ?_;clear k2 K2
 replace H:=H.keep [2,3,4,6,7] rfl
 replace S:=S.drew
 refine sD H fun K3 k3=>sf gD rfl<|sl S 3 iW G G G<|sf qM rfl<|sl S 3 aB G G G<|sd (Br rfl (by unfold i64ok;omega))<|sf qL rfl<|sl S 3 aB G G G<|sr 3 rfl<|sE ?_;clear H a;intro a H
 refine k3 _ ?_;clear k3 K3
 refine wp_seq_k fun K4 k4=>?_
 replace H:=H.keep [2,3,4,6,7,8,9,10] rfl
 refine sS H fun K5 k5=>sr 2 rfl<|sE ?_;clear H a;intro a H
 refine k5 _ ?_;clear k5 K5
 refine wp_block ?_
 replace S:=S.frz0
 refine loop_st (X:=Nat×LSt×Option Addr×Nat×(Nat→Prop)×World) (R0:=_) [3,4,6,7,21] H rfl (fun ⟨d,st,A9,c9,B9,wz⟩=>[(8,.slice A9 st.uses.length c9),(9,.int .i64 st.born),(10,.int .i64 st.seen),(22,.int .i64 (d:Int))]) (fun ⟨d,st,A9,c9,B9,wz⟩=>[boxM b7 96 [.int .i64 (bsum (runB' u J) d),.int .i64 (bsum (certB u J) d)],frzM B9 wz]) (fun g ⟨d,st,A9,c9,B9,wz⟩=>(d≤dy∧g+d=dy)∧(RdF w noF B9 wz 6 A9 st.uses.length (ucell st.uses)∧st.uses.length≤c9)∧st=lifeS u J d) (dy) (0,lifeS u J 0,u.UA,u.uc,noF,_) ?_ (S.sel [1,0,2,3,4] G G) (H.keep [8,9,10,22,3,4,6,7,21] rfl) ?_
 · exact ⟨⟨by omega,by omega⟩,⟨RdF.base huu,hucp⟩,rfl⟩
 clear H S a
 intro g1 x1 a w1 hp S H K6 k6
 obtain ⟨d,st,A9,c9,B9,wz⟩:=x1
 dsimp only at hp S H
 obtain ⟨⟨hdl,hgd⟩,⟨hrd,hcap⟩,hst9⟩:=hp
 subst hst9
 have hln:=yY (u:=u) (J:=J) d
 have hbo:=xE (u:=u) (J:=J) (by omega) d
 have hsn:=Gy (u:=u) (J:=J) (by omega) d
 skip
 refine sS H fun K7 k7=>sr 1 rfl<|sE ?_;clear H a;intro a H
 refine k7 _ ?_;clear k7 K7
 refine wp_seq_k fun K8 k8=>?_
 refine condL H rfl (fun hc1=>?_) (fun hc1=>?_)
 ·skip
  refine wp_skip ?_
  refine k8 _ _ ?_
  refine wp_seq_k fun K9 k9=>?_
  refine wp_block ?_
  refine sS H fun K10 k10=>sr 2 rfl<|sE ?_;clear H a;intro a H
  refine k10 _ ?_;clear k10 K10
  have hJd:=hJ d
  replace H:=H.keep [3,4,6,7,8,9,10,11,21,22] rfl
  replace S:=S.drew
  refine sD H fun K11 k11=>sr 1 rfl<|sd (dM Tryz.underlying123 aW G G (by omega) (by omega))<|slm aB rfl (ownM.rd S (i:=3) (k:=d) (j:=0) rfl (by omega) (by omega))<|sd (lM G G (by omega) (by omega))<|sd (jY G G)<|sr 2 rfl<|sd (dM Tryz.underlying123 aW G G (by omega) (by omega))<|slm aB rfl (ownM.rd S (i:=3) (k:=d) (j:=0) rfl (by omega) (by omega))<|sd (lM G G (by omega) (by omega))<|sd (jY G G)<|sr 3 rfl<|sE ?_;clear H a;intro a H
  refine k11 _ ?_;clear k11 K11
  have SR:=(S.sel [0,1,2,3,4] G G)
  refine fG (X:=Int) [3,4,6,7,8,9,11,13,21,22] H rfl (fun x=>[(10,.int .i64 x)]) (fun x=>[]) (fun x=>x=seenN (lifeS u J d) (J d) d) SR (fun K13 k13=>?_) ?_
  ·skip
   replace H:=H.keep [3,4,6,7,8,9,10,11,12,13,21,22] rfl
   refine sS H fun K14 k14=>sr 1 rfl<|sE ?_;clear H a;intro a H
   refine k14 _ ?_;clear k14 K14
   refine condE H rfl (fun hc2=>?_) (fun hc2=>?_)
   ·skip
    refine sO H<|sr 2 rfl<|sE ?_;clear H a;intro a H
    exact k13 _ a _ ((if_pos (show insp (J d)=true from decide_eq_true hc2)).symm) (S.sel [0,1,2,3,4] G G) (H.keep [10,3,4,6,7,8,9,11,13,21,22] rfl)
   refine wp_skip ?_
   exact k13 _ a _ ((if_neg (show ¬ insp (J d)=true from fun h=>hc2 (of_decide_eq_true h))).symm) (S.sel [0,1,2,3,4] G G) (H.keep [10,3,4,6,7,8,9,11,13,21,22] rfl)
  clear SR H S a
  intro xm a wm hp S H
  obtain ⟨x,rfl⟩:∃ y,y=xm:=⟨_,rfl⟩
  have hx9:=hp
  have hxb:=Dv (s:=(lifeS u J d)) (j:=J d) (d:=d) hsn
  rw [←hx9] at hxb
  have SR:=(S.sel [1,2,3,4] G G)
  refine fG (X:=Unit) [3,4,6,7,8,9,10,11,13,21,22] H rfl (fun u3=>[]) (fun u3=>[boxM b7 96 [.int .i64 (bsum (runB' u J) d),.int .i64 (bsum (certB u J) (d+1))]]) (fun u3=>True) SR (fun K17 k17=>?_) ?_
  ·skip
   refine sS H fun K18 k18=>sr 2 rfl<|sd (aS G G (by unfold i64ok;omega))<|sf oI rfl<|sl S 4 aB G G G<|sr 1 rfl<|sE ?_;clear H a;intro a H
   refine k18 _ ?_;clear k18 K18
   refine condG H rfl (fun hc3=>?_) (fun hc3=>?_)
   ·skip
    replace H:=H.keep [3,4,6,7,8,9,10,11,13,21,22] rfl
    refine iH 6 (by kernel_rfl) (by kernel_rfl) ?_
    replace S:=S.drew
    refine sF H<|sf Ic rfl<|sl S 0 aB G G G<|sr 1 rfl<|sd (nA G G (by omega) (by omega) (Gx (by omega)))<|sd (xD G G (yX _ (by omega)) (by omega) (Jo (Nat.le_refl d)))<|sf Ic rfl<|sE ?_;clear H a;intro a H
    refine aH H S (i:=0) G G G G aW G G ?_
    clear H a S;intro _ a S H
    replace S:=boxM.same S (i:=0) rfl (cs':=[.int .i64 (bsum (runB' u J) d),.int .i64 (bsum (certB u J) (d+1))]) (by rw [←Sa (f:=certB u J) (n:=d) ((Dx u J d x hx9).symm.trans (decide_eq_true hc3))] <;> rfl)
    exact k17 () a _ (trivial) (S.sel [0,1,2,3,4] G G) (H.keep [3,4,6,7,8,9,10,11,13,21,22] rfl)
   refine wp_skip ?_
   replace S:=boxM.same S (i:=0) rfl (cs':=[.int .i64 (bsum (runB' u J) d),.int .i64 (bsum (certB u J) (d+1))]) (by rw [←Sb (f:=certB u J) (n:=d) ((Dx u J d x hx9).symm.trans (decide_eq_false (by omega)))] <;> rfl)
   exact k17 () a _ (trivial) (S.sel [0,1,2,3,4] G G) (H.keep [3,4,6,7,8,9,10,11,13,21,22] rfl)
  clear SR H S a
  intro xm a wm hp S H
  obtain ⟨u3,rfl⟩:∃ y,y=xm:=⟨_,rfl⟩
  skip
  have SR:=(S.sel [2,3,4] G G)
  refine fG (X:=Option Addr×Nat×(Nat→Prop)×World) [3,4,6,7,9,10,11,13,21,22] H rfl (fun ⟨A8,c8,B8,wy⟩=>[(8,.slice A8 (usesN u J d).length c8)]) (fun ⟨A8,c8,B8,wy⟩=>[boxM b7 96 [.int .i64 (bsum (runB' u J) (d+1)),.int .i64 (bsum (certB u J) (d+1))],frzM B8 wy]) (fun ⟨A8,c8,B8,wy⟩=>RdF w noF B8 wy 6 A8 (usesN u J d).length (ucell (usesN u J d))∧(usesN u J d).length≤c8) SR (fun K21 k21=>?_) ?_
  ·skip
   replace H:=H.keep [3,4,6,7,8,9,10,11,13,21,22] rfl
   refine aA fun K22 k22=>?_
   refine ls 13 H<|sr 1 rfl<|sd (dM Tryz.underlying123 aW G G (by omega) (by omega))<|slm aB rfl (ownM.rd S (i:=3) (k:=d) (j:=0) rfl (by omega) (by omega))<|sr 2 rfl<|sg 6 4 55 61 true G G (fun hg5=>sy hg5<|sr 1 rfl<|sy hg5<|sr 1 rfl<|sy hg5<|sd (aS G G (by unfold i64ok;omega))<|sy hg5<|sf oI rfl<|sy hg5<|sl S 4 aB G G G<|sy hg5<|sr 1 rfl<|sz 6 G G G)<|sa G G G<|sr 1 rfl<|sE ?_;clear H a;intro a H
   apply eJ (i:=12) (g:=63) (t:=70) (b:=true) 7 H S G G (by kernel_rfl) (by kernel_rfl) G G
   case h1=>
    intro hg13
    refine ls 5 H<|sy hg13<|sd ((aD lH dC rfl S (i:=4) G G))<|sy hg13<|sr 1 rfl<|sy hg13<|sr 1 rfl<|sy hg13<|sr 1 rfl<|sy hg13<|sd (aS G G (by unfold i64ok;omega))<|sE ?_;intro a H
    refine fL H G G (by assumption) ?_
    refine aC H G G Tryz.func83 G G (Ml u (lifeS u J d).uses A9 c9 ((d:Int)-(lifeS u J d).born) _ (hur.now S) hurn (huu.now S) huun (hrd.now S (i:=1) rfl) (by omega) hcap) ?_
    rintro _ _ a ⟨rfl,S2⟩ H
    replace S:=S.call S2;clear S2
    refine ls 1 H<|sy hg13<|sr 1 rfl<|sE ?_;intro a H
    exact wpList_nil ⟨H.strip 7 G G,(S.sel [0,1,2,3,4] G G)⟩
   clear H a S;intro a _ H S
   refine ls 1 H<|sa G G G<|sE ?_;clear H a;intro a H
   refine k22 _ _ ?_;clear k22 K22
   refine aT H rfl (fun hc4=>?_) (fun hc4=>?_)
   ·skip
    rw [Jp u J d x hx9] at hc4
    replace H:=H.keep [3,4,6,7,8,9,10,11,13,21,22] rfl
    refine jK 6 (by kernel_rfl) (by kernel_rfl) fun K23 k23=>?_
    replace S:=S.drew
    refine sF H<|sf Ag rfl<|sl S 0 aB G G G<|sr 1 rfl<|sd (nA G G (by omega) (by omega) (Gx (by omega)))<|sd (xD G G (yX _ (by omega)) (by omega) (Jo (Nat.le_refl d)))<|sf Ag rfl<|sE ?_;clear H a;intro a H
    refine aH H S (i:=0) G G G G aW G G ?_
    clear H a S;intro _ a S H
    refine k23 _ _ ?_;clear k23 K23
    replace H:=H.keep [3,4,6,7,8,9,10,11,13,21,22] rfl
    replace S:=S.drew
    refine one_wq [(0,true),(1,true),(2,true),(3,true),(4,true),(5,true),(6,true),(7,true),(8,true),(9,true),(10,true),(11,true),(12,true),(13,true),(14,false),(15,false),(16,true)] (by kernel_rfl) (by kernel_rfl) (S.sel [0,1,2,3,4] G G) ?_
    refine qF H<|qr 2 rfl<|qd rfl (fun _ S=>dJ cG rfl)<|qr 1 rfl<|qd rfl (fun _ S=>dJ cG rfl)<|qd rfl (fun _ S=>tK cG bV G G G hcap)<|qr 2 rfl<|qd rfl (fun _ S=>aS G G (by unfold i64ok;omega))<|qd rfl (fun _ S=>(aF qN rfl))<|qd rfl (fun _ S=>aE aB rfl (boxM.rd S (i:=4) G G))<|qd rfl (fun _ S=>(aF qO rfl))<|qd rfl (fun _ S=>aE aB rfl (boxM.rd S (i:=4) G G))<|qd rfl (fun _ S=>aN Fu G G)<|qK ?_;clear H a;intro a H
    refine bA rfl ?_
    refine aL H rfl S cG bV fZ G G G G G G G G G ?_;clear H a S;intro A1 _ a hA1 S H
    refine wpList_nil (And.intro (S.sel [1,2,3,4,5] G G) ?_)
    refine bA rfl ?_
    refine rJ H rfl S cG bV fZ pI G G G G (n:=(lifeS u J d).uses.length) (cell:=ucell (lifeS u J d).uses) (cell':=_) (hrd.now S (i:=2) rfl) (Sy (hrd.now S (i:=2) rfl)) (by omega) (by omega) (ownM.inS S (i:=0) rfl) (jR (six G G G G G G)) (by omega) (by omega) ?_;clear H a S;intro A3 c3 _ a S H
    replace S:=S.recell (i:=0) rfl (cell':=ucell ((lifeS u J d).uses++[useAt u d (lifeS u J d).born])) (pU (x:=useAt u d (lifeS u J d).born) (six G G G G G G))
    refine wpList_nil (And.intro (S.sel [2,3,4,5,6] G G) ?_)
    refine qF H<|qr 1 rfl<|qK ?_;clear H a;intro a H
    refine bU ?_
    replace S:=boxM.same S (i:=2) rfl (cs':=[.int .i64 (bsum (runB' u J) (d+1)),.int .i64 (bsum (certB u J) (d+1))]) (by rw [←Sa (f:=runB' u J) (n:=d) hc4] <;> rfl)
    replace S:=(S.sel [0,1,2,3,4,5,6] G G)
    have hle3:=ownM.le S (i:=0) rfl
    obtain ⟨B2,S,hA2,_⟩:=St.freeze S (i:=2) rfl
    rw [show (lifeS u J d).uses.length+1=(usesN u J d).length by unfold usesN;rw [if_pos hc4];simp] at H
    exact k21 (A3,c3,B2,_) a _ (⟨by rw [uJ hc4,List.length_append];exact hA2,by rw [uJ hc4,List.length_append];exact hle3.1⟩) (S.sel [1,2,3,4,5] G G) (H.keep [8,3,4,6,7,9,10,11,13,21,22] rfl)
   rw [Jp u J d x hx9] at hc4
   refine wp_skip ?_
   replace S:=boxM.same S (i:=0) rfl (cs':=[.int .i64 (bsum (runB' u J) (d+1)),.int .i64 (bsum (certB u J) (d+1))]) (by rw [←Sb (f:=runB' u J) (n:=d) hc4] <;> rfl)
   rw [←uK hc4] at H
   exact k21 (A9,c9,B9,wz) a _ (⟨by rw [uK hc4];exact hrd,by rw [uK hc4];exact hcap⟩) (S.sel [0,1,2,3,4] G G) (H.keep [8,3,4,6,7,9,10,11,13,21,22] rfl)
  clear SR H S a
  intro xm a wm hp S H
  obtain ⟨A8,c8,B8,wy⟩:=xm
  rw [show Value.bool (decide (J d/2^(2:Int).toNat%2=1))=Value.bool (renw (J d)) from rfl] at H
  replace H:=H.keep [3,4,6,7,8,9,10,11,13,21,22] rfl
  refine sS H fun K25 k25=>sr 1 rfl<|sE ?_;clear H a;intro a H
  refine k25 _ ?_;clear k25 K25
  refine aT H rfl (fun hc5=>?_) (fun hc5=>?_)
  ·skip
   skip
   refine sO H<|sr 3 rfl<|sE ?_;clear H a;intro a H
   refine k9 _ _ ?_
   refine sO H<|sd (aG G G (by unfold i64ok;omega))<|sr 1 rfl<|sE ?_;clear H a;intro a H
   have hp8:=hp
   exact k6 (g1-1) (d+1,⟨[],(d:Int),x⟩,none,0,B8,wy) a _ (by omega) (⟨⟨by omega,by omega⟩,⟨RdF.nil,Nat.le_refl 0⟩,Sc hc5 hx9⟩) (S.sel [0,1,2,3,4] G G) (H.keep [8,9,10,22,3,4,6,7,21] rfl)
  skip
  refine wp_skip ?_
  refine k9 _ _ ?_
  refine sO H<|sd (aG G G (by unfold i64ok;omega))<|sr 1 rfl<|sE ?_;clear H a;intro a H
  have hp8:=hp
  exact k6 (g1-1) (d+1,⟨usesN u J d,(lifeS u J d).born,x⟩,A8,c8,B8,wy) a _ (by omega) (⟨⟨by omega,by omega⟩,hp8,Sd hc5 hx9⟩) (S.sel [0,1,2,3,4] G G) (H.keep [8,9,10,22,3,4,6,7,21] rfl)
 refine wp_exit ?_
 refine k4 _ _ ?_
 replace H:=H.keep [6,7] rfl
 refine aA fun K29 k29=>?_
 refine ls 1 H<|sd ((aD pH kW rfl S (i:=0) G G))<|sE ?_;clear H a;intro a H
 refine aH H S (i:=2) G G G G kW G G ?_
 clear H a S;intro _ a S H
 refine k29 _ _ ?_;clear k29 K29
 refine wp_ret ?_
 refine retA (fn:=Tryz.f68) rfl H rfl pH (by exact kW) (cT S (i:=2) rfl) ?_
 obtain rfl:d=dy:=by omega
 exact ⟨rfl,(S.sel [] G G)⟩
end
section
theorem keyOK:KeyOk Tryz.prog 125 (encN (n:=21)):=
  Xi (Rz Tryz.underlying125 vM (.cons (by decide) rfl (PartK.int2 Tryz.underlying3 aB) (.cons (by decide) rfl (PartK.of (Ry Tryz.underlying123 Od (PartK.int Tryz.underlying3 aB) aW)) (.nil 21))) (by kernel_rfl)) (by omega) (by rw [Tryz.underlying125])
theorem YIn.nowR {w w0:World} {F0:Nat→Prop} {R:List Mem} {y:Yr} (h:YIn w0 F0 y) (S:St w0 F0 R w):YIn w (fps R) y:=
  ⟨h.ps.nowR S,h.xs.nowR S,h.pe.nowR S,h.prs.nowR S,h.us.nowR S,h.sps.nowR S,fun k hk=>(h.rt k hk).nowR S,fun k hk=>(h.ul k hk).nowR S⟩
theorem YOk.days {y:Yr} (h:YOk y):1≤y.days∧y.days≤20:=h.yr.1
theorem YOk.unit {y:Yr} (h:YOk y) {i:Nat} (hi:i<y.us.length):UntOk y.ps y.us (y.us.getD i Unt.zero) i:=kQ.1 (h.un i hi)
theorem YOk.old {y:Yr} (h:YOk y) {i:Nat} (hi:i<y.us.length):0≤(y.us.getD i Unt.zero).old:=by
  have h1:=h.unit hi
  have h2:=xK h1.wear
  have h3:=h1.i
  unfold untI at h3
  omega
theorem Bg (y:Yr) (w:World) :
    Calls Tryz.prog 32 [.agg [.int .i64 y.days,.int .i64 y.pl,.slice y.PA y.ps.length y.pc,.slice y.XA y.xs.length y.xc,.slice y.BA y.pe.length y.bc,.int .i64 y.limit,.bool y.help,.slice y.QA y.prs.length y.qc,.slice y.VA y.us.length y.vc,.int .i64 y.crew,.slice y.SA y.sps.length y.sc].toArray].toArray w (Ret (fun v w'=>∃ cb bl bs bk,v = .pointer (some ⟨cb,0,none⟩)∧St w noF [boxM cb 94 [.int .i64 y.days,.int .i64 y.pl,.slice y.PA y.ps.length y.pc,.slice y.XA y.xs.length y.xc,.slice y.BA y.pe.length y.bc,.int .i64 y.limit,.bool y.help,.slice y.QA y.prs.length y.qc,.slice y.VA y.us.length y.vc,.int .i64 y.crew,.slice y.SA y.sps.length y.sc,.map (some bl),.map (some bs),.map (some bk)],mapK (encN (n:=21)) bl (livP y),mapK (fun n:Int=>Value.int .i64 n) bs (safP y),mapK enc2 bk (kepP y)] w')):=by
 refine enter Tryz.func32 rfl Tryz.ntmps32 rfl (fun a H=>?_)
 have S:=St.start w
 refine aA fun K1 k1=>?_
 refine aP H rfl S G G ?_;clear H a S;intro b1 _ a hb1 hbw1 S H
 refine ls 1 H<|sr 1 rfl<|sE ?_;clear H a;intro a H
 refine k1 _ _ ?_;clear k1 K1
 refine aA fun K2 k2=>?_
 refine ls 1 H<|sd ((aD bJ bG rfl S (i:=0) G G))<|sE ?_;clear H a;intro a H
 refine jH (encN (n:=21)) (livP y) Mg H rfl S ?_;clear H a S;intro bl _ a hbl S H
 refine jH (fun n:Int=>Value.int .i64 n) (safP y) Mh H rfl S ?_;clear H a S;intro bs _ a hbs S H
 refine jH enc2 (kepP y) Mi H rfl S ?_;clear H a S;intro bk _ a hbk S H
 refine ls 1 H<|sd (aN aEa G G)<|sE ?_;clear H a;intro a H
 refine aP H rfl S G G ?_;clear H a S;intro b8 _ a hb8 hbw8 S H
 refine ls 1 H<|sr 1 rfl<|sE ?_;clear H a;intro a H
 refine k2 _ _ ?_;clear k2 K2
 refine wp_ret ?_
 refine ret1 (fn:=Tryz.f32) rfl H rfl ?_
 exact ⟨b8,bl,bs,bk,rfl,(S.sel [0,3,2,1] G G)⟩
theorem Ta (y:Yr) (cb bl bs bk:Nat) (i:Nat) (l:List Tsk) (LA:Option Addr) (lc:Nat) (w:World) (F:Nat→Prop) (S:St w F [boxM cb 94 [.int .i64 y.days,.int .i64 y.pl,.slice y.PA y.ps.length y.pc,.slice y.XA y.xs.length y.xc,.slice y.BA y.pe.length y.bc,.int .i64 y.limit,.bool y.help,.slice y.QA y.prs.length y.qc,.slice y.VA y.us.length y.vc,.int .i64 y.crew,.slice y.SA y.sps.length y.sc,.map (some bl),.map (some bs),.map (some bk)],mapK (encN (n:=21)) bl (livP y),mapK (fun n:Int=>Value.int .i64 n) bs (safP y),mapK enc2 bk (kepP y)] w) (hy:YIn w F y) (hyb:YBd y) (hok:YOk y) (hi:i<y.us.length) (hl:InS w F 3 LA l.length (cB l)) (hln:l.length≤9223372036854775807) (htk:∀ k,k<l.length→tskI y (l.getD k Tsk.zero)) :
    Calls Tryz.prog 49 [.pointer (some ⟨cb,0,none⟩),.int .i64 (i:Int),.slice LA l.length lc].toArray w (Ret (fun v w'=>v=lifeV (y.us.getD i Unt.zero) (jobF l i) y.days.toNat∧St w F [boxM cb 94 [.int .i64 y.days,.int .i64 y.pl,.slice y.PA y.ps.length y.pc,.slice y.XA y.xs.length y.xc,.slice y.BA y.pe.length y.bc,.int .i64 y.limit,.bool y.help,.slice y.QA y.prs.length y.qc,.slice y.VA y.us.length y.vc,.int .i64 y.crew,.slice y.SA y.sps.length y.sc,.map (some bl),.map (some bs),.map (some bk)],mapK (encN (n:=21)) bl (livP y),mapK (fun n:Int=>Value.int .i64 n) bs (safP y),mapK enc2 bk (kepP y)] w')):=by
 have hmx:maxLen=9223372036854775807:=rfl
 have hdy:=hok.days;have husn:=hyb.usn
 have hD:((y.days.toNat:Nat):Int)=y.days:=by omega
 refine enter Tryz.func49 rfl Tryz.ntmps49 rfl (fun a H=>?_)
 skip
 refine aA fun K1 k1=>?_
 refine aM H rfl S yF ?_;clear H a S;intro b6 _ a hb6 hbw6 S H
 refine k1 _ _ ?_;clear k1 K1
 refine aA fun K2 k2=>?_
 refine ls 2 H<|sr 1 rfl<|sd (aN aAx G G)<|sE ?_;clear H a;intro a H
 refine aM H rfl S Ow ?_;clear H a S;intro b7 _ a hb7 hbw7 S H
 refine aH H S (i:=0) G G G G vM G G ?_
 clear H a S;intro _ a S H
 refine k2 _ _ ?_;clear k2 K2
 refine wp_seq_k fun K3 k3=>?_
 replace S:=boxM.same S (i:=0) rfl (cs':=[.int .i64 (i:Int),.int .i64 0,.int .i64 0,.int .i64 0,.int .i64 0,.int .i64 0,.int .i64 0,.int .i64 0,.int .i64 0,.int .i64 0,.int .i64 0,.int .i64 0,.int .i64 0,.int .i64 0,.int .i64 0,.int .i64 0,.int .i64 0,.int .i64 0,.int .i64 0,.int .i64 0,.int .i64 0]) rfl
 replace S:=Dz S (i:=0) rfl (by show 21≤maxLen;decide)
 replace S:=S.recell (i:=0) rfl (cell':=kcl i (jobP l 0 i)) (fun k j hk hj=>Sh hk hj)
 refine sS H fun K4 k4=>sr 1 rfl<|sL cQ rfl<|sr 1 rfl<|sE ?_;clear H a;intro a H
 refine k4 _ ?_;clear k4 K4
 refine wp_block ?_
 refine loop_st (X:=Nat) (R0:=_) [0,1,6,7,14,15] H rfl (fun k=>[(16,.int .i64 (k:Int))]) (fun k=>[ownM 125 1 (some ⟨b7,0,none⟩) 21 21 (kcl i (jobP l k i))]) (fun g k=>k≤l.length∧g+k=l.length) (l.length) 0 ?_ (S.sel [0,1,2,3,4,5] G G) (H.keep [16,0,1,6,7,14,15] rfl) ?_
 · exact ⟨by omega,by omega⟩
 clear H S a
 intro g1 x1 a w1 hp S H K5 k5
 obtain ⟨k,rfl⟩:∃ y,y=x1:=⟨_,rfl⟩
 refine sS H fun K6 k6=>sr 1 rfl<|sE ?_;clear H a;intro a H
 refine k6 _ ?_;clear k6 K6
 refine wp_seq_k fun K7 k7=>?_
 refine condL H rfl (fun hc1=>?_) (fun hc1=>?_)
 ·skip
  refine wp_skip ?_
  refine k7 _ _ ?_
  refine wp_seq_k fun K8 k8=>?_
  refine wp_block ?_
  refine aA fun K9 k9=>?_
  refine ls 2 H<|si cQ cV G G (hl.adr (by omega)) (by omega)<|sd ((aU pG cV rfl S hl (by omega) (by omega)))<|sE ?_;clear H a;intro a H
  refine aM H rfl S oU ?_;clear H a S;intro b9 _ a hb9 hbw9 S H
  refine aH H S (i:=0) G G G G cV G G ?_
  clear H a S;intro _ a S H
  refine k9 _ _ ?_;clear k9 K9
  have htt:=htk k (by omega);unfold tskI at htt
  refine sS H fun K10 k10=>sf eI rfl<|sl S 0 aB G G G<|sr 2 rfl<|sE ?_;clear H a;intro a H
  refine k10 _ ?_;clear k10 K10
  refine condE H rfl (fun hc2=>?_) (fun hc2=>?_)
  ·skip
   replace H:=H.keep [0,1,6,7,9,14,15,16] rfl
   refine iH 11 (by kernel_rfl) (by kernel_rfl) ?_
   replace S:=S.drew
   refine sF H<|sf dT rfl<|sl S 0 aB G G G<|sf vP rfl<|sd ((dM Tryz.underlying123 aW G G (by omega) (by omega)).to (v' := .pointer (some (pt (some ⟨b7,0,none⟩) 1 ((l.getD k Tsk.zero).day.toNat+1) 0))) (congrArg (fun o=>Value.pointer (some ⟨b7,o,none⟩)) (show 0+1+(l.getD k Tsk.zero).day.toNat*1=0+((l.getD k Tsk.zero).day.toNat+1)*1+0 by omega)))<|slm aB rfl (ownM.rd S (i:=1) (k:=(l.getD k Tsk.zero).day.toNat+1) (j:=0) rfl (by omega) (by omega))<|sf gC rfl<|sl S 0 aB G G G<|sd (nA G G (by omega) (by omega) (Xr htt.2.2))<|sd (Se G G (Md _ _ _) (by omega))<|sf vP rfl<|sd ((dM Tryz.underlying123 aW G G (by omega) (by omega)).to (v' := .pointer (some (pt (some ⟨b7,0,none⟩) 1 ((l.getD k Tsk.zero).day.toNat+1) 0))) (congrArg (fun o=>Value.pointer (some ⟨b7,o,none⟩)) (show 0+1+(l.getD k Tsk.zero).day.toNat*1=0+((l.getD k Tsk.zero).day.toNat+1)*1+0 by omega)))<|sE ?_;clear H a;intro a H
   refine aZ H S (i:=1) G G G (by omega) (by omega) aW rfl ?_
   clear H a S;intro _ a S H
   refine k8 _ _ ?_
   replace H:=H.keep [0,1,6,7,14,15,16] rfl
   refine sO H<|sd (aG G G (by unfold i64ok;omega))<|sr 1 rfl<|sE ?_;clear H a;intro a H
   replace S:=S.recell (i:=1) rfl (cell':=kcl i (jobP l (k+1) i)) (fun k9 j9 hk9 hj9=>Xu (d:=(l.getD k Tsk.zero).day.toNat) (by omega) htt.2.2 (by omega) (by omega) k9 j9 hj9)
   exact k5 (g1-1) (k+1) a _ (by omega) (⟨by omega,by omega⟩) (S.sel [1,2,3,4,5,6] G G) (H.keep [16,0,1,6,7,14,15] rfl)
  refine wp_skip ?_
  refine k8 _ _ ?_
  refine sO H<|sd (aG G G (by unfold i64ok;omega))<|sr 1 rfl<|sE ?_;clear H a;intro a H
  rw [←Xs (l:=l) (n:=k) (i:=i) (by omega) htt.2.2 (by omega)] at S
  exact k5 (g1-1) (k+1) a _ (by omega) (⟨by omega,by omega⟩) (S.sel [1,2,3,4,5,6] G G) (H.keep [16,0,1,6,7,14,15] rfl)
 refine wp_exit ?_
 refine k3 _ _ ?_
 obtain rfl:k=l.length:=by omega
 rw [Sg] at S
 replace S:=Xq S (i:=0) rfl
 obtain ⟨h0,hh0,S⟩:=mapK.fix S (i:=3) rfl
 rcases hk0:h0 (keyOf i (jobF l i)) with _|v0
 ·skip
  skip
  replace H:=H.keep [0,1,6,7] rfl
  replace S:=S.drew
  refine cJ [(0,true),(1,true),(2,true),(3,true),(4,true),(5,true),(6,true),(7,true),(8,true),(9,false),(10,false),(11,true)] (by kernel_rfl) (by kernel_rfl) (S.sel [0,1,2,3,4,5] G G) fun K14 k14=>?_
  refine qF H<|qr 2 rfl<|qd rfl (fun _ S=>(aF Ab rfl))<|qd rfl (fun _ S=>aE Fp rfl (boxM.rd S (i:=2) G G))<|qd rfl (fun _ S=>(aD zZ vM rfl S (i:=0) G G))<|qd rfl (fun _ S=>fN S (i:=3) rfl Pi keyOK aAc rfl (k:=keyOf i (jobF l i)) rfl (fun h e=>by subst e;rw [hk0];exact ⟨rfl,rfl⟩))<|qr 3 rfl<|qK ?_;clear H a;intro a H
  refine bA rfl ?_
  refine aM H rfl S yF ?_;clear H a S;intro b10 _ a hb10 hbw10 S H
  refine wpList_nil (And.intro (S.sel [1,2,3,4,5,6] G G) ?_)
  refine bA rfl ?_
  refine aH H S (i:=0) G G G G kW G G ?_
  clear H a S;intro _ a S H
  refine wpList_nil (And.intro (S.sel [1,2,3,4,5,6] G G) ?_)
  refine qF H<|qr 1 rfl<|qK ?_;clear H a;intro a H
  refine bU ?_
  refine k14 _ _ ?_
  clear k14 K14
  refine wp_seq_k fun K15 k15=>?_
  replace H:=H.keep [0,1,6,7,10,11] rfl
  refine sS H fun K16 k16=>sr 2 rfl<|sE ?_;clear H a;intro a H
  refine k16 _ ?_;clear k16 K16
  refine aT H rfl (fun hc3=>?_) (fun hc3=>?_)
  ·skip
   skip
   replace H:=H.keep [0,1,6,7,10] rfl
   replace S:=S.drew
   refine cJ [(0,true),(1,true),(2,true),(3,true),(4,true),(5,true),(6,true),(7,true),(8,true),(9,true),(10,true),(11,true),(12,true),(13,true),(14,true),(15,false),(16,false)] (by kernel_rfl) (by kernel_rfl) (S.sel [1,2,3,4,5,6] G G) fun K17 k17=>?_
   refine qF H<|qr 2 rfl<|qd rfl (fun _ S=>(aF fC rfl))<|qd rfl (fun _ S=>(aF cS rfl))<|qd rfl (fun _ S=>aE dZ rfl (boxM.rd S (i:=2) G G))<|qr 1 rfl<|qd rfl (fun _ S=>aX cX dC G G (hy.us.adr (by omega)) (by omega))<|qd rfl (fun _ S=>(aU lH dC rfl S hy.us (by omega) (by omega)))<|qd rfl (fun _ S=>(aF vP rfl))<|qd rfl (fun _ S=>(aD Vp Od rfl S (i:=0) G G))<|qr 2 rfl<|qd rfl (fun _ S=>(aF fC rfl))<|qd rfl (fun _ S=>(aF dP rfl))<|qd rfl (fun _ S=>aE aB rfl (boxM.rd S (i:=2) G G))<|qK ?_;clear H a;intro a H
   refine bA rfl ?_
   rw [←hD] at H
   refine aC H G G Tryz.func68 G G (Ye (y.us.getD i Unt.zero) (jobF l i) y.days.toNat _ ((hy.rt i hi).now S) (hyb.rtn hi) ((hy.ul i hi).now S) (hyb.uln hi) (hyb.cap i hi) (hok.unit hi).i (hok.old hi) (fun d=>Xp _ _ _) (by omega)) ?_;clear H a
   rintro _ _ a ⟨rfl,S2⟩ H
   replace S:=S.call S2;clear S2
   refine wpList_nil (And.intro (S.sel [1,2,3,4,5,6] G G) ?_)
   refine bA rfl ?_
   refine aH H S (i:=0) G G G G kW G G ?_
   clear H a S;intro _ a S H
   refine wpList_nil (And.intro (S.sel [1,2,3,4,5,6] G G) ?_)
   refine bU ?_
   refine k17 _ _ ?_
   clear k17 K17
   replace H:=H.keep [0,6,7,10] rfl
   refine iH 6 (by kernel_rfl) (by kernel_rfl) ?_
   replace S:=S.drew
   refine sF H<|sr 2 rfl<|sf Ab rfl<|sl S 3 Fp G G G<|sd ((aD zZ vM rfl S (i:=1) G G))<|sd ((aD pH kW rfl S (i:=0) G G))<|sE ?_;clear H a;intro a H
   refine fW (k:=keyOf i (jobF l i)) (livP y) H S (i:=4) rfl Pi keyOK G G G (fun h e=>by subst e;exact Si (by omega) rfl h hh0) ?_;clear H a S;intro _ a S H
   refine k15 _ _ ?_
   refine aA fun K19 k19=>?_
   refine ls 1 H<|sd ((aD pH kW rfl S (i:=0) G G))<|sE ?_;clear H a;intro a H
   refine aH H S (i:=2) G G G G kW G G ?_
   clear H a S;intro _ a S H
   refine k19 _ _ ?_;clear k19 K19
   refine wp_ret ?_
   refine retA (fn:=Tryz.f49) rfl H rfl pH (by exact kW) (cT S (i:=2) rfl) ?_
   exact ⟨rfl,(S.sel [3,4,5,6] G G)⟩
  skip
  cases hc3
 obtain rfl:=hh0 _ _ _ hi hk0
 replace H:=H.keep [0,1,6,7] rfl
 replace S:=S.drew
 refine cJ [(0,true),(1,true),(2,true),(3,true),(4,true),(5,true),(6,true),(7,true),(8,true),(9,false),(10,false),(11,true)] (by kernel_rfl) (by kernel_rfl) (S.sel [0,1,2,3,4,5] G G) fun K20 k20=>?_
 refine qF H<|qr 2 rfl<|qd rfl (fun _ S=>(aF Ab rfl))<|qd rfl (fun _ S=>aE Fp rfl (boxM.rd S (i:=2) G G))<|qd rfl (fun _ S=>(aD zZ vM rfl S (i:=0) G G))<|qd rfl (fun _ S=>fN S (i:=3) rfl Pi keyOK aAc rfl (k:=keyOf i (jobF l i)) rfl (fun h e=>by subst e;rw [hk0];exact ⟨rfl,rfl⟩))<|qr 3 rfl<|qK ?_;clear H a;intro a H
 refine bA rfl ?_
 refine aM H rfl S yF ?_;clear H a S;intro b10 _ a hb10 hbw10 S H
 refine wpList_nil (And.intro (S.sel [1,2,3,4,5,6] G G) ?_)
 refine bA rfl ?_
 refine aH H S (i:=0) G G G G kW G G ?_
 clear H a S;intro _ a S H
 refine wpList_nil (And.intro (S.sel [1,2,3,4,5,6] G G) ?_)
 refine qF H<|qr 1 rfl<|qK ?_;clear H a;intro a H
 refine bU ?_
 refine k20 _ _ ?_
 clear k20 K20
 refine wp_seq_k fun K21 k21=>?_
 replace H:=H.keep [0,1,6,7,10,11] rfl
 refine sS H fun K22 k22=>sr 2 rfl<|sE ?_;clear H a;intro a H
 refine k22 _ ?_;clear k22 K22
 refine aT H rfl (fun hc4=>?_) (fun hc4=>?_)
 ·skip
  skip
  cases hc4
 skip
 refine wp_skip ?_
 refine k21 _ _ ?_
 refine aA fun K23 k23=>?_
 refine ls 1 H<|sd ((aD pH kW rfl S (i:=0) G G))<|sE ?_;clear H a;intro a H
 refine aH H S (i:=2) G G G G kW G G ?_
 clear H a S;intro _ a S H
 refine k23 _ _ ?_;clear k23 K23
 refine wp_ret ?_
 refine retA (fn:=Tryz.f49) rfl H rfl pH (by exact kW) (cT S (i:=2) rfl) ?_
 replace S:=mapK.weak S (i:=4) rfl (Φ':=livP y) (fun g e=>by subst e;exact hh0)
 exact ⟨rfl,(S.sel [3,4,5,6] G G)⟩
end
section
theorem Bh {l:List Int} (h:∀ k,k<l.length→0≤l.getD k 0∧l.getD k 0≤1000):∀ k,k≤l.length→0≤sumI l k∧sumI l k≤1000*k:=by
  intro k
  induction k with
  | zero=>intro _;simp [sumI,sm]
  | succ k ih=>
    intro hk
    have h1:=ih (by omega)
    have h2:=h k (by omega)
    unfold sumI at *
    rw [sm]
    push_cast
    omega
theorem Mm (P T:Nat) (ps:List Psg) (PA:Option Addr) (pc:Nat) (xs:List Int) (XA:Option Addr) (xc:Nat) (out:Int) (pe:List Int) (BA:Option Addr) (bc:Nat) (w:World) (hps:InS w noF 7 PA ps.length (pcell ps)) (hpn:ps.length≤9223372036854775807) (hxs:InS w noF 1 XA xs.length (icl xs)) (hxn:xs.length≤9223372036854775807) (hpe:InS w noF 1 BA pe.length (icl pe)) (hpl:pe.length=P) (hV:StV P ps xs) (hou:0≤out∧out≤4095) (hpp:∀ k,k<pe.length→0≤pe.getD k 0∧pe.getD k 0≤1000) (hT:T≤60) :
    Calls Tryz.prog 89 [.agg [.int .i64 (P:Int),.slice PA ps.length pc,.slice XA xs.length xc].toArray,.int .i64 out,.slice BA pe.length bc,.int .i64 (T:Int)].toArray w (Ret fun u w'=>∃ b31 EA A' c',u = .pointer (some ⟨b31,0,none⟩)∧St w noF [boxM b31 168 [.int .i64 (P:Int),.slice PA ps.length pc,.slice XA xs.length xc,.int .i64 (T:Int),.slice EA (layN P T pe xs (hds out xs ps)).k (layN P T pe xs (hds out xs ps)).k,.int .i64 (((P*(T+1)):Nat):Int),.int .i64 (((P*(T+1))+1:Nat):Int)],ownM 187 1 EA (layN P T pe xs (hds out xs ps)).k (layN P T pe xs (hds out xs ps)).k (hdc A' (layN P T pe xs (hds out xs ps)).n c'),ragM 189 7 (fun q=>q<(layN P T pe xs (hds out xs ps)).k) A' (layN P T pe xs (hds out xs ps)).n c' (edgeC (layN P T pe xs (hds out xs ps)) (layT P T pe xs (hds out xs ps)).room (layT P T pe xs (hds out xs ps)).mv)] w'):=by
  have h:=Qm P T ps PA pc xs XA xc out pe BA bc w hps hpn hxs hxn (fun k hk h3=>by have:=bS.1 (hV.pas k hk);omega) hou.1 hpe hpl (by have:=hV.size;omega) hT hV.size.2.2 (sC hV)
  refine sB h fun u w' ⟨b31,EA,A',c',h1,S⟩=>⟨b31,EA,A',c',h1,?_⟩
  rw [Fy (joins (jAll P T pe xs (hds out xs ps))) (P*(T+1)+2)] at S
  exact S
theorem Mn (pl:Int) (ps:List Psg) (PA:Option Addr) (pc:Nat) (xs:List Int) (XA:Option Addr) (xc:Nat) (out:Int) (pe:List Int) (BA:Option Addr) (bc:Nat) (T0:Int) (w:World) (hps:InS w noF 7 PA ps.length (pcell ps)) (hpn:ps.length≤9223372036854775807) (hxs:InS w noF 1 XA xs.length (icl xs)) (hxn:xs.length≤9223372036854775807) (hpe:InS w noF 1 BA pe.length (icl pe)) (hpen:pe.length≤9223372036854775807) :
    Calls Tryz.prog 73 [.agg [.int .i64 pl,.slice PA ps.length pc,.slice XA xs.length xc].toArray,.int .i64 out,.slice BA pe.length bc,.int .i64 T0].toArray w (Ret (fun u w'=>(dS pl ps xs out pe T0≠0∧u = .tuple #[.int .i64 0,.int .i64 (dS pl ps xs out pe T0)]∧St w noF [] w')∨(dS pl ps xs out pe T0=0∧u = .tuple #[.int .i64 (mfv pl.toNat T0.toNat pe xs (hds out xs ps)),.int .i64 0]∧St w noF [] w'))):=by
 refine enter Tryz.func73 rfl Tryz.ntmps73 rfl (fun a H=>?_)
 have S:=St.start w
 refine aA fun K1 k1=>?_
 refine aP H rfl S G G ?_;clear H a S;intro b4 _ a hb4 hbw4 S H
 refine ls 2 H<|sr 2 rfl<|sE ?_;clear H a;intro a H
 refine k1 _ _ ?_;clear k1 K1
 refine wp_seq_k fun K2 k2=>?_
 refine aA fun K3 k3=>?_
 refine ls 4 H<|sd ((aD cA cP rfl S (i:=0) G G))<|sr 3 rfl<|sE ?_;clear H a;intro a H
 refine aC H G G Tryz.func88 G G (Ap pl ps PA pc xs XA xc out pe BA bc T0 _ (hps.now S) hpn (hxs.now S) hxn (hpe.now S) hpen) ?_;clear H a
 rintro _ _ a ⟨rfl,S2⟩ H
 replace S:=S.call S2;clear S2
 refine ls 1 H<|sr 1 rfl<|sE ?_;clear H a;intro a H
 refine k3 _ _ ?_;clear k3 K3
 replace H:=H.keep [1,2,3,4,10] rfl
 refine sS H fun K4 k4=>sr 2 rfl<|sE ?_;clear H a;intro a H
 refine k4 _ ?_;clear k4 K4
 refine condN H rfl (fun hc1=>?_) (fun hc1=>?_)
 ·skip
  refine sS H fun K5 k5=>sr 3 rfl<|sE ?_;clear H a;intro a H
  refine k5 _ ?_;clear k5 K5
  refine wp_ret ?_
  refine ret2 (fn:=Tryz.f73) rfl H G G ?_
  exact .inl ⟨hc1,rfl,(S.sel [] G G)⟩
 obtain ⟨hst,hou,hcr,hti⟩:=oJ hc1
 have hV0:=gK hst
 obtain ⟨P,rfl⟩:∃ P:Nat,pl=P:=⟨pl.toNat,by have:=hV0.size;omega⟩
 have hV:=hV0
 obtain ⟨hpp,hpl'⟩:=qU hcr
 have hpl:pe.length=P:=by omega
 obtain ⟨T,rfl⟩:∃ T:Nat,T0=T:=⟨T0.toNat,by omega⟩
 have hT:T≤60:=by omega
 have hO9:=pK (T:=T) (out:=out) hV hpp
 have hC:P*(T+1)≤10*61:=Nat.mul_le_mul (by have:=hV.size;omega) (by omega)
 refine wp_skip ?_
 refine k2 _ _ ?_
 replace H:=H.keep [1,2,3,4] rfl
 refine aA fun K6 k6=>?_
 refine ls 4 H<|sd ((aD cA cP rfl S (i:=0) G G))<|sr 3 rfl<|sE ?_;clear H a;intro a H
 refine aC H G G Tryz.func89 G G (Mm P T ps PA pc xs XA xc out pe BA bc _ (hps.now S) hpn (hxs.now S) hxn (hpe.now S) hpl hV hou hpp hT) ?_;clear H a
 rintro _ _ a ⟨b31,EA,A',c',rfl,S2⟩ H
 replace S:=S.call S2;clear S2
 have S1:=(S.sel [0,1,2] G G)
 refine aC H G G Tryz.func90 G G (Qe (layN P T pe xs (hds out xs ps)) (layT P T pe xs (hds out xs ps)).room (layT P T pe xs (hds out xs ps)).mv b31 (P:Int) (T:Int) _ _ EA A' c' (P*(T+1)) ((P*(T+1))+1) _ _ S1.startR hO9.wf hO9.ok (by show _<P*(T+1)+2;omega) (by show _<P*(T+1)+2;omega) (by omega) (by show P*(T+1)+2≤_;omega) (by have:=hO9.beg;have:=hV.size;omega)) ?_;clear H a
 rintro _ _ a ⟨v,r,rfl,hF,h0v,⟨L,hLv,hLx⟩,S2⟩ H
 replace S:=(S.sel [0,1,2,3] G G).callR (M:=[_,_,_]) S2;clear S1 S2
 refine ls 2 H<|sr 2 rfl<|sE ?_;clear H a;intro a H
 refine k6 _ _ ?_;clear k6 K6
 refine wp_ret ?_
 refine ret2 (fn:=Tryz.f73) rfl H G G ?_
 have hE:EndP P T pe xs (hds out xs ps) v r L:=⟨hF,h0v,hLv,hLx⟩
 rw [Int.toNat_natCast,Int.toNat_natCast,Al hO9 hE]
 exact .inr ⟨hc1,rfl,(S.sel [] G G)⟩
end
section
theorem Ef {y:Yr} {out:Int} {w w':World} {u:Value} (hl:dS y.pl y.ps y.xs out y.pe y.limit=0) (h:(dS y.pl y.ps y.xs out y.pe y.limit≠0∧u = .tuple #[.int .i64 0,.int .i64 (dS y.pl y.ps y.xs out y.pe y.limit)]∧St w noF [] w')∨(dS y.pl y.ps y.xs out y.pe y.limit=0∧u = .tuple #[.int .i64 (mfv y.pl.toNat y.limit.toNat y.pe y.xs (hds out y.xs y.ps)),.int .i64 0]∧St w noF [] w')):∃ n:Int,u = .tuple #[.int .i64 n,.int .i64 0]∧leavB y out=decide (n=sumI y.pe y.pe.length)∧St w noF [] w':=by
  rcases h with ⟨h0,_⟩|⟨_,rfl,S⟩
  · exact absurd hl h0
  · exact ⟨_,rfl,rfl,S⟩
theorem uO {y:Yr} {out fr to:Int} {help:Bool} {w w':World} {u:Value} (ha:askE y.pl y.ps y.xs out [fr,to]=0) (h:(askE y.pl y.ps y.xs out [fr,to]≠0∧u = .tuple #[.int .i64 0,.slice none 0 0,.int .i64 (askE y.pl y.ps y.xs out [fr,to])]∧St w noF [] w')∨(askE y.pl y.ps y.xs out [fr,to]=0∧FarOk y.pl.toNat y.ps out help to.toNat (dst y.pl.toNat y.ps out help to.toNat)∧((dst y.pl.toNat y.ps out help to.toNat fr.toNat<0∧u = .tuple #[.int .i64 0,.slice none 0 0,.int .i64 3]∧St w noF [] w')∨(0≤dst y.pl.toNat y.ps out help to.toNat fr.toNat∧∃ A c,u = .tuple #[.int .i64 (dst y.pl.toNat y.ps out help to.toNat fr.toNat),.slice A (wayL y.pl.toNat y.ps out help fr.toNat to.toNat).length c,.int .i64 0]∧St w noF [ownM 3 1 A (wayL y.pl.toNat y.ps out help fr.toNat to.toNat).length c (wcl (wayL y.pl.toNat y.ps out help fr.toNat to.toNat))] w')))):∃ (t e:Int) (A:Option Addr) (n c:Nat),u = .tuple #[.int .i64 t,.slice A n c,.int .i64 e]∧(decide (e=0)=decide (0≤dst y.pl.toNat y.ps out help to.toNat fr.toNat))∧St w noF [] w':=by
  rcases h with ⟨h0,_⟩|⟨_,_,⟨h1,rfl,S⟩|⟨h1,A,c,rfl,S⟩⟩
  · exact absurd ha h0
  · exact ⟨0,3,none,0,0,rfl,by rw [decide_eq_false (show ¬ 0≤dst y.pl.toNat y.ps out help to.toNat fr.toNat by omega)];rfl,S⟩
  · exact ⟨_,0,A,_,c,rfl,by rw [decide_eq_true h1];rfl,S.sel [] rfl rfl⟩
theorem lt40 {m:Int} (h:m≤4095):m<2^40:=by
  have e9:(2:Int)^40=1099511627776:=by decide
  omega
theorem Tb {y:Yr} {l:List Tsk} {k q:Nat}:setsQ y l k q q 0 = .int .i64 (outY y l q k):=by unfold setsQ;rw [if_neg (Nat.lt_irrefl q)]
theorem sets0 {y:Yr} {l:List Tsk} {k j:Nat} (hj:j<1):([Value.int .i64 0]:List Value).getD j undef=setsV y l 0 k j:=by
  have:j=0:=by omega
  subst this
  rfl
theorem Jq {m:Int} (h:0≤m∧m≤11):i64ok (1*2^m.toNat):=by
  have:=Gx (d:=m.toNat) (by omega)
  rw [Int.toNat_natCast] at this
  exact this
section
variable {y:Yr} {d out:Int} {k:Nat} {b:Bool} {e:Int}
theorem Mo (hb:b=allN (prmB y d out) k) (h:d<(y.prs.getD k Prm.zero).first∨(y.prs.getD k Prm.zero).last<d):b=allN (prmB y d out) (k+1):=by
  have:prmB y d out k=true:=by
    unfold prmB
    rcases h with h|h
    · rw [decide_eq_false (p:=(y.prs.getD k Prm.zero).first≤d) (by omega)];rfl
    · rw [decide_eq_false (p:=d≤(y.prs.getD k Prm.zero).last) (by omega),Bool.and_false];rfl
  rw [allN,this,Bool.and_true,hb]
theorem Eh (hb:b=allN (prmB y d out) k) (h:(y.prs.getD k Prm.zero).first≤d∧d≤(y.prs.getD k Prm.zero).last) (hw:decide (e=0)=decide (0≤dst y.pl.toNat y.ps out (y.help&&(y.prs.getD k Prm.zero).helped) (y.prs.getD k Prm.zero).to.toNat (y.prs.getD k Prm.zero).fr.toNat)) (he:¬ e=0):false=allN (prmB y d out) (k+1):=by
  have:prmB y d out k=false:=by
    unfold prmB
    rw [←hw,decide_eq_true h.1,decide_eq_true h.2,decide_eq_false he];rfl
  rw [allN,this,Bool.and_false]
theorem zH (hb:b=allN (prmB y d out) k) (h:(y.prs.getD k Prm.zero).first≤d∧d≤(y.prs.getD k Prm.zero).last) (hw:decide (e=0)=decide (0≤dst y.pl.toNat y.ps out (y.help&&(y.prs.getD k Prm.zero).helped) (y.prs.getD k Prm.zero).to.toNat (y.prs.getD k Prm.zero).fr.toNat)) (he:e=0):b=allN (prmB y d out) (k+1):=by
  have:prmB y d out k=true:=by
    unfold prmB
    rw [←hw,decide_eq_true he,Bool.or_true]
  rw [allN,this,Bool.and_true,hb]
end
theorem Bi {y:Yr} (h:YOk y) {out:Int} (ho:0≤out∧out≤4095) {k:Nat} (hk:k<y.prs.length):askE y.pl y.ps y.xs out [(y.prs.getD k Prm.zero).fr,(y.prs.getD k Prm.zero).to]=0:=by
  have h1:=qX h.kept
  have h2:=oN.1 (h1.2.2 k hk)
  have h3:=(qW h1.1).1
  unfold askE
  rw [if_neg (by omega),if_pos]
  rw [decide_eq_true ho,wI.2 ⟨by omega,by omega⟩]
  rfl
theorem Jr (y:Yr) (cb bl bs bk:Nat) (l:List Tsk) (LA:Option Addr) (lc:Nat) (w:World) (F:Nat→Prop) (S:St w F [boxM cb 94 [.int .i64 y.days,.int .i64 y.pl,.slice y.PA y.ps.length y.pc,.slice y.XA y.xs.length y.xc,.slice y.BA y.pe.length y.bc,.int .i64 y.limit,.bool y.help,.slice y.QA y.prs.length y.qc,.slice y.VA y.us.length y.vc,.int .i64 y.crew,.slice y.SA y.sps.length y.sc,.map (some bl),.map (some bs),.map (some bk)],mapK (encN (n:=21)) bl (livP y),mapK (fun n:Int=>Value.int .i64 n) bs (safP y),mapK enc2 bk (kepP y)] w) (hy:YIn w F y) (hyb:YBd y) (hok:YOk y) (hl:InS w F 3 LA l.length (cB l)) (hln:l.length≤9223372036854775807) (htk:∀ k,k<l.length→tskI y (l.getD k Tsk.zero)) :
    Calls Tryz.prog 33 [.pointer (some ⟨cb,0,none⟩),.slice LA l.length lc].toArray w (Ret (fun v w'=>∃ A c,v = .slice A y.days.toNat c∧St w F (ownM 3 1 A y.days.toNat c (setsV y l y.us.length)::[boxM cb 94 [.int .i64 y.days,.int .i64 y.pl,.slice y.PA y.ps.length y.pc,.slice y.XA y.xs.length y.xc,.slice y.BA y.pe.length y.bc,.int .i64 y.limit,.bool y.help,.slice y.QA y.prs.length y.qc,.slice y.VA y.us.length y.vc,.int .i64 y.crew,.slice y.SA y.sps.length y.sc,.map (some bl),.map (some bs),.map (some bk)],mapK (encN (n:=21)) bl (livP y),mapK (fun n:Int=>Value.int .i64 n) bs (safP y),mapK enc2 bk (kepP y)]) w')):=by
 have hmx:maxLen=9223372036854775807:=rfl
 have hdy:=hok.days;have husn:=hyb.usn
 have hD:((y.days.toNat:Nat):Int)=y.days:=by omega
 refine enter Tryz.func33 rfl Tryz.ntmps33 rfl (fun a H=>?_)
 skip
 refine sS H fun K1 k1=>sr 1 rfl<|sE ?_;clear H a;intro a H
 refine k1 _ ?_;clear k1 K1
 refine aA fun K2 k2=>?_
 refine ls 5 H<|sr 2 rfl<|sf fC rfl<|sf dP rfl<|sl S 0 aB G G G<|sE ?_;clear H a;intro a H
 rw [←hD] at H
 refine eP (n:=y.days.toNat) H rfl S aO aW dQ kJ rfl (by decide) G G (by omega) (by omega) ?_;clear H a S;intro A1 _ a hA1 S H
 refine ls 1 H<|sr 1 rfl<|sE ?_;clear H a;intro a H
 refine k2 _ _ ?_;clear k2 K2
 refine wp_seq_k fun K3 k3=>?_
 replace H:=H.keep [0,1,5] rfl
 refine sS H fun K4 k4=>sr 2 rfl<|sf fC rfl<|sf cS rfl<|sl S 1 dZ G G G<|sL cX rfl<|sr 1 rfl<|sE ?_;clear H a;intro a H
 refine k4 _ ?_;clear k4 K4
 refine wp_block ?_
 replace S:=S.recell (i:=0) rfl (cell':=setsV y l 0) (fun k9 j9 hk9 hj9=>sets0 hj9)
 refine loop_st (X:=Nat) (R0:=_) [0,1,5,20,21] H rfl (fun k=>[(22,.int .i64 (k:Int))]) (fun k=>[ownM 3 1 A1 y.days.toNat y.days.toNat (setsV y l k)]) (fun g k=>k≤y.us.length∧g+k=y.us.length) (y.us.length) 0 ?_ (S.sel [0,1,2,3,4] G G) (H.keep [22,0,1,5,20,21] rfl) ?_
 · exact ⟨by omega,by omega⟩
 clear H S a
 intro g1 x1 a w1 hp S H K5 k5
 obtain ⟨k,rfl⟩:∃ y,y=x1:=⟨_,rfl⟩
 refine sS H fun K6 k6=>sr 1 rfl<|sE ?_;clear H a;intro a H
 refine k6 _ ?_;clear k6 K6
 refine wp_seq_k fun K7 k7=>?_
 refine condL H rfl (fun hc1=>?_) (fun hc1=>?_)
 ·skip
  refine wp_skip ?_
  refine k7 _ _ ?_
  refine wp_seq_k fun K8 k8=>?_
  refine wp_block ?_
  refine aA fun K9 k9=>?_
  refine ls 3 H<|sr 1 rfl<|si cX dC G G (hy.us.adr (by omega)) (by omega)<|sd ((aU lH dC rfl S hy.us (by omega) (by omega)))<|sE ?_;clear H a;intro a H
  refine aM H rfl S fU ?_;clear H a S;intro b7 _ a hb7 hbw7 S H
  refine ls 1 H<|sr 1 rfl<|sE ?_;clear H a;intro a H
  refine aH H S (i:=0) G G G G dC G G ?_
  clear H a S;intro _ a S H
  refine k9 _ _ ?_;clear k9 K9
  replace H:=H.keep [0,1,5,6,7,20,21,22] rfl
  refine aA fun K10 k10=>?_
  refine ls 3 H<|sr 3 rfl<|sE ?_;clear H a;intro a H
  refine aC H G G Tryz.func49 G G (Ta y cb bl bs bk k l LA lc _ _ ((S.sel [2,3,4,5] G G).startR) (hy.nowR (S.sel [2,3,4,5] G G)) hyb hok (by omega) (hl.nowR (S.sel [2,3,4,5] G G)) hln htk) ?_;clear H a
  rintro _ _ a ⟨rfl,S2⟩ H
  replace S:=St.callR (M:=[_,_,_,_]) (S.sel [2,3,4,5,0,1] G G) S2;clear S2
  refine aM H rfl S yF ?_;clear H a S;intro b8 _ a hb8 hbw8 S H
  refine aH H S (i:=0) G G G G kW G G ?_
  clear H a S;intro _ a S H
  refine k10 _ _ ?_;clear k10 K10
  refine sS H fun K11 k11=>sr 1 rfl<|sL aO rfl<|sr 1 rfl<|sE ?_;clear H a;intro a H
  refine k11 _ ?_;clear k11 K11
  refine wp_block ?_
  rw [←xH] at S
  refine loop_st (X:=Nat) (R0:=_) [0,1,5,7,8,20,21,22,32] H rfl (fun q=>[(33,.int .i64 (q:Int))]) (fun q=>[ownM 3 1 A1 y.days.toNat y.days.toNat (setsQ y l k q)]) (fun g q=>q≤y.days.toNat∧g+q=y.days.toNat) (y.days.toNat) 0 ?_ (S.sel [6,0,1,2,3,4,5] G G) (H.keep [33,0,1,5,7,8,20,21,22,32] rfl) ?_
  · exact ⟨by omega,by omega⟩
  clear H S a
  intro g2 x2 a w2 hp S H K12 k12
  obtain ⟨q,rfl⟩:∃ y,y=x2:=⟨_,rfl⟩
  refine sS H fun K13 k13=>sr 1 rfl<|sE ?_;clear H a;intro a H
  refine k13 _ ?_;clear k13 K13
  refine wp_seq_k fun K14 k14=>?_
  refine condL H rfl (fun hc2=>?_) (fun hc2=>?_)
  ·skip
   refine wp_skip ?_
   refine k14 _ _ ?_
   refine wp_seq_k fun K15 k15=>?_
   refine wp_block ?_
   refine sS H fun K16 k16=>sr 2 rfl<|sE ?_;clear H a;intro a H
   refine k16 _ ?_;clear k16 K16
   have hmk:=mC hok.V (hok.unit (show k<y.us.length by omega))
   refine sS H fun K17 k17=>sf Ag rfl<|sl S 1 aB G G G<|sr 1 rfl<|sd (lM G G (by omega) (by omega))<|sd (jY G G)<|sr 1 rfl<|sE ?_;clear H a;intro a H
   refine k17 _ ?_;clear k17 K17
   refine condE H rfl (fun hc3=>?_) (fun hc3=>?_)
   ·skip
    have hrn:=aEo (y:=y) (l:=l) (k:=k) (show q<y.days.toNat by omega) hc3
    have hob:=rK (l:=l) (d:=q) hok (show k≤y.us.length by omega)
    replace H:=H.keep [0,1,5,7,8,9,20,21,22,32,33] rfl
    refine iH 9 (by kernel_rfl) (by kernel_rfl) ?_
    replace S:=S.drew
    refine sF H<|sr 2 rfl<|si aO aW G G (ownM.adr S (i:=0) rfl (by omega)) (by omega)<|sd ((aE aB rfl (ownM.rd S (i:=0) (k:=q) (j:=0) rfl (by omega) (by omega))).to Tb)<|sf mN rfl<|sl S 6 aB G G G<|sd (nA G G (by omega) (by omega) (Jq hmk.1))<|sd (xD G G ⟨hob.1,lt40 hob.2⟩ (by omega) (Ha hok (by omega)))<|si aO aW G G (ownM.adr S (i:=0) rfl (by omega)) (by omega)<|sE ?_;clear H a;intro a H
    refine aZ H S (i:=0) G G G (by omega) (by omega) aW rfl ?_
    clear H a S;intro _ a S H
    refine k15 _ _ ?_
    replace H:=H.keep [0,1,5,7,8,20,21,22,32,33] rfl
    refine sO H<|sd (aG G G (by unfold i64ok;omega))<|sr 1 rfl<|sE ?_;clear H a;intro a H
    replace S:=S.recell (i:=0) rfl (cell':=setsQ y l k (q+1)) (fun k9 j9 hk9 hj9=>zF hrn rfl k9 j9 hj9)
    exact k12 (g2-1) (q+1) a _ (by omega) (⟨by omega,by omega⟩) (S.sel [0,1,2,3,4,5,6] G G) (H.keep [33,0,1,5,7,8,20,21,22,32] rfl)
   refine wp_skip ?_
   refine k15 _ _ ?_
   refine sO H<|sd (aG G G (by unfold i64ok;omega))<|sr 1 rfl<|sE ?_;clear H a;intro a H
   rw [zE (aEp (show q<y.days.toNat by omega) hc3)] at S
   exact k12 (g2-1) (q+1) a _ (by omega) (⟨by omega,by omega⟩) (S.sel [0,1,2,3,4,5,6] G G) (H.keep [33,0,1,5,7,8,20,21,22,32] rfl)
  refine wp_exit ?_
  refine k8 _ _ ?_
  refine sO H<|sd (aG G G (by unfold i64ok;omega))<|sr 1 rfl<|sE ?_;clear H a;intro a H
  obtain rfl:q=y.days.toNat:=by omega
  replace S:=S.recell (i:=0) rfl (cell':=setsV y l (k+1)) zD
  exact k5 (g1-1) (k+1) a _ (by omega) (⟨by omega,by omega⟩) (S.sel [0,2,3,4,5] G G) (H.keep [22,0,1,5,20,21] rfl)
 refine wp_exit ?_
 refine k3 _ _ ?_
 refine sS H fun K22 k22=>sr 2 rfl<|sE ?_;clear H a;intro a H
 refine k22 _ ?_;clear k22 K22
 refine wp_ret ?_
 refine ret1 (fn:=Tryz.f33) rfl H rfl ?_
 obtain rfl:k=y.us.length:=by omega
 exact ⟨_,_,rfl,(S.sel [0,1,2,3,4] G G)⟩
theorem He (y:Yr) (cb bl bs bk:Nat) (out:Int) (w:World) (F:Nat→Prop) (S:St w F [boxM cb 94 [.int .i64 y.days,.int .i64 y.pl,.slice y.PA y.ps.length y.pc,.slice y.XA y.xs.length y.xc,.slice y.BA y.pe.length y.bc,.int .i64 y.limit,.bool y.help,.slice y.QA y.prs.length y.qc,.slice y.VA y.us.length y.vc,.int .i64 y.crew,.slice y.SA y.sps.length y.sc,.map (some bl),.map (some bs),.map (some bk)],mapK (encN (n:=21)) bl (livP y),mapK (fun n:Int=>Value.int .i64 n) bs (safP y),mapK enc2 bk (kepP y)] w) (hy:YIn w F y) (hyb:YBd y) (hok:YOk y) (ho:0≤out∧out≤4095) :
    Calls Tryz.prog 52 [.pointer (some ⟨cb,0,none⟩),.int .i64 out].toArray w (Ret (fun v w'=>v = .bool (leavB y out)∧St w F [boxM cb 94 [.int .i64 y.days,.int .i64 y.pl,.slice y.PA y.ps.length y.pc,.slice y.XA y.xs.length y.xc,.slice y.BA y.pe.length y.bc,.int .i64 y.limit,.bool y.help,.slice y.QA y.prs.length y.qc,.slice y.VA y.us.length y.vc,.int .i64 y.crew,.slice y.SA y.sps.length y.sc,.map (some bl),.map (some bs),.map (some bk)],mapK (encN (n:=21)) bl (livP y),mapK (fun n:Int=>Value.int .i64 n) bs (safP y),mapK enc2 bk (kepP y)] w')):=by
 have hmx:maxLen=9223372036854775807:=rfl
 have hdy:=hok.days;have husn:=hyb.usn
 have hD:((y.days.toNat:Nat):Int)=y.days:=by omega
 have hpel:y.pe.length≤1000∧∀ k,k<y.pe.length→0≤y.pe.getD k 0∧y.pe.getD k 0≤1000:=⟨by have h1:=hok.yr.2.1.1;have h2:=hok.V.size;omega,hok.yr.2.1.2⟩
 refine enter Tryz.func52 rfl Tryz.ntmps52 rfl (fun a H=>?_)
 skip
 refine sS H fun K1 k1=>sr 1 rfl<|sE ?_;clear H a;intro a H
 refine k1 _ ?_;clear k1 K1
 obtain ⟨h0,hh0,S⟩:=mapK.fix S (i:=2) rfl
 rcases hk0:h0 out with _|v0
 ·skip
  skip
  replace H:=H.keep [0,1] rfl
  refine sS H fun K2 k2=>sr 2 rfl<|sf Ac rfl<|sl S 0 Fo G G G<|sr 1 rfl<|sd (fN S (i:=2) rfl yG (gP rfl) Vt rfl (k:=out) rfl (fun h e=>by subst e;rw [hk0];exact ⟨rfl,rfl⟩))<|sr 5 rfl<|sE ?_;clear H a;intro a H
  refine k2 _ ?_;clear k2 K2
  refine wp_seq_k fun K3 k3=>?_
  replace H:=H.keep [0,1,5,6] rfl
  refine sS H fun K4 k4=>sr 2 rfl<|sE ?_;clear H a;intro a H
  refine k4 _ ?_;clear k4 K4
  refine aT H rfl (fun hc1=>?_) (fun hc1=>?_)
  ·skip
   skip
   refine sS H fun K5 k5=>sr 1 rfl<|sE ?_;clear H a;intro a H
   refine k5 _ ?_;clear k5 K5
   refine wp_seq_k fun K6 k6=>?_
   replace H:=H.keep [0,1,7] rfl
   refine sS H fun K7 k7=>sr 2 rfl<|sf fC rfl<|sf gS rfl<|sl S 0 dL G G G<|sL aO rfl<|sr 1 rfl<|sE ?_;clear H a;intro a H
   refine k7 _ ?_;clear k7 K7
   refine wp_block ?_
   refine loop_st (X:=Nat) (R0:=_) [0,1,27,28] H rfl (fun k=>[(7,.int .i64 (sumI y.pe k)),(29,.int .i64 (k:Int))]) (fun k=>[]) (fun g k=>k≤y.pe.length∧g+k=y.pe.length) (y.pe.length) 0 ?_ (S.sel [0,1,2,3] G G) (H.keep [7,29,0,1,27,28] rfl) ?_
   · exact ⟨by omega,by omega⟩
   clear H S a
   intro g1 x1 a w1 hp S H K8 k8
   obtain ⟨k,rfl⟩:∃ y,y=x1:=⟨_,rfl⟩
   refine sS H fun K9 k9=>sr 1 rfl<|sE ?_;clear H a;intro a H
   refine k9 _ ?_;clear k9 K9
   refine wp_seq_k fun K10 k10=>?_
   refine condL H rfl (fun hc2=>?_) (fun hc2=>?_)
   ·skip
    refine wp_skip ?_
    refine k10 _ _ ?_
    refine wp_seq_k fun K11 k11=>?_
    refine wp_block ?_
    refine sS H fun K12 k12=>si aO aW G G (hy.pe.adr (by omega)) (by omega)<|slm aB rfl (hy.pe.rd S (by omega) (by omega))<|sr 1 rfl<|sE ?_;clear H a;intro a H
    refine k12 _ ?_;clear k12 K12
    have hsb:=Bh hpel.2 k (by omega);have hsk:=hpel.2 k (by omega)
    refine sO H<|sr 2 rfl<|sd (aG G G (by unfold i64ok;omega))<|sr 1 rfl<|sE ?_;clear H a;intro a H
    refine k11 _ _ ?_
    replace H:=H.keep [0,1,7,27,28,29] rfl
    refine sO H<|sd (aG G G (by unfold i64ok;omega))<|sr 1 rfl<|sE ?_;clear H a;intro a H
    exact k8 (g1-1) (k+1) a _ (by omega) (⟨by omega,by omega⟩) (S.sel [0,1,2,3] G G) (H.keep [7,29,0,1,27,28] rfl)
   refine wp_exit ?_
   refine k6 _ _ ?_
   replace H:=H.keep [0,1,7] rfl
   replace S:=S.drew
   refine cJ [(0,true),(1,true),(2,true),(3,true),(4,true),(5,true),(6,true),(7,true),(8,true),(9,true),(10,true),(11,true),(12,true),(13,true),(14,true),(15,true),(16,false),(17,true),(18,true),(19,true),(20,true),(21,true)] (by kernel_rfl) (by kernel_rfl) (S.sel [0,1,2,3] G G) fun K15 k15=>?_
   refine qF H<|qr 2 rfl<|qd rfl (fun _ S=>(aF fC rfl))<|qd rfl (fun _ S=>(aF eH rfl))<|qd rfl (fun _ S=>(aD cA cP rfl S (i:=0) G G))<|qr 3 rfl<|qd rfl (fun _ S=>(aF fC rfl))<|qd rfl (fun _ S=>(aF gS rfl))<|qd rfl (fun _ S=>aE dL rfl (boxM.rd S (i:=0) G G))<|qr 2 rfl<|qd rfl (fun _ S=>(aF fC rfl))<|qd rfl (fun _ S=>(aF mM rfl))<|qd rfl (fun _ S=>aE aB rfl (boxM.rd S (i:=0) G G))<|qK ?_;clear H a;intro a H
   refine bA rfl ?_
   have hcl9:=dU (Mn y.pl y.ps y.PA y.pc y.xs y.XA y.xc out y.pe y.BA y.bc y.limit _ (hy.ps.now S) hyb.psn (hy.xs.now S) hyb.xsn (hy.pe.now S) hyb.pen) (fun _ _ h=>Ef (hok.leave ho) h)
   refine aC H G G Tryz.func73 G G hcl9 ?_;clear H a hcl9
   rintro _ _ a ⟨n9,rfl,hlb,S2⟩ H
   replace S:=S.call S2;clear S2
   refine wpList_nil (And.intro (S.sel [0,1,2,3] G G) ?_)
   refine qF H<|qr 5 rfl<|qK ?_;clear H a;intro a H
   refine bU ?_
   refine k15 _ _ ?_
   clear k15 K15
   replace H:=H.keep [0,1,7,10] rfl
   refine sS H fun K16 k16=>sr 4 rfl<|sE ?_;clear H a;intro a H
   refine k16 _ ?_;clear k16 K16
   replace H:=H.keep [0,1,5] rfl
   refine cE ?_
   refine ls 6 H<|sr 2 rfl<|sf Ac rfl<|sl S 0 Fo G G G<|sr 2 rfl<|sE ?_;clear H a;intro a H
   refine fW (k:=out) (safP y) H S (i:=2) rfl yG (gP rfl) G G G (fun h e=>by subst e;exact Sj (congrArg Value.bool (by rw [hlb,show k=y.pe.length by omega])) h hh0) ?_;clear H a S;intro _ a S H
   refine k3 _ _ ?_
   refine sS H fun K18 k18=>sr 2 rfl<|sE ?_;clear H a;intro a H
   refine k18 _ ?_;clear k18 K18
   refine wp_ret ?_
   refine ret1 (fn:=Tryz.f52) rfl H rfl ?_
   exact ⟨congrArg Value.bool (by rw [hlb,show k=y.pe.length by omega]),(S.sel [0,1,2,3] G G)⟩
  skip
  cases hc1
 obtain rfl:=hh0 _ _ ho hk0
 replace H:=H.keep [0,1] rfl
 refine sS H fun K19 k19=>sr 2 rfl<|sf Ac rfl<|sl S 0 Fo G G G<|sr 1 rfl<|sd (fN S (i:=2) rfl yG (gP rfl) Vt rfl (k:=out) rfl (fun h e=>by subst e;rw [hk0];exact ⟨rfl,rfl⟩))<|sr 5 rfl<|sE ?_;clear H a;intro a H
 refine k19 _ ?_;clear k19 K19
 refine wp_seq_k fun K20 k20=>?_
 replace H:=H.keep [0,1,5,6] rfl
 refine sS H fun K21 k21=>sr 2 rfl<|sE ?_;clear H a;intro a H
 refine k21 _ ?_;clear k21 K21
 refine aT H rfl (fun hc3=>?_) (fun hc3=>?_)
 ·skip
  skip
  cases hc3
 skip
 refine wp_skip ?_
 refine k20 _ _ ?_
 refine sS H fun K22 k22=>sr 2 rfl<|sE ?_;clear H a;intro a H
 refine k22 _ ?_;clear k22 K22
 refine wp_ret ?_
 refine ret1 (fn:=Tryz.f52) rfl H rfl ?_
 replace S:=mapK.weak S (i:=2) rfl (Φ':=safP y) (fun g e=>by subst e;exact hh0)
 exact ⟨rfl,(S.sel [0,1,2,3] G G)⟩
theorem Mp (y:Yr) (cb bl bs bk:Nat) (d out:Int) (w:World) (F:Nat→Prop) (S:St w F [boxM cb 94 [.int .i64 y.days,.int .i64 y.pl,.slice y.PA y.ps.length y.pc,.slice y.XA y.xs.length y.xc,.slice y.BA y.pe.length y.bc,.int .i64 y.limit,.bool y.help,.slice y.QA y.prs.length y.qc,.slice y.VA y.us.length y.vc,.int .i64 y.crew,.slice y.SA y.sps.length y.sc,.map (some bl),.map (some bs),.map (some bk)],mapK (encN (n:=21)) bl (livP y),mapK (fun n:Int=>Value.int .i64 n) bs (safP y),mapK enc2 bk (kepP y)] w) (hy:YIn w F y) (hyb:YBd y) (hok:YOk y) (ho:0≤out∧out≤4095) :
    Calls Tryz.prog 51 [.pointer (some ⟨cb,0,none⟩),.int .i64 d,.int .i64 out].toArray w (Ret (fun v w'=>v = .bool (keepB y d out)∧St w F [boxM cb 94 [.int .i64 y.days,.int .i64 y.pl,.slice y.PA y.ps.length y.pc,.slice y.XA y.xs.length y.xc,.slice y.BA y.pe.length y.bc,.int .i64 y.limit,.bool y.help,.slice y.QA y.prs.length y.qc,.slice y.VA y.us.length y.vc,.int .i64 y.crew,.slice y.SA y.sps.length y.sc,.map (some bl),.map (some bs),.map (some bk)],mapK (encN (n:=21)) bl (livP y),mapK (fun n:Int=>Value.int .i64 n) bs (safP y),mapK enc2 bk (kepP y)] w')):=by
 have hprn:=hyb.prn
 refine enter Tryz.func51 rfl Tryz.ntmps51 rfl (fun a H=>?_)
 skip
 refine sS H fun K1 k1=>sr 1 rfl<|sE ?_;clear H a;intro a H
 refine k1 _ ?_;clear k1 K1
 obtain ⟨h0,hh0,S⟩:=mapK.fix S (i:=3) rfl
 rcases hk0:h0 (d,out) with _|v0
 ·skip
  skip
  replace H:=H.keep [0,1,2] rfl
  refine sS H fun K2 k2=>sr 2 rfl<|sf Ae rfl<|sl S 0 Fq G G G<|sr 2 rfl<|sd (aN Fv G G)<|sd (fN S (i:=3) rfl Pj (Gw Tryz.underlying133 Tryz.underlying3 aB aW) Vt rfl (k:=(d,out)) rfl (fun h e=>by subst e;rw [hk0];exact ⟨rfl,rfl⟩))<|sr 5 rfl<|sE ?_;clear H a;intro a H
  refine k2 _ ?_;clear k2 K2
  refine wp_seq_k fun K3 k3=>?_
  replace H:=H.keep [0,1,2,7,8] rfl
  refine sS H fun K4 k4=>sr 1 rfl<|sE ?_;clear H a;intro a H
  refine k4 _ ?_;clear k4 K4
  refine aT H rfl (fun hc1=>?_) (fun hc1=>?_)
  ·skip
   skip
   cases hc1
  skip
  refine wp_skip ?_
  refine k3 _ _ ?_
  refine sS H fun K5 k5=>sr 1 rfl<|sE ?_;clear H a;intro a H
  refine k5 _ ?_;clear k5 K5
  refine wp_seq_k fun K6 k6=>?_
  refine sS H fun K7 k7=>sr 2 rfl<|sf fC rfl<|sf kY rfl<|sl S 0 pF G G G<|sL eS rfl<|sr 1 rfl<|sE ?_;clear H a;intro a H
  refine k7 _ ?_;clear k7 K7
  refine wp_block ?_
  refine loop_st (X:=Nat×Bool) (R0:=_) [0,1,2,31,32] H rfl (fun ⟨k,b⟩=>[(7,.bool b),(33,.int .i64 (k:Int))]) (fun ⟨k,b⟩=>[]) (fun g ⟨k,b⟩=>k≤y.prs.length∧g+k=y.prs.length∧b=allN (prmB y d out) k) (y.prs.length) (0,true) ?_ (S.sel [0,1,2,3] G G) (H.keep [7,33,0,1,2,31,32] rfl) ?_
  · exact ⟨by omega,by omega,rfl⟩
  clear H S a
  intro g1 x1 a w1 hp S H K8 k8
  obtain ⟨k,b⟩:=x1
  dsimp only at hp S H
  refine sS H fun K9 k9=>sr 1 rfl<|sE ?_;clear H a;intro a H
  refine k9 _ ?_;clear k9 K9
  refine wp_seq_k fun K10 k10=>?_
  refine condL H rfl (fun hc2=>?_) (fun hc2=>?_)
  ·skip
   refine wp_skip ?_
   refine k10 _ _ ?_
   refine wp_seq_k fun K11 k11=>?_
   refine wp_block ?_
   refine aA fun K12 k12=>?_
   refine ls 2 H<|si eS eL G G (hy.prs.adr (by omega)) (by omega)<|sd ((aU vK eL rfl S hy.prs (by omega) (by omega)))<|sE ?_;clear H a;intro a H
   refine aM H rfl S gI ?_;clear H a S;intro b10 _ a hb10 hbw10 S H
   refine aH H S (i:=0) G G G G eL G G ?_
   clear H a S;intro _ a S H
   refine k12 _ _ ?_;clear k12 K12
   refine wp_seq_k fun K13 k13=>?_
   replace H:=H.keep [0,1,2,7,10,31,32,33] rfl
   refine sS H fun K14 k14=>sr 1 rfl<|sf mQ rfl<|sl S 0 aB G G G<|sf kZ rfl<|sl S 0 aB G G G<|sc rfl Tryz.func28 G G (bX _ _ _ _)<|sr 1 rfl<|sE ?_;clear H a;intro a H
   refine k14 _ ?_;clear k14 K14
   refine aT H rfl (fun hc3=>?_) (fun hc3=>?_)
   ·skip
    try simp only [o1,o2,o3,o4,o5,o6,o7,o8,o9,oa] at hc3
    refine wp_exit ?_
    refine k11 _ _ ?_
    refine sO H<|sd (aG G G (by unfold i64ok;omega))<|sr 1 rfl<|sE ?_;clear H a;intro a H
    exact k8 (g1-1) (k+1,_) a _ (by omega) (⟨by omega,by omega,Mo hp.2.2 (by omega)⟩) (S.sel [1,2,3,4] G G) (H.keep [7,33,0,1,2,31,32] rfl)
   try simp only [o1,o2,o3,o4,o5,o6,o7,o8,o9,oa] at hc3
   refine wp_skip ?_
   refine k13 _ _ ?_
   rcases hhp:y.help with _|_
   ·skip
    skip
    replace H:=H.keep [0,1,2,7,10,31,32,33] rfl
    replace S:=S.drew
    refine cJ [(0,true),(1,true),(2,true),(3,true),(4,true),(5,true),(6,true),(7,true),(8,true),(9,true),(10,true),(11,true),(12,true),(13,true),(14,true),(15,true),(16,true),(17,true),(18,true),(19,false),(20,true),(21,true),(22,true),(23,true),(24,true),(25,true),(26,true)] (by kernel_rfl) (by kernel_rfl) (S.sel [0,1,2,3,4] G G) fun K16 k16=>?_
    refine qF H<|qr 2 rfl<|qd rfl (fun _ S=>(aF fC rfl))<|qd rfl (fun _ S=>(aF eH rfl))<|qd rfl (fun _ S=>(aD cA cP rfl S (i:=1) G G))<|qr 3 rfl<|qd rfl (fun _ S=>(aF fC rfl))<|qd rfl (fun _ S=>(aF tT rfl))<|qd rfl (fun _ S=>(aE iV rfl (boxM.rd S (i:=1) G G)).to (v' := .bool false) (congrArg Value.bool hhp))<|qr 1 rfl<|qK ?_;clear H a;intro a H
    refine aQ H G G G G G ?_;clear H a;intro a H
    refine aQ H G G G G G ?_;clear H a;intro a H
    refine qF H<|qd rfl (fun _ S=>(bH G G G))<|qd rfl (fun _ S=>(aF mO rfl))<|qd rfl (fun _ S=>aE aB rfl (boxM.rd S (i:=0) G G))<|qd rfl (fun _ S=>(aF mP rfl))<|qd rfl (fun _ S=>aE aB rfl (boxM.rd S (i:=0) G G))<|qK ?_;clear H a;intro a H
    refine bA rfl ?_
    have hcl9:=dU (Cu y.pl y.ps y.PA y.pc y.xs y.XA y.xc out false (y.prs.getD k Prm.zero).fr (y.prs.getD k Prm.zero).to _ (hy.ps.now S) hyb.psn (hy.xs.now S) hyb.xsn) (fun _ _ h=>uO (Bi hok ho (show k<y.prs.length by omega)) h)
    refine aC H G G Tryz.func72 G G hcl9 ?_;clear H a hcl9
    rintro _ _ a ⟨t9,e9,A9,n9,c9,rfl,hwb,S2⟩ H
    replace S:=S.call S2;clear S2
    refine wpList_nil (And.intro (S.sel [0,1,2,3,4] G G) ?_)
    refine qF H<|qr 7 rfl<|qK ?_;clear H a;intro a H
    refine bU ?_
    refine k16 _ _ ?_
    clear k16 K16
    replace H:=H.keep [0,1,2,7,13,31,32,33] rfl
    refine sS H fun K17 k17=>sr 2 rfl<|sE ?_;clear H a;intro a H
    refine k17 _ ?_;clear k17 K17
    refine condN H rfl (fun hc4=>?_) (fun hc4=>?_)
    ·skip
     refine sO H<|sr 1 rfl<|sE ?_;clear H a;intro a H
     refine k11 _ _ ?_
     refine sO H<|sd (aG G G (by unfold i64ok;omega))<|sr 1 rfl<|sE ?_;clear H a;intro a H
     exact k8 (g1-1) (k+1,_) a _ (by omega) (⟨by omega,by omega,Eh hp.2.2 (by omega) (by rw [hhp];exact hwb) (by omega)⟩) (S.sel [1,2,3,4] G G) (H.keep [7,33,0,1,2,31,32] rfl)
    refine wp_skip ?_
    refine k11 _ _ ?_
    refine sO H<|sd (aG G G (by unfold i64ok;omega))<|sr 1 rfl<|sE ?_;clear H a;intro a H
    exact k8 (g1-1) (k+1,_) a _ (by omega) (⟨by omega,by omega,zH hp.2.2 (by omega) (by rw [hhp];exact hwb) (by omega)⟩) (S.sel [1,2,3,4] G G) (H.keep [7,33,0,1,2,31,32] rfl)
   skip
   replace H:=H.keep [0,1,2,7,10,31,32,33] rfl
   replace S:=S.drew
   refine cJ [(0,true),(1,true),(2,true),(3,true),(4,true),(5,true),(6,true),(7,true),(8,true),(9,true),(10,true),(11,true),(12,true),(13,true),(14,true),(15,true),(16,true),(17,true),(18,true),(19,false),(20,true),(21,true),(22,true),(23,true),(24,true),(25,true),(26,true)] (by kernel_rfl) (by kernel_rfl) (S.sel [0,1,2,3,4] G G) fun K21 k21=>?_
   refine qF H<|qr 2 rfl<|qd rfl (fun _ S=>(aF fC rfl))<|qd rfl (fun _ S=>(aF eH rfl))<|qd rfl (fun _ S=>(aD cA cP rfl S (i:=1) G G))<|qr 3 rfl<|qd rfl (fun _ S=>(aF fC rfl))<|qd rfl (fun _ S=>(aF tT rfl))<|qd rfl (fun _ S=>(aE iV rfl (boxM.rd S (i:=1) G G)).to (v' := .bool true) (congrArg Value.bool hhp))<|qr 1 rfl<|qK ?_;clear H a;intro a H
   refine aK H G G G G (fun _ S=>(aF Aa rfl)) ?_;clear H a;intro a H
   refine aK H G G G G (fun _ S=>aE iV rfl (boxM.rd S (i:=0) G G)) ?_;clear H a;intro a H
   refine qF H<|qd rfl (fun _ S=>(gG G G G))<|qd rfl (fun _ S=>(aF mO rfl))<|qd rfl (fun _ S=>aE aB rfl (boxM.rd S (i:=0) G G))<|qd rfl (fun _ S=>(aF mP rfl))<|qd rfl (fun _ S=>aE aB rfl (boxM.rd S (i:=0) G G))<|qK ?_;clear H a;intro a H
   refine bA rfl ?_
   have hcl9:=dU (Cu y.pl y.ps y.PA y.pc y.xs y.XA y.xc out (y.prs.getD k Prm.zero).helped (y.prs.getD k Prm.zero).fr (y.prs.getD k Prm.zero).to _ (hy.ps.now S) hyb.psn (hy.xs.now S) hyb.xsn) (fun _ _ h=>uO (Bi hok ho (show k<y.prs.length by omega)) h)
   refine aC H G G Tryz.func72 G G hcl9 ?_;clear H a hcl9
   rintro _ _ a ⟨t9,e9,A9,n9,c9,rfl,hwb,S2⟩ H
   replace S:=S.call S2;clear S2
   refine wpList_nil (And.intro (S.sel [0,1,2,3,4] G G) ?_)
   refine qF H<|qr 7 rfl<|qK ?_;clear H a;intro a H
   refine bU ?_
   refine k21 _ _ ?_
   clear k21 K21
   replace H:=H.keep [0,1,2,7,13,31,32,33] rfl
   refine sS H fun K22 k22=>sr 2 rfl<|sE ?_;clear H a;intro a H
   refine k22 _ ?_;clear k22 K22
   refine condN H rfl (fun hc5=>?_) (fun hc5=>?_)
   ·skip
    refine sO H<|sr 1 rfl<|sE ?_;clear H a;intro a H
    refine k11 _ _ ?_
    refine sO H<|sd (aG G G (by unfold i64ok;omega))<|sr 1 rfl<|sE ?_;clear H a;intro a H
    exact k8 (g1-1) (k+1,_) a _ (by omega) (⟨by omega,by omega,Eh hp.2.2 (by omega) (by rw [hhp];exact hwb) (by omega)⟩) (S.sel [1,2,3,4] G G) (H.keep [7,33,0,1,2,31,32] rfl)
   refine wp_skip ?_
   refine k11 _ _ ?_
   refine sO H<|sd (aG G G (by unfold i64ok;omega))<|sr 1 rfl<|sE ?_;clear H a;intro a H
   exact k8 (g1-1) (k+1,_) a _ (by omega) (⟨by omega,by omega,zH hp.2.2 (by omega) (by rw [hhp];exact hwb) (by omega)⟩) (S.sel [1,2,3,4] G G) (H.keep [7,33,0,1,2,31,32] rfl)
  refine wp_exit ?_
  refine k6 _ _ ?_
  have hb9:b=keepB y d out:=by rw [hp.2.2,show k=y.prs.length by omega];rfl
  subst hb9
  replace H:=H.keep [0,1,2,7] rfl
  refine aA fun K26 k26=>?_
  refine ls 8 H<|sr 2 rfl<|sf Ae rfl<|sl S 0 Fq G G G<|sr 2 rfl<|sd (aN Fv G G)<|sr 1 rfl<|sE ?_;clear H a;intro a H
  refine fW (k:=(d,out)) (kepP y) H S (i:=3) rfl Pj (Gw Tryz.underlying133 Tryz.underlying3 aB aW) G G G (fun h e=>by subst e;exact Sk rfl h hh0) ?_;clear H a S;intro _ a S H
  refine k26 _ _ ?_;clear k26 K26
  replace H:=H.keep [7] rfl
  refine sS H fun K27 k27=>sr 2 rfl<|sE ?_;clear H a;intro a H
  refine k27 _ ?_;clear k27 K27
  refine wp_ret ?_
  refine ret1 (fn:=Tryz.f51) rfl H rfl ?_
  exact ⟨rfl,(S.sel [0,1,2,3] G G)⟩
 obtain rfl:=hh0 _ _ _ ho hk0
 replace H:=H.keep [0,1,2] rfl
 refine sS H fun K28 k28=>sr 2 rfl<|sf Ae rfl<|sl S 0 Fq G G G<|sr 2 rfl<|sd (aN Fv G G)<|sd (fN S (i:=3) rfl Pj (Gw Tryz.underlying133 Tryz.underlying3 aB aW) Vt rfl (k:=(d,out)) rfl (fun h e=>by subst e;rw [hk0];exact ⟨rfl,rfl⟩))<|sr 5 rfl<|sE ?_;clear H a;intro a H
 refine k28 _ ?_;clear k28 K28
 refine wp_seq_k fun K29 k29=>?_
 replace H:=H.keep [0,1,2,7,8] rfl
 refine sS H fun K30 k30=>sr 1 rfl<|sE ?_;clear H a;intro a H
 refine k30 _ ?_;clear k30 K30
 refine aT H rfl (fun hc6=>?_) (fun hc6=>?_)
 ·skip
  skip
  refine sS H fun K31 k31=>sr 2 rfl<|sE ?_;clear H a;intro a H
  refine k31 _ ?_;clear k31 K31
  refine wp_ret ?_
  refine ret1 (fn:=Tryz.f51) rfl H rfl ?_
  replace S:=mapK.weak S (i:=3) rfl (Φ':=kepP y) (fun g e=>by subst e;exact hh0)
  exact ⟨rfl,(S.sel [0,1,2,3] G G)⟩
 skip
 cases hc6
end
section
theorem Js {y:Yr} (hok:YOk y) {i:Nat} (hi:i<y.us.length):0≤(y.us.getD i Unt.zero).kind∧(y.us.getD i Unt.zero).kind≤3:=by
  have h:=(hok.unit hi).i
  unfold untI at h
  exact h.2.2.1
theorem stk0 {y:Yr} {l:List Tsk} {k j:Nat} (hk:k<4) (hj:j<1):([Value.int .i64 0,Value.int .i64 0,Value.int .i64 0,Value.int .i64 0]:List Value).getD k undef=stkC y l 0 0 0 k j:=by
  have e:stkC y l 0 0 0 k j = .int .i64 0:=rfl
  rw [e]
  match k,hk with
  | 0,_=>rfl
  | 1,_=>rfl
  | 2,_=>rfl
  | 3,_=>rfl
theorem sQ (y:Yr) (cb bl bs bk:Nat) (l:List Tsk) (LA:Option Addr) (lc:Nat) (w:World) (F:Nat→Prop) (S:St w F [boxM cb 94 [.int .i64 y.days,.int .i64 y.pl,.slice y.PA y.ps.length y.pc,.slice y.XA y.xs.length y.xc,.slice y.BA y.pe.length y.bc,.int .i64 y.limit,.bool y.help,.slice y.QA y.prs.length y.qc,.slice y.VA y.us.length y.vc,.int .i64 y.crew,.slice y.SA y.sps.length y.sc,.map (some bl),.map (some bs),.map (some bk)],mapK (encN (n:=21)) bl (livP y),mapK (fun n:Int=>Value.int .i64 n) bs (safP y),mapK enc2 bk (kepP y)] w) (hy:YIn w F y) (hyb:YBd y) (hok:YOk y) (hl:InS w F 3 LA l.length (cB l)) (hln:l.length≤9223372036854775807) (htk:∀ k,k<l.length→tskI y (l.getD k Tsk.zero)) (hl60:l.length≤60) :
    Calls Tryz.prog 35 [.pointer (some ⟨cb,0,none⟩),.slice LA l.length lc].toArray w (Ret (fun v w'=>v = .tuple #[.int .i64 (judgeV y l).1,.int .i64 (judgeV y l).2]∧St w F [boxM cb 94 [.int .i64 y.days,.int .i64 y.pl,.slice y.PA y.ps.length y.pc,.slice y.XA y.xs.length y.xc,.slice y.BA y.pe.length y.bc,.int .i64 y.limit,.bool y.help,.slice y.QA y.prs.length y.qc,.slice y.VA y.us.length y.vc,.int .i64 y.crew,.slice y.SA y.sps.length y.sc,.map (some bl),.map (some bs),.map (some bk)],mapK (encN (n:=21)) bl (livP y),mapK (fun n:Int=>Value.int .i64 n) bs (safP y),mapK enc2 bk (kepP y)] w')):=by
 have hmx:maxLen=9223372036854775807:=rfl
 have hdy:=hok.days;have husn:=hyb.usn;have hspn:=hyb.spn
 have hD:((y.days.toNat:Nat):Int)=y.days:=by omega
 refine enter Tryz.func35 rfl Tryz.ntmps35 rfl (fun a H=>?_)
 skip
 refine sS H fun K1 k1=>sr 2 rfl<|sE ?_;clear H a;intro a H
 refine k1 _ ?_;clear k1 K1
 refine aA fun K2 k2=>?_
 refine ls 2 H<|sr 2 rfl<|sE ?_;clear H a;intro a H
 refine aC H G G Tryz.func33 G G (Jr y cb bl bs bk l LA lc _ _ ((S.sel [0,1,2,3] G G).startR) (hy.nowR (S.sel [0,1,2,3] G G)) hyb hok (hl.nowR (S.sel [0,1,2,3] G G)) hln htk) ?_;clear H a
 rintro _ _ a ⟨A6,c6,rfl,S2⟩ H
 replace S:=St.callR (M:=[_,_,_,_]) (S.sel [0,1,2,3] G G) S2;clear S2
 refine ls 1 H<|sr 1 rfl<|sE ?_;clear H a;intro a H
 refine k2 _ _ ?_;clear k2 K2
 refine aA fun K3 k3=>?_
 refine aM H rfl S aAt ?_;clear H a S;intro b7 _ a hb7 hbw7 S H
 refine k3 _ _ ?_;clear k3 K3
 refine wp_seq_k fun K4 k4=>?_
 replace S:=Dz S (i:=0) rfl (by show 4≤maxLen;decide)
 replace S:=S.recell (i:=0) rfl (cell':=stkC y l 0 0 0) (fun k9 j9 hk9 hj9=>stk0 hk9 hj9)
 replace H:=H.keep [0,1,6,7] rfl
 refine sS H fun K5 k5=>sr 2 rfl<|sf fC rfl<|sf dP rfl<|sl S 2 aB G G G<|sr 1 rfl<|sE ?_;clear H a;intro a H
 refine k5 _ ?_;clear k5 K5
 refine wp_block ?_
 refine loop_st (X:=Nat) (R0:=_) [0,1,6,7,23] H rfl (fun d=>[(24,.int .i64 (d:Int))]) (fun d=>[ownM 101 1 (some ⟨b7,0,none⟩) 4 4 (stkC y l d 0 0)]) (fun g d=>(d≤y.days.toNat∧g+d=y.days.toNat)∧∀ q,q<d→faultD y l q=0) (y.days.toNat) 0 ?_ (S.sel [0,1,2,3,4,5] G G) (H.keep [24,0,1,6,7,23] rfl) ?_
 · exact ⟨⟨by omega,by omega⟩,fun q hq=>absurd hq (Nat.not_lt_zero q)⟩
 clear H S a
 intro g1 x1 a w1 hp S H K6 k6
 obtain ⟨d,rfl⟩:∃ y,y=x1:=⟨_,rfl⟩
 obtain ⟨⟨hdl,hgd⟩,hfl⟩:=hp
 refine sS H fun K7 k7=>sr 1 rfl<|sE ?_;clear H a;intro a H
 refine k7 _ ?_;clear k7 K7
 refine wp_seq_k fun K8 k8=>?_
 refine condL H rfl (fun hc1=>?_) (fun hc1=>?_)
 ·skip
  refine wp_skip ?_
  refine k8 _ _ ?_
  refine wp_seq_k fun K9 k9=>?_
  refine wp_block ?_
  refine sS H fun K10 k10=>sr 2 rfl<|sE ?_;clear H a;intro a H
  refine k10 _ ?_;clear k10 K10
  refine wp_seq_k fun K11 k11=>?_
  replace H:=H.keep [0,1,6,7,8,23,24] rfl
  refine sS H fun K12 k12=>sr 2 rfl<|sf fC rfl<|sf gT rfl<|sl S 2 jN G G G<|sL kH rfl<|sr 1 rfl<|sE ?_;clear H a;intro a H
  refine k12 _ ?_;clear k12 K12
  refine wp_block ?_
  refine loop_st (X:=Nat) (R0:=_) [0,1,6,7,8,23,24,31,32] H rfl (fun n=>[(33,.int .i64 (n:Int))]) (fun n=>[ownM 101 1 (some ⟨b7,0,none⟩) 4 4 (stkC y l d n 0)]) (fun g n=>n≤y.sps.length∧g+n=y.sps.length) (y.sps.length) 0 ?_ (S.sel [0,1,2,3,4,5] G G) (H.keep [33,0,1,6,7,8,23,24,31,32] rfl) ?_
  · exact ⟨by omega,by omega⟩
  clear H S a
  intro g2 x2 a w2 hp S H K13 k13
  obtain ⟨n,rfl⟩:∃ y,y=x2:=⟨_,rfl⟩
  refine sS H fun K14 k14=>sr 1 rfl<|sE ?_;clear H a;intro a H
  refine k14 _ ?_;clear k14 K14
  refine wp_seq_k fun K15 k15=>?_
  refine condL H rfl (fun hc2=>?_) (fun hc2=>?_)
  ·skip
   refine wp_skip ?_
   refine k15 _ _ ?_
   refine wp_seq_k fun K16 k16=>?_
   refine wp_block ?_
   refine aA fun K17 k17=>?_
   refine ls 2 H<|si kH kV G G (hy.sps.adr (by omega)) (by omega)<|sd ((aU Fm kV rfl S hy.sps (by omega) (by omega)))<|sE ?_;clear H a;intro a H
   refine aM H rfl S Ig ?_;clear H a S;intro b10 _ a hb10 hbw10 S H
   refine aH H S (i:=0) G G G G kV G G ?_
   clear H a S;intro _ a S H
   refine k17 _ _ ?_;clear k17 K17
   have hsq:=mE.1 (hok.yr.2.2.2.2.2 n (by omega))
   refine sS H fun K18 k18=>sf tX rfl<|sl S 0 aB G G G<|sr 2 rfl<|sE ?_;clear H a;intro a H
   refine k18 _ ?_;clear k18 K18
   refine condE H rfl (fun hc3=>?_) (fun hc3=>?_)
   ·skip
    have hb0:=nY (d:=d) (k:=(y.sps.getD n Spr.zero).kind.toNat) hok n (by omega)
    have hb1:=nY (d:=d) (k:=(y.sps.getD n Spr.zero).kind.toNat) hok y.sps.length (Nat.le_refl _)
    have hb2:=Hb (y:=y) (l:=l) (d:=d) (k:=(y.sps.getD n Spr.zero).kind.toNat) 0
    have hb3:=Sq (l:=l) (k:=(y.sps.getD n Spr.zero).kind.toNat) hok (by omega) d
    have hb4:=hok.yr.2.2.2.2.1
    replace H:=H.keep [0,1,6,7,8,10,23,24,31,32,33] rfl
    refine iH 8 (by kernel_rfl) (by kernel_rfl) ?_
    replace S:=S.drew
    refine sF H<|sf tY rfl<|sl S 0 aB G G G<|sd (dM Tryz.underlying101 aW G G (by omega) (by omega))<|slm aB rfl (ownM.rd S (i:=1) (k:=(y.sps.getD n Spr.zero).kind.toNat) (j:=0) rfl (by omega) (by omega))<|sf tZ rfl<|sl S 0 aB G G G<|sd (aG G G (by unfold i64ok;omega))<|sd (dM Tryz.underlying101 aW G G (by omega) (by omega))<|sE ?_;clear H a;intro a H
    refine aZ H S (i:=1) (kk:=(y.sps.getD n Spr.zero).kind.toNat) (j:=0) G G G (by omega) (by omega) aW rfl ?_
    clear H a S;intro _ a S H
    refine k16 _ _ ?_
    replace H:=H.keep [0,1,6,7,8,23,24,31,32,33] rfl
    refine sO H<|sd (aG G G (by unfold i64ok;omega))<|sr 1 rfl<|sE ?_;clear H a;intro a H
    replace S:=S.recell (i:=1) rfl (cell':=stkC y l d (n+1) 0) (fun k9 j9 hk9 hj9=>Xv (q:=(y.sps.getD n Spr.zero).kind.toNat) hc3 (by omega) rfl k9 j9 hj9)
    exact k13 (g2-1) (n+1) a _ (by omega) (⟨by omega,by omega⟩) (S.sel [1,2,3,4,5,6] G G) (H.keep [33,0,1,6,7,8,23,24,31,32] rfl)
   refine wp_skip ?_
   refine k16 _ _ ?_
   refine sO H<|sd (aG G G (by unfold i64ok;omega))<|sr 1 rfl<|sE ?_;clear H a;intro a H
   rw [Xw hc3] at S
   exact k13 (g2-1) (n+1) a _ (by omega) (⟨by omega,by omega⟩) (S.sel [1,2,3,4,5,6] G G) (H.keep [33,0,1,6,7,8,23,24,31,32] rfl)
  refine wp_exit ?_
  refine k11 _ _ ?_
  refine sS H fun K22 k22=>sr 2 rfl<|sE ?_;clear H a;intro a H
  refine k22 _ ?_;clear k22 K22
  refine wp_seq_k fun K23 k23=>?_
  refine sS H fun K24 k24=>sr 1 rfl<|sL cQ rfl<|sr 1 rfl<|sE ?_;clear H a;intro a H
  refine k24 _ ?_;clear k24 K24
  refine wp_block ?_
  obtain rfl:n=y.sps.length:=by omega
  refine loop_st (X:=Nat×Int×Bool) (R0:=_) [0,1,6,7,8,23,24,50,51] H rfl (fun ⟨q,jb,sh⟩=>[(11,.int .i64 jb),(12,.bool sh),(52,.int .i64 (q:Int))]) (fun ⟨q,jb,sh⟩=>[ownM 101 1 (some ⟨b7,0,none⟩) 4 4 (stkC y l d y.sps.length q)]) (fun g ⟨q,jb,sh⟩=>(q≤l.length∧g+q=l.length)∧jb=jbS l d q∧sh=shS y l d q) (l.length) (0,0,false) ?_ (S.sel [0,1,2,3,4,5] G G) (H.keep [11,12,52,0,1,6,7,8,23,24,50,51] rfl) ?_
  · exact ⟨⟨by omega,by omega⟩,rfl,rfl⟩
  clear H S a
  intro g3 x3 a w3 hp S H K25 k25
  obtain ⟨q,jb,sh⟩:=x3
  dsimp only at hp S H
  obtain ⟨⟨hql,hgq⟩,hjb9,hsh9⟩:=hp
  refine sS H fun K26 k26=>sr 1 rfl<|sE ?_;clear H a;intro a H
  refine k26 _ ?_;clear k26 K26
  refine wp_seq_k fun K27 k27=>?_
  refine condL H rfl (fun hc4=>?_) (fun hc4=>?_)
  ·skip
   refine wp_skip ?_
   refine k27 _ _ ?_
   refine wp_seq_k fun K28 k28=>?_
   refine wp_block ?_
   refine aA fun K29 k29=>?_
   refine ls 2 H<|si cQ cV G G (hl.adr (by omega)) (by omega)<|sd ((aU pG cV rfl S hl (by omega) (by omega)))<|sE ?_;clear H a;intro a H
   refine aM H rfl S oU ?_;clear H a S;intro b14 _ a hb14 hbw14 S H
   refine aH H S (i:=0) G G G G cV G G ?_
   clear H a S;intro _ a S H
   refine k29 _ _ ?_;clear k29 K29
   refine wp_seq_k fun K30 k30=>?_
   have htt:=htk q (by omega);unfold tskI at htt
   refine sS H fun K31 k31=>sf dT rfl<|sl S 0 aB G G G<|sr 2 rfl<|sE ?_;clear H a;intro a H
   refine k31 _ ?_;clear k31 K31
   refine condN H rfl (fun hc5=>?_) (fun hc5=>?_)
   ·skip
    refine wp_exit ?_
    refine k28 _ _ ?_
    replace H:=H.keep [0,1,6,7,8,11,12,23,24,50,51,52] rfl
    refine sO H<|sd (aG G G (by unfold i64ok;omega))<|sr 1 rfl<|sE ?_;clear H a;intro a H
    rw [Eb (fun h=>hc5 h.1)] at S
    exact k25 (g3-1) (q+1,_,_) a _ (by omega) (⟨⟨by omega,by omega⟩,aAk hjb9 hc5,Sr hsh9 (fun h=>hc5 h.1)⟩) (S.sel [1,2,3,4,5,6] G G) (H.keep [11,12,52,0,1,6,7,8,23,24,50,51] rfl)
   refine wp_skip ?_
   refine k30 _ _ ?_
   have hjb:=Hc (l:=l) (d:=d) q
   rw [←hjb9] at hjb
   refine sS H fun K33 k33=>sr 1 rfl<|sd (aG G G (by unfold i64ok;omega))<|sr 1 rfl<|sE ?_;clear H a;intro a H
   refine k33 _ ?_;clear k33 K33
   refine sS H fun K34 k34=>sf gC rfl<|sl S 0 aB G G G<|sr 1 rfl<|sE ?_;clear H a;intro a H
   refine k34 _ ?_;clear k34 K34
   refine condE H rfl (fun hc6=>?_) (fun hc6=>?_)
   ·skip
    have hkk:=Js hok (show (l.getD q Tsk.zero).unit.toNat<y.us.length by omega)
    replace H:=H.keep [0,1,6,7,8,11,12,14,23,24,50,51,52] rfl
    replace S:=S.drew
    refine sD H fun K35 k35=>sr 2 rfl<|sf fC rfl<|sf cS rfl<|sl S 3 dZ G G G<|sf eI rfl<|sl S 0 aB G G G<|sI cX dC G G (hy.us.adr (by omega)) (by omega) (by omega)<|sp tW rfl<|slm aB rfl (hy.us.rd S (by omega) (by omega))<|sr 1 rfl<|sE ?_;clear H a;intro a H
    refine k35 _ ?_;clear k35 K35
    have hb1:=nY (d:=d) (k:=(y.us.getD (l.getD q Tsk.zero).unit.toNat Unt.zero).kind.toNat) hok y.sps.length (Nat.le_refl _)
    have hb2:=Hb (y:=y) (l:=l) (d:=d) (k:=(y.us.getD (l.getD q Tsk.zero).unit.toNat Unt.zero).kind.toNat) q
    have hb3:=Sq (l:=l) (k:=(y.us.getD (l.getD q Tsk.zero).unit.toNat Unt.zero).kind.toNat) hok (by omega) d
    have hb4:=hok.yr.2.2.2.2.1
    replace H:=H.keep [0,1,6,7,8,11,12,15,23,24,50,51,52] rfl
    refine aA fun K36 k36=>?_
    refine ls 5 H<|sr 1 rfl<|sd (dM Tryz.underlying101 aW G G (by omega) (by omega))<|slm aB rfl (ownM.rd S (i:=1) (k:=(y.us.getD (l.getD q Tsk.zero).unit.toNat Unt.zero).kind.toNat) (j:=0) rfl (by omega) (by omega))<|sd (aS G G (by unfold i64ok;omega))<|sd (dM Tryz.underlying101 aW G G (by omega) (by omega))<|sE ?_;clear H a;intro a H
    refine aZ H S (i:=1) (kk:=(y.us.getD (l.getD q Tsk.zero).unit.toNat Unt.zero).kind.toNat) (j:=0) G G G (by omega) (by omega) aW rfl ?_
    clear H a S;intro _ a S H
    refine k36 _ _ ?_;clear k36 K36
    replace S:=S.recell (i:=1) rfl (cell':=stkC y l d y.sps.length (q+1)) (fun k9 j9 hk9 hj9=>Xx (q:=(y.us.getD (l.getD q Tsk.zero).unit.toNat Unt.zero).kind.toNat) ⟨by omega,hc6⟩ (show tkK y l q=_ by unfold tkK;omega) rfl k9 j9 hj9)
    replace H:=H.keep [0,1,6,7,8,11,12,15,23,24,50,51,52] rfl
    refine sO H<|sr 2 rfl<|sg 4 1 81 85 false G G (fun hg2=>sy hg2<|sr 1 rfl<|sy hg2<|sd (dM Tryz.underlying101 aW G G (by omega) (by omega))<|sy hg2<|slm aB rfl (ownM.rd S (i:=1) (k:=(y.us.getD (l.getD q Tsk.zero).unit.toNat Unt.zero).kind.toNat) (j:=0) rfl (by omega) (by omega))<|sy hg2<|sr 1 rfl<|sz 4 G G G)<|so G G G<|sr 1 rfl<|sE ?_;clear H a;intro a H
    refine k28 _ _ ?_
    replace H:=H.keep [0,1,6,7,8,11,12,23,24,50,51,52] rfl
    refine sO H<|sd (aG G G (by unfold i64ok;omega))<|sr 1 rfl<|sE ?_;clear H a;intro a H
    exact k25 (g3-1) (q+1,_,_) a _ (by omega) (⟨⟨by omega,by omega⟩,xJ hjb9 (by omega),Ss (q:=(y.us.getD (l.getD q Tsk.zero).unit.toNat Unt.zero).kind.toNat) hsh9 ⟨by omega,hc6⟩ (show tkK y l q=_ by unfold tkK;omega) rfl⟩) (S.sel [1,2,3,4,5,6] G G) (H.keep [11,12,52,0,1,6,7,8,23,24,50,51] rfl)
   skip
   refine wp_skip ?_
   refine k28 _ _ ?_
   refine sO H<|sd (aG G G (by unfold i64ok;omega))<|sr 1 rfl<|sE ?_;clear H a;intro a H
   rw [Eb (fun h=>hc6 h.2)] at S
   exact k25 (g3-1) (q+1,_,_) a _ (by omega) (⟨⟨by omega,by omega⟩,xJ hjb9 (by omega),Sr hsh9 (fun h=>hc6 h.2)⟩) (S.sel [1,2,3,4,5,6] G G) (H.keep [11,12,52,0,1,6,7,8,23,24,50,51] rfl)
  refine wp_exit ?_
  refine k23 _ _ ?_
  refine wp_block ?_
  obtain rfl:q=l.length:=by omega
  subst hjb9
  subst hsh9
  replace H:=H.keep [0,1,6,7,8,11,12,23,24] rfl
  refine sS H fun K40 k40=>sr 3 rfl<|sf fC rfl<|sf tU rfl<|sl S 2 aB G G G<|sr 2 rfl<|sE ?_;clear H a;intro a H
  refine k40 _ ?_;clear k40 K40
  refine condL H rfl (fun hc7=>?_) (fun hc7=>?_)
  ·skip
   replace H:=H.keep [8] rfl
   refine sS H fun K41 k41=>sr 3 rfl<|sE ?_;clear H a;intro a H
   refine k41 _ ?_;clear k41 K41
   refine wp_ret ?_
   refine ret2 (fn:=Tryz.f35) rfl H G G ?_
   rw [mD (show d<y.days.toNat by omega) hfl (by rw [uL (by omega)];decide),uL (by omega)]
   exact ⟨rfl,(S.sel [2,3,4,5] G G)⟩
  refine sS H fun K42 k42=>sr 2 rfl<|sE ?_;clear H a;intro a H
  refine k42 _ ?_;clear k42 K42
  refine aT H rfl (fun hc8=>?_) (fun hc8=>?_)
  ·skip
   try simp only [o1,o2,o3,o4,o5,o6,o7,o8,o9,oa] at hc8
   refine sS H fun K43 k43=>sr 3 rfl<|sE ?_;clear H a;intro a H
   refine k43 _ ?_;clear k43 K43
   refine wp_ret ?_
   refine ret2 (fn:=Tryz.f35) rfl H G G ?_
   rw [mD (show d<y.days.toNat by omega) hfl (by rw [uM (by omega) hc8];decide),uM (by omega) hc8]
   exact ⟨rfl,(S.sel [2,3,4,5] G G)⟩
  try simp only [o1,o2,o3,o4,o5,o6,o7,o8,o9,oa] at hc8
  replace H:=H.keep [0,1,6,7,8,23,24] rfl
  refine aA fun K44 k44=>?_
  refine ls 6 H<|sr 4 rfl<|si aO aW G G (ownM.adr S (i:=1) rfl (by omega)) (by omega)<|slm aB rfl (ownM.rd S (i:=1) (k:=d) (j:=0) rfl (by omega) (by omega))<|sE ?_;clear H a;intro a H
  refine aC H G G Tryz.func51 G G (Mp y cb bl bs bk (d:Int) (outY y l d y.us.length) _ _ ((S.sel [2,3,4,5] G G).startR) (hy.nowR (S.sel [2,3,4,5] G G)) hyb hok (rK hok (Nat.le_refl _))) ?_;clear H a
  rintro _ _ a ⟨rfl,S2⟩ H
  replace S:=St.callR (M:=[_,_,_,_]) (S.sel [2,3,4,5,0,1] G G) S2;clear S2
  refine ls 2 H<|sr 2 rfl<|sE ?_;clear H a;intro a H
  refine k44 _ _ ?_;clear k44 K44
  refine aT H rfl (fun hc9=>?_) (fun hc9=>?_)
  ·skip
   try simp only [o1,o2,o3,o4,o5,o6,o7,o8,o9,oa] at hc9
   replace H:=H.keep [8] rfl
   refine sS H fun K45 k45=>sr 3 rfl<|sE ?_;clear H a;intro a H
   refine k45 _ ?_;clear k45 K45
   refine wp_ret ?_
   refine ret2 (fn:=Tryz.f35) rfl H G G ?_
   rw [mD (show d<y.days.toNat by omega) hfl (by rw [uN (by omega) hc8 hc9];decide),uN (by omega) hc8 hc9]
   exact ⟨rfl,(S.sel [0,1,2,3] G G)⟩
  try simp only [o1,o2,o3,o4,o5,o6,o7,o8,o9,oa] at hc9
  replace H:=H.keep [0,1,6,7,8,23,24] rfl
  refine aA fun K46 k46=>?_
  refine ls 5 H<|sr 3 rfl<|si aO aW G G (ownM.adr S (i:=5) rfl (by omega)) (by omega)<|slm aB rfl (ownM.rd S (i:=5) (k:=d) (j:=0) rfl (by omega) (by omega))<|sE ?_;clear H a;intro a H
  refine aC H G G Tryz.func52 G G (He y cb bl bs bk (outY y l d y.us.length) _ _ ((S.sel [0,1,2,3] G G).startR) (hy.nowR (S.sel [0,1,2,3] G G)) hyb hok (rK hok (Nat.le_refl _))) ?_;clear H a
  rintro _ _ a ⟨rfl,S2⟩ H
  replace S:=St.callR (M:=[_,_,_,_]) (S.sel [0,1,2,3,4,5] G G) S2;clear S2
  refine ls 2 H<|sr 2 rfl<|sE ?_;clear H a;intro a H
  refine k46 _ _ ?_;clear k46 K46
  refine aT H rfl (fun hc10=>?_) (fun hc10=>?_)
  ·skip
   try simp only [o1,o2,o3,o4,o5,o6,o7,o8,o9,oa] at hc10
   replace H:=H.keep [8] rfl
   refine sS H fun K47 k47=>sr 3 rfl<|sE ?_;clear H a;intro a H
   refine k47 _ ?_;clear k47 K47
   refine wp_ret ?_
   refine ret2 (fn:=Tryz.f35) rfl H G G ?_
   rw [mD (show d<y.days.toNat by omega) hfl (by rw [Be (by omega) hc8 hc9 hc10];decide),Be (by omega) hc8 hc9 hc10]
   exact ⟨rfl,(S.sel [0,1,2,3] G G)⟩
  try simp only [o1,o2,o3,o4,o5,o6,o7,o8,o9,oa] at hc10
  refine wp_skip ?_
  refine k9 _ _ ?_
  refine sO H<|sd (aG G G (by unfold i64ok;omega))<|sr 1 rfl<|sE ?_;clear H a;intro a H
  rw [Mj] at S
  exact k6 (g1-1) (d+1) a _ (by omega) (⟨⟨by omega,by omega⟩,Ec hfl (Bf (by omega) hc8 hc9 hc10)⟩) (S.sel [4,5,0,1,2,3] G G) (H.keep [24,0,1,6,7,23] rfl)
 refine wp_exit ?_
 refine k4 _ _ ?_
 refine sS H fun K49 k49=>sr 2 rfl<|sE ?_;clear H a;intro a H
 refine k49 _ ?_;clear k49 K49
 refine wp_ret ?_
 refine ret2 (fn:=Tryz.f35) rfl H G G ?_
 rw [xI (fun q hq=>hfl q (by omega))]
 exact ⟨rfl,(S.sel [2,3,4,5] G G)⟩
theorem aBr (y:Yr) (l:List Tsk) (LA:Option Addr) (lc:Nat) (w:World) (hy:YIn w noF y) (hyb:YBd y) (hl:InS w noF 3 LA l.length (cB l)) (hln:l.length≤9223372036854775807) :
    Calls Tryz.prog 11 [.agg [.int .i64 y.days,.int .i64 y.pl,.slice y.PA y.ps.length y.pc,.slice y.XA y.xs.length y.xc,.slice y.BA y.pe.length y.bc,.int .i64 y.limit,.bool y.help,.slice y.QA y.prs.length y.qc,.slice y.VA y.us.length y.vc,.int .i64 y.crew,.slice y.SA y.sps.length y.sc].toArray,.slice LA l.length lc].toArray w (Ret (fun v w'=>(taskE y l≠0∧v = .tuple #[.slice none 0 0,.int .i64 (taskE y l)]∧St w noF [] w')∨(taskE y l=0∧∃ A c,v = .tuple #[.slice A y.days.toNat c,.int .i64 0]∧St w noF [ownM 3 1 A y.days.toNat c (setsV y l y.us.length)] w'))):=by
 refine enter Tryz.func11 rfl Tryz.ntmps11 rfl (fun a H=>?_)
 have S:=St.start w
 refine aA fun K1 k1=>?_
 refine aP H rfl S G G ?_;clear H a S;intro b2 _ a hb2 hbw2 S H
 refine ls 2 H<|sr 2 rfl<|sE ?_;clear H a;intro a H
 refine k1 _ _ ?_;clear k1 K1
 refine wp_seq_k fun K2 k2=>?_
 refine aA fun K3 k3=>?_
 refine ls 2 H<|sd ((aD bJ bG rfl S (i:=0) G G))<|sr 1 rfl<|sE ?_;clear H a;intro a H
 refine aC H G G Tryz.func9 G G (xL y l LA lc _ (hy.now S) hyb (hl.now S) hln) ?_;clear H a
 rintro _ _ a ⟨rfl,S2⟩ H
 replace S:=S.call S2;clear S2
 refine ls 1 H<|sr 1 rfl<|sE ?_;clear H a;intro a H
 refine k3 _ _ ?_;clear k3 K3
 refine sS H fun K4 k4=>sr 2 rfl<|sE ?_;clear H a;intro a H
 refine k4 _ ?_;clear k4 K4
 refine condN H rfl (fun hc1=>?_) (fun hc1=>?_)
 ·skip
  replace H:=H.keep [6] rfl
  refine sS H fun K5 k5=>sr 3 rfl<|sE ?_;clear H a;intro a H
  refine k5 _ ?_;clear k5 K5
  refine wp_ret ?_
  refine ret2 (fn:=Tryz.f11) rfl H G G ?_
  exact .inl ⟨hc1,rfl,(S.sel [] G G)⟩
 have hte:taskE y l=0:=by omega
 have htk0:=uH hte
 have hok:=oQ htk0.1
 have htk:∀ k,k<l.length→tskI y (l.getD k Tsk.zero):=fun k hk=>Bd (htk0.2.2 k hk)
 refine wp_skip ?_
 refine k2 _ _ ?_
 refine aA fun K6 k6=>?_
 refine ls 1 H<|sd ((aD bJ bG rfl S (i:=0) G G))<|sE ?_;clear H a;intro a H
 refine aC H G G Tryz.func32 G G (Bg y _) ?_;clear H a
 rintro _ _ a ⟨cb,bl,bs,bk,rfl,S2⟩ H
 replace S:=S.call S2;clear S2
 refine ls 1 H<|sr 1 rfl<|sE ?_;clear H a;intro a H
 refine aC H G G Tryz.func33 G G (Jr y cb bl bs bk l LA lc _ _ ((S.sel [0,1,2,3] G G).startR) (hy.nowR (S.sel [0,1,2,3] G G)) hyb hok (hl.nowR (S.sel [0,1,2,3] G G)) hln htk) ?_;clear H a
 rintro _ _ a ⟨A6,c6,rfl,S2⟩ H
 replace S:=St.callR (M:=[_,_,_,_]) (S.sel [0,1,2,3,4] G G) S2;clear S2
 refine ls 2 H<|sr 2 rfl<|sE ?_;clear H a;intro a H
 refine k6 _ _ ?_;clear k6 K6
 refine wp_ret ?_
 refine ret2 (fn:=Tryz.f11) rfl H G G ?_
 exact .inr ⟨hte,A6,c6,rfl,(S.sel [0] G G)⟩
theorem Tc (y:Yr) (l:List Tsk) (LA:Option Addr) (lc:Nat) (w:World) (hy:YIn w noF y) (hyb:YBd y) (hl:InS w noF 3 LA l.length (cB l)) (hln:l.length≤9223372036854775807) :
    Calls Tryz.prog 14 [.agg [.int .i64 y.days,.int .i64 y.pl,.slice y.PA y.ps.length y.pc,.slice y.XA y.xs.length y.xc,.slice y.BA y.pe.length y.bc,.int .i64 y.limit,.bool y.help,.slice y.QA y.prs.length y.qc,.slice y.VA y.us.length y.vc,.int .i64 y.crew,.slice y.SA y.sps.length y.sc].toArray,.slice LA l.length lc].toArray w (Ret (fun v w'=>(taskE y l≠0∧v = .tuple #[.int .i64 0,.int .i64 0,.int .i64 (taskE y l)]∧St w noF [] w')∨(taskE y l=0∧v = .tuple #[.int .i64 (judgeV y l).1,.int .i64 (judgeV y l).2,.int .i64 0]∧St w noF [] w'))):=by
 refine enter Tryz.func14 rfl Tryz.ntmps14 rfl (fun a H=>?_)
 have S:=St.start w
 refine aA fun K1 k1=>?_
 refine aP H rfl S G G ?_;clear H a S;intro b2 _ a hb2 hbw2 S H
 refine ls 3 H<|sr 3 rfl<|sE ?_;clear H a;intro a H
 refine k1 _ _ ?_;clear k1 K1
 refine wp_seq_k fun K2 k2=>?_
 refine aA fun K3 k3=>?_
 refine ls 2 H<|sd ((aD bJ bG rfl S (i:=0) G G))<|sr 1 rfl<|sE ?_;clear H a;intro a H
 refine aC H G G Tryz.func9 G G (xL y l LA lc _ (hy.now S) hyb (hl.now S) hln) ?_;clear H a
 rintro _ _ a ⟨rfl,S2⟩ H
 replace S:=S.call S2;clear S2
 refine ls 1 H<|sr 1 rfl<|sE ?_;clear H a;intro a H
 refine k3 _ _ ?_;clear k3 K3
 replace H:=H.keep [1,2,6] rfl
 refine sS H fun K4 k4=>sr 2 rfl<|sE ?_;clear H a;intro a H
 refine k4 _ ?_;clear k4 K4
 refine condN H rfl (fun hc1=>?_) (fun hc1=>?_)
 ·skip
  refine sS H fun K5 k5=>sr 4 rfl<|sE ?_;clear H a;intro a H
  refine k5 _ ?_;clear k5 K5
  refine wp_ret ?_
  refine ret3 (fn:=Tryz.f14) rfl H G G G ?_
  exact .inl ⟨hc1,rfl,(S.sel [] G G)⟩
 have hte:taskE y l=0:=by omega
 have htk0:=uH hte
 have hok:=oQ htk0.1
 have htk:∀ k,k<l.length→tskI y (l.getD k Tsk.zero):=fun k hk=>Bd (htk0.2.2 k hk)
 refine wp_skip ?_
 refine k2 _ _ ?_
 replace H:=H.keep [1,2] rfl
 refine aA fun K6 k6=>?_
 refine ls 1 H<|sd ((aD bJ bG rfl S (i:=0) G G))<|sE ?_;clear H a;intro a H
 refine aC H G G Tryz.func32 G G (Bg y _) ?_;clear H a
 rintro _ _ a ⟨cb,bl,bs,bk,rfl,S2⟩ H
 replace S:=S.call S2;clear S2
 refine ls 1 H<|sr 1 rfl<|sE ?_;clear H a;intro a H
 refine aC H G G Tryz.func35 G G (sQ y cb bl bs bk l LA lc _ _ ((S.sel [0,1,2,3] G G).startR) (hy.nowR (S.sel [0,1,2,3] G G)) hyb hok (hl.nowR (S.sel [0,1,2,3] G G)) hln htk htk0.2.1) ?_;clear H a
 rintro _ _ a ⟨rfl,S2⟩ H
 replace S:=St.callR (M:=[_,_,_,_]) (S.sel [0,1,2,3,4] G G) S2;clear S2
 refine ls 5 H<|sr 5 rfl<|sE ?_;clear H a;intro a H
 refine k6 _ _ ?_;clear k6 K6
 replace H:=H.keep [4,5] rfl
 refine sS H fun K7 k7=>sr 5 rfl<|sE ?_;clear H a;intro a H
 refine k7 _ ?_;clear k7 K7
 refine wp_ret ?_
 refine ret3 (fn:=Tryz.f14) rfl H G G G ?_
 exact .inr ⟨hte,rfl,(S.sel [] G G)⟩
end
section
theorem jM {l:List Use} {m k:Nat} (hk:k<m):(l.take m).getD k Use.zero=l.getD k Use.zero:=by
  rw [List.getD_eq_getElem?_getD,List.getD_eq_getElem?_getD,List.getElem?_take_of_lt hk]
theorem rL {p:Part} {l:List Use} {m:Nat}:∀ k,k≤m→fwd p (l.take m) k=fwd p l k:=by
  intro k
  induction k with
  | zero=>intro _;rfl
  | succ k ih=>
    intro hk
    rw [fwd,fwd,jM (show k<m by omega),ih (by omega)]
theorem zI {l:List Use} {m:Nat}:∀ k,k≤m→sumT (l.take m) k=sumT l k:=by
  intro k
  induction k with
  | zero=>intro _;rfl
  | succ k ih=>
    intro hk
    rw [sumT,sumT,jM (show k<m by omega),ih (by omega)]
theorem pV {l:List Use} {m k:Nat} (hk:k≤m):prevD (l.take m) k=prevD l k:=by
  cases k with
  | zero=>rfl
  | succ k=>show ((l.take m).getD k Use.zero).day=_;rw [jM (by omega)];rfl
theorem Ei {n:Nat} {l:List Use} {m k:Nat} (hk:k≤m) (h:eY n l k=true):eY n (l.take m) k=true:=by
  unfold eY at *
  rw [List.all_eq_true] at *
  intro i hi
  have hi':=List.mem_range.1 hi
  rw [pV (by omega),jM (by omega)]
  exact h i hi
theorem Mq {n:Nat} {l:List Use} {k j:Nat} (hj:j≤k) (h:eY n l k=true):eY n l j=true:=by
  unfold eY at *
  rw [List.all_eq_true] at *
  intro i hi
  have hi':=List.mem_range.1 hi
  exact h i (List.mem_range.2 (by omega))
theorem Mr {p:Part} {l:List Use} (h:PartOk p l):bY p l=0:=by
  unfold bY
  rw [if_pos h.hdr,if_pos h.rates,if_pos h.len,if_pos h.uses]
theorem Yf {p:Part} {l:List Use} (h:PartOk p l) {m:Nat} (hm:m≤l.length):PartOk p (l.take m):=by
  have e:(l.take m).length=m:=by rw [List.length_take];omega
  refine ⟨h.hdr,h.rates,?_,?_⟩
  · have:=h.len;omega
  · rw [e];exact Ei (Nat.le_refl _) (Mq hm h.uses)
theorem Td {p:Part} {l:List Use} (h:PartOk p l) {k:Nat} (hk:k<l.length):(dI p (l.getD k Use.zero)).1≤(dI p (l.getD k Use.zero)).2:=by
  have hu:=h.use hk
  unfold useOk at hu
  simp only [decide_eq_true_eq] at hu
  have hr:=h.rate (k:=(l.getD k Use.zero).cls.toNat) (by omega)
  unfold iR at hr
  simp only [decide_eq_true_eq] at hr
  unfold dI
  exact Int.mul_le_mul_of_nonneg_left hr.2.1 (by omega)
theorem zJ {p:Part} {l:List Use} (h:PartOk p l) {k:Nat} (hk:k<l.length) (hf:∀ j,k<j→j<l.length→(l.getD j Use.zero).meas=false):bF p l k=fwd p l (k+1):=by
  have key:∀ d,d<l.length→(∀ j,l.length-1-d<j→j<l.length→(l.getD j Use.zero).meas=false)→bkw p l d=fwd p l (l.length-d):=by
    intro d
    induction d with
    | zero=>intro _ _;rfl
    | succ d ih=>
      intro hd hf
      have h1:=ih (by omega) fun j h1 h2=>hf j (by omega) h2
      have h2:(l.getD (l.length-1-d) Use.zero).meas=false:=hf _ (by omega) (by omega)
      have h3:=Td h (show l.length-1-d<l.length by omega)
      have e1:l.length-d=(l.length-1-d)+1:=by omega
      have e2:l.length-(d+1)=l.length-1-d:=by omega
      rw [bkw,h1,e1,e2,uE h2]
      unfold meetS addS
      refine Prod.ext ?_ ?_
      · dsimp only;omega
      · dsimp only;omega
  unfold bF
  rw [key (l.length-1-k) (by omega) (fun j h1 h2=>hf j (by omega) h2)]
  congr 1
  omega
theorem Mt {p:Part} {l:List Use} (h:PartOk p l) {m:Nat} (hm:m≤l.length) (hf:∀ j,m≤j→j<l.length→(l.getD j Use.zero).meas=false):∀ d k,k+d+1=m→bF p (l.take m) k=bF p l k:=by
  have e:(l.take m).length=m:=by rw [List.length_take];omega
  intro d
  induction d with
  | zero=>
    intro k hk
    rw [zJ h (by omega) (fun j h1 h2=>hf j (by omega) h2),zJ (Yf h hm) (by omega) (fun j h1 h2=>by omega),rL _ (by omega)]
  | succ d ih=>
    intro k hk
    have h1:=ih (k+1) (by omega)
    rw [eG (l:=l.take m) (by omega),eG (l:=l) (by omega),h1,rL _ (by omega),jM (by omega)]
theorem Mu {p:Part} {l:List Use} {m k:Nat} (hk:k<m) (a:Int):wornB p (l.take m) k a=wornB p l k a:=by
  unfold wornB
  rw [zI _ (by omega),jM hk]
end
section
def inside (a b:Int×Int):Prop:=b.1≤a.1∧a.2≤b.2
def bO (day turns cls:Int):Use:=⟨day,turns,cls,false,0,0⟩
theorem Yg {p:Part} {l:List Use} (h:PartOk p l):∀ d k,k+d+1=l.length→(bF p l k).2≤(fwd p l l.length).2:=by
  intro d
  induction d with
  | zero=>intro k hk;rw [lA (by omega)];exact Int.le_refl _
  | succ d ih=>
    intro k hk
    have h1:=ih (k+1) (by omega)
    have h2:=kO h (show k+1<l.length by omega)
    rw [eG (by omega)]
    unfold meetS
    dsimp only
    omega
theorem xM (p:Part) (l:List Use):jG p l=(fwd p l l.length).2:=by
  unfold jG
  split
  · rename_i h;rw [h];rfl
  · rfl
theorem Yh {p:Part} {l:List Use} (h:PartOk p l):∀ d k,k+d=l.length→sumT l k≤sumT l l.length:=by
  intro d
  induction d with
  | zero=>intro k hk;rw [show k=l.length by omega];exact Int.le_refl _
  | succ d ih=>
    intro k hk
    have h1:=ih (k+1) (by omega)
    have hu:=h.use (show k<l.length by omega)
    unfold useOk at hu
    simp only [decide_eq_true_eq] at hu
    rw [sumT] at h1
    omega
theorem aBs {p:Part} {l:List Use} (h:PartOk p l):∀ d k,k+d+1=l.length→(l.getD k Use.zero).day≤prevD l l.length:=by
  intro d
  induction d with
  | zero=>intro k hk;rw [show l.length=k+1 by omega];exact Int.le_refl _
  | succ d ih=>
    intro k hk
    have h1:=ih (k+1) (by omega)
    have hu:=h.use (show k+1<l.length by omega)
    unfold useOk at hu
    simp only [decide_eq_true_eq] at hu
    have:prevD l (k+1)=(l.getD k Use.zero).day:=rfl
    omega
theorem nZ {l:List Use} {u:Use}:(l++[u]).getD l.length Use.zero=u:=by
  rw [List.getD_eq_getElem?_getD,List.getElem?_append_right (Nat.le_refl _)];simp
theorem jC (l:List Use) (u:Use):(l++[u]).take l.length=l:=by simp
theorem Yi {p:Part} {l:List Use} (h:PartOk p l) {day turns cls:Int} (hl:l.length<40) (hd:prevD l l.length≤day∧day≤100000) (ht:0≤turns∧turns≤1000000) (hc:0≤cls∧cls≤(p.rates.length:Int)-1):PartOk p (l++[bO day turns cls]):=by
  refine ⟨h.hdr,h.rates,by simp;omega,?_⟩
  have e:(l++[bO day turns cls]).length=l.length+1:=by simp
  unfold eY
  rw [e,iP (n:=0),Bool.and_eq_true]
  constructor
  · rw [List.all_eq_true]
    intro i hi
    have hi':=List.mem_range.1 hi
    have h1:=h.use hi'
    have e1:prevD (l++[bO day turns cls]) i=prevD l i:=by
      have:=pV (l:=l++[bO day turns cls]) (m:=l.length) (k:=i) (by omega)
      rw [jC] at this;exact this.symm
    have e2:(l++[bO day turns cls]).getD i Use.zero=l.getD i Use.zero:=by
      have:=jM (l:=l++[bO day turns cls]) (m:=l.length) (k:=i) hi'
      rw [jC] at this;exact this.symm
    rw [e1,e2];exact h1
  · have e1:prevD (l++[bO day turns cls]) l.length=prevD l l.length:=by
      have:=pV (l:=l++[bO day turns cls]) (m:=l.length) (k:=l.length) (Nat.le_refl _)
      rw [jC] at this;exact this.symm
    rw [e1,nZ]
    unfold useOk bO
    simp only [decide_eq_true_eq]
    refine ⟨by omega,by omega,by omega,by omega,fun _=>by constructor <;> trivial⟩
theorem Yj {p:Part} {l:List Use} {day turns cls:Int} (h:IsAt p l l.length):IsAt p (l++[bO day turns cls]) (l++[bO day turns cls]).length:=by
  have e:(l++[bO day turns cls]).length=l.length+1:=by simp
  rw [e]
  refine ⟨by omega,fun k hk=>?_,fun h=>by omega⟩
  by_cases hk2:k<l.length
  · have h1:=h.good k hk2
    have e2:=jM (l:=l++[bO day turns cls]) (m:=l.length) (k:=k) hk2
    have e3:=rL (p:=p) (l:=l++[bO day turns cls]) (m:=l.length) (k+1) (by omega)
    rw [jC] at e2 e3
    unfold fits at *
    rw [←e2,←e3];exact h1
  · rw [show k=l.length by omega]
    refine rB ?_
    rw [nZ];rfl
theorem Ej {p:Part} {l:List Use} (h:PartOk p l) (hA:IsAt p l l.length) {day turns cls:Int} (hl:l.length<40) (hd:prevD l l.length≤day∧day≤100000) (ht:0≤turns∧turns≤1000000) (hc:0≤cls∧cls≤(p.rates.length:Int)-1)
    (h1:day≤p.age) (h2:sumT l l.length≤p.turns) (h3:jG p l≤p.worn*1000000) :
    (bI p (l++[bO day turns cls]) Prod.snd).2=0∧((bI p (l++[bO day turns cls]) Prod.snd).1<0↔sumT l l.length+turns≤p.turns∧jG p l+turns*(p.rates.getD cls.toNat (0,0)).2≤p.worn*1000000):=by
  have hok:=Yi h hl hd ht hc
  have hW:wearE p (l++[bO day turns cls])=0:=lY (Mr hok) (Yj hA)
  rw [aEi _ hW]
  refine ⟨rfl,?_⟩
  dsimp only
  have e:(l++[bO day turns cls]).length=l.length+1:=by simp
  have early:∀ k,k<l.length→wornB p (l++[bO day turns cls]) k (Prod.snd (bF p (l++[bO day turns cls]) k))=false:=by
    intro k hk
    have t1:=Mu (p:=p) (l:=l++[bO day turns cls]) (m:=l.length) hk (Prod.snd (bF p (l++[bO day turns cls]) k))
    have t2:=Mt hok (m:=l.length) (by omega) (fun j h4 h5=>by rw [show j=l.length by omega,nZ];rfl) (l.length-1-k) k (by omega)
    rw [jC] at t1 t2
    rw [←t1,←t2]
    have b1:=Yg h (l.length-1-k) k (by omega)
    have b2:=Yh h (l.length-1-k) (k+1) (by omega)
    have b3:=aBs h (l.length-1-k) k (by omega)
    rw [xM] at h3
    unfold wornB
    simp only [Bool.or_eq_false_iff,decide_eq_false_iff_not]
    omega
  have f1:fwd p (l++[bO day turns cls]) l.length=fwd p l l.length:=by
    have:=rL (p:=p) (l:=l++[bO day turns cls]) (m:=l.length) l.length (Nat.le_refl _)
    rw [jC] at this;exact this.symm
  have s1:sumT (l++[bO day turns cls]) l.length=sumT l l.length:=by
    have:=zI (l:=l++[bO day turns cls]) (m:=l.length) l.length (Nat.le_refl _)
    rw [jC] at this;exact this.symm
  have last:wornB p (l++[bO day turns cls]) l.length (Prod.snd (bF p (l++[bO day turns cls]) l.length))=!(decide (sumT l l.length+turns≤p.turns)&&decide (jG p l+turns*(p.rates.getD cls.toNat (0,0)).2≤p.worn*1000000)):=by
    rw [lA (by omega),e,uE (by rw [nZ];rfl),f1]
    unfold wornB
    rw [sumT,s1,nZ,xM]
    rw [Bool.eq_iff_iff]
    simp only [Bool.or_eq_true,decide_eq_true_eq,Bool.not_eq_true',Bool.and_eq_false_iff,decide_eq_false_iff_not]
    unfold addS dI bO
    dsimp only
    omega
  rcases mT (fun k=>wornB p (l++[bO day turns cls]) k (Prod.snd (bF p (l++[bO day turns cls]) k))) (l++[bO day turns cls]).length with ⟨g1,g2⟩|⟨k,hk,g1,g2,g3⟩
  · rw [g1]
    have g4:=g2 l.length (by omega)
    rw [last] at g4
    simp only [Bool.not_eq_false',Bool.and_eq_true,decide_eq_true_eq] at g4
    exact ⟨fun _=>g4,fun _=>by decide⟩
  · rw [g1]
    constructor
    · intro hlt;omega
    · intro hle
      exfalso
      rcases Nat.lt_or_ge k l.length with h5|h5
      · rw [early k h5] at g2;cases g2
      · rw [show k=l.length by omega,last,decide_eq_true hle.1,decide_eq_true hle.2] at g2
        cases g2
end
section
theorem Te {p:Part} {l:List Use} (h:PartOk p l) (hA:IsAt p l l.length) {day turns cls:Int} (hl:l.length<40) (hd:prevD l l.length≤day∧day≤100000) (ht:0≤turns∧turns≤1000000) (hc:0≤cls∧cls≤(p.rates.length:Int)-1)
    (h1:day≤p.age) (h2:sumT l l.length≤p.turns) (h3:jG p l≤p.worn*1000000):bydB p (l++[bO day turns cls])=!(decide (sumT l l.length+turns≤p.turns)&&decide (jG p l+turns*(p.rates.getD cls.toNat (0,0)).2≤p.worn*1000000)):=by
  obtain ⟨e1,e2⟩:=Ej h hA hl hd ht hc h1 h2 h3
  unfold bydB
  rw [decide_eq_true e1,Bool.not_true,Bool.false_or]
  by_cases h9:sumT l l.length+turns≤p.turns∧jG p l+turns*(p.rates.getD cls.toNat (0,0)).2≤p.worn*1000000
  · have:=e2.2 h9
    rw [decide_eq_true h9.1,decide_eq_true h9.2,decide_eq_false (by omega)];rfl
  · have h8:¬ (bI p (l++[bO day turns cls]) Prod.snd).1<0:=fun h=>h9 (e2.1 h)
    rw [decide_eq_true (p:=0≤_) (by omega)]
    by_cases h7:sumT l l.length+turns≤p.turns
    · rw [decide_eq_true h7,decide_eq_false (fun h=>h9 ⟨h7,h⟩)];rfl
    · rw [decide_eq_false h7];rfl
theorem sR {p:Part} {l:List Use} (h:∀ k,k<l.length→(l.getD k Use.zero).meas=false):IsAt p l l.length:=
  ⟨Nat.le_refl _,fun k hk=>rB (h k hk),fun h=>absurd h (Nat.lt_irrefl _)⟩
def exPr:List Prm:=[⟨0,2,0,0,false⟩,⟨0,2,2,3,false⟩]
def exPt:Part:=⟨[(1,2)],1,1000000,1000⟩
def exU0 (RA:Option Addr) (rc:Nat):Unt:=⟨0,2,0,[(1,2)],RA,rc,1,1000000,1000,[],none,0,0,400000,0,0⟩
def exU1 (RA:Option Addr) (rc:Nat):Unt:=⟨1,2,0,[(1,2)],RA,rc,1,1000000,1000,[],none,0,0,1000,0,1⟩
def exU (RA:Option Addr) (rc:Nat):List Unt:=[exU0 RA rc,exU1 RA rc]
def exYr (PA:Option Addr) (pc:Nat) (XA:Option Addr) (xc:Nat) (BA:Option Addr) (bc:Nat) (QA:Option Addr) (qc:Nat) (VA:Option Addr) (vc:Nat) (RA:Option Addr) (rc:Nat):Yr:=⟨4,4,w8exW,PA,pc,exX,XA,xc,w8exP,BA,bc,6,false,exPr,QA,qc,exU RA rc,VA,vc,1,[],none,0⟩
section
variable {PA:Option Addr} {pc:Nat} {XA:Option Addr} {xc:Nat} {BA:Option Addr} {bc:Nat} {QA:Option Addr} {qc:Nat} {VA:Option Addr} {vc:Nat} {RA:Option Addr} {rc:Nat}
theorem Tf:keptE 4 w8exW exX [] exPr=0:=by decide +kernel
theorem Tg (k:Nat) (hk:k<2):untB w8exW (exU RA rc) k=true:=by
  rw [kQ]
  match k,hk with
  | 0,_=>exact ⟨sM.2 ⟨⟨1,by decide,by decide,rfl⟩,fun k hk=>absurd hk (Nat.not_lt_zero k)⟩,(show untI (exU0 none 0) by decide),lY (show bY exPt []=0 by decide +kernel) (sR fun q hq=>absurd hq (Nat.not_lt_zero q))⟩
  | 1,_=>exact ⟨sM.2 ⟨⟨2,by decide,by decide,rfl⟩,fun k hk=>by
      have:k=0:=by omega
      subst this
      exact (by decide:(0:Int)≠1)⟩,(show untI (exU1 none 0) by decide),lY (show bY exPt []=0 by decide +kernel) (sR fun q hq=>absurd hq (Nat.not_lt_zero q))⟩
theorem Ek:yearE (exYr PA pc XA xc BA bc QA qc VA vc RA rc)=0:=
  wY Tf (show yrI (exYr none 0 none 0 none 0 none 0 none 0 none 0) by unfold yrI;decide +kernel) (by show ¬ 6<2;decide) (bQ.2 fun k hk=>Tg k hk)
end
theorem sT (l:List Use) {day turns:Int} {b:Bool} (h:bY exPt l=0) (hm:∀ k,k<l.length→(l.getD k Use.zero).meas=false) (hl:l.length<40) (hd:prevD l l.length≤day∧day≤1000) (ht:0≤turns∧turns≤1000000)
    (h2:sumT l l.length≤1000000) (h3:jG exPt l≤1000000) (hb:b=(decide (sumT l l.length+turns≤1000000)&&decide (jG exPt l+turns*2≤1000000))):bydB exPt (l++[bO day turns 0])=!b:=by
  rw [Te (kB h) (sR hm) hl (by omega) ht (by decide) (by show day≤1000;omega) (by show _≤(1000000:Int);omega) (by show _≤(1:Int)*1000000;omega),hb]
  rfl
def us1 (d:Int) (t:Int):Use:=⟨d,t,0,false,0,0⟩
section
variable {RA:Option Addr} {rc:Nat} {J:Nat→Int}
theorem m1 {P:Use→Prop} {u:Use} (h:P u):∀ k,k<[u].length→P ([u].getD k Use.zero):=fun k hk=>by
  have:k=0:=by simp at hk;omega
  subst this
  exact h
theorem m2 {P:Use→Prop} {u v:Use} (h:P u) (h':P v):∀ k,k<[u,v].length→P ([u,v].getD k Use.zero):=fun k hk=>by
  have:k=0∨k=1:=by simp at hk;omega
  rcases this with rfl|rfl
  · exact h
  · exact h'
theorem byd0 (t:Int) (ht:t=400000∨t=1000):bydB exPt [bO 0 t 0]=false:=by
  rcases ht with rfl|rfl
  · exact sT [] (b:=true) (by decide +kernel) (fun q hq=>absurd hq (Nat.not_lt_zero q)) (by decide) (by decide) (by decide) (by decide) (by decide) (by decide +kernel)
  · exact sT [] (b:=true) (by decide +kernel) (fun q hq=>absurd hq (Nat.not_lt_zero q)) (by decide) (by decide) (by decide) (by decide) (by decide) (by decide +kernel)
theorem byd1 (d:Int) (hd:0≤d∧d≤1000):bydB exPt [us1 0 400000,bO d 400000 0]=true:=
  sT [us1 0 400000] (b:=false) (by decide +kernel) (m1 (P:=fun u=>u.meas=false) rfl) (by decide) hd (by decide) (by decide +kernel) (by decide +kernel) (by decide +kernel)
theorem byd2 (d:Int) (hd:0≤d∧d≤1000):bydB exPt [us1 0 1000,bO d 1000 0]=false:=
  sT [us1 0 1000] (b:=true) (by decide +kernel) (m1 (P:=fun u=>u.meas=false) rfl) (by decide) hd (by decide) (by decide +kernel) (by decide +kernel) (by decide +kernel)
theorem byd3:bydB exPt [us1 0 1000,us1 1 1000,bO 2 1000 0]=false:=
  sT [us1 0 1000,us1 1 1000] (b:=true) (by decide +kernel) (m2 (P:=fun u=>u.meas=false) G G) (by decide) (by decide) (by decide) (by decide +kernel) (by decide +kernel) (by decide +kernel)
theorem byd4:bydB exPt [us1 0 1000,us1 2 1000,bO 3 1000 0]=false:=
  sT [us1 0 1000,us1 2 1000] (b:=true) (by decide +kernel) (m2 (P:=fun u=>u.meas=false) G G) (by decide) (by decide) (by decide) (by decide +kernel) (by decide +kernel) (by decide +kernel)
theorem pW {u:Unt} {s:LSt} {j:Int} {d:Nat} {b b':Bool} (h:bydB u.part (s.uses++[useAt u d s.born])=b) (h2:b'=((decide (j=0)&&certN u s j d)&&!b)):runN u s j d=b':=by unfold runN;rw [h,h2]
theorem xN {u:Unt} {s:LSt} {j:Int} {d:Nat} (h:runN u s j d=true) (hr:renw j=false):stepL u s j d=⟨s.uses++[useAt u d s.born],s.born,seenN s j d⟩:=by unfold stepL;rw [hr,h];rfl
theorem Th {u:Unt} {s:LSt} {j:Int} {d:Nat} (h:runN u s j d=false) (hr:renw j=false):stepL u s j d=⟨s.uses,s.born,seenN s j d⟩:=by unfold stepL;rw [hr,h];rfl
theorem aEq (h:J 0=0):runB' (exU0 RA rc) J 0=true:=by
  show runN (exU0 RA rc) ⟨[],0,0⟩ (J 0) 0=true
  rw [h];exact pW (byd0 400000 (.inl rfl)) rfl
theorem aFe (h:J 0=0):lifeS (exU0 RA rc) J 1=⟨[us1 0 400000],0,0⟩:=by
  show stepL (exU0 RA rc) ⟨[],0,0⟩ (J 0) 0=_
  have h1:runN (exU0 RA rc) ⟨[],0,0⟩ (J 0) 0=true:=aEq (RA:=RA) (rc:=rc) h
  rw [h] at h1 ⊢
  rw [xN h1 (by decide)];rfl
theorem Yk {d:Nat} (hd:d≤3) (s j:Int):runN (exU0 RA rc) ⟨[us1 0 400000],0,s⟩ j d=false:=
  pW (b:=true) (by
    show bydB exPt [us1 0 400000,bO ((d:Int)-0) 400000 0]=true
    rw [Int.sub_zero];exact byd1 d (by omega)) (by simp)
theorem aEr {d:Nat} (hd:d≤3) (h1:lifeS (exU0 RA rc) J d=⟨[us1 0 400000],0,0⟩) (h:J d=0):lifeS (exU0 RA rc) J (d+1)=⟨[us1 0 400000],0,0⟩:=by
  show stepL (exU0 RA rc) (lifeS (exU0 RA rc) J d) (J d) d=_
  rw [h1,h,Th (Yk hd 0 0) (by decide)];rfl
theorem z0 (h:∀ d,J d=0) {d:Nat} (hd:d≤3):runB' (exU0 RA rc) J d=decide (d=0):=by
  have h1:=aFe (RA:=RA) (rc:=rc) (h 0)
  have h2:=aEr (by omega) h1 (h 1)
  have h3:=aEr (by omega) h2 (h 2)
  match d,hd with
  | 0,_=>exact aEq (h 0)
  | 1,_=>unfold runB';rw [h1];exact Yk (by omega) _ _
  | 2,_=>unfold runB';rw [h2];exact Yk (by omega) _ _
  | 3,_=>unfold runB';rw [h3];exact Yk (by omega) _ _
theorem aBt (h:J 0=0):runB' (exU1 RA rc) J 0=true:=by
  show runN (exU1 RA rc) ⟨[],0,0⟩ (J 0) 0=true
  rw [h];exact pW (byd0 1000 (.inr rfl)) rfl
theorem aEs (h:J 0=0):lifeS (exU1 RA rc) J 1=⟨[us1 0 1000],0,0⟩:=by
  show stepL (exU1 RA rc) ⟨[],0,0⟩ (J 0) 0=_
  have h1:runN (exU1 RA rc) ⟨[],0,0⟩ (J 0) 0=true:=aBt (RA:=RA) (rc:=rc) h
  rw [h] at h1 ⊢
  rw [xN h1 (by decide)];rfl
theorem aBu (h:∀ d,J d=0) {d:Nat} (hd:d≤3):runB' (exU1 RA rc) J d=decide (d≠3):=by
  have h1:=aEs (RA:=RA) (rc:=rc) (h 0)
  have r1:runN (exU1 RA rc) ⟨[us1 0 1000],0,0⟩ 0 1=true:=pW (byd2 1 (by decide)) rfl
  have h2:lifeS (exU1 RA rc) J 2=⟨[us1 0 1000,us1 1 1000],0,0⟩:=by
    show stepL (exU1 RA rc) (lifeS (exU1 RA rc) J 1) (J 1) 1=_
    rw [h1,h 1,xN r1 (by decide)];rfl
  have r2:runN (exU1 RA rc) ⟨[us1 0 1000,us1 1 1000],0,0⟩ 0 2=true:=pW byd3 rfl
  have h3:(lifeS (exU1 RA rc) J 3).seen=0:=by
    show (stepL (exU1 RA rc) (lifeS (exU1 RA rc) J 2) (J 2) 2).seen=_
    rw [h2,h 2,xN r2 (by decide)];rfl
  match d,hd with
  | 0,_=>exact aBt (h 0)
  | 1,_=>unfold runB';rw [h1,h 1];exact r1
  | 2,_=>unfold runB';rw [h2,h 2];exact r2
  | 3,_=>
    unfold runB' runN
    have:certN (exU1 RA rc) (lifeS (exU1 RA rc) J 3) (J 3) 3=false:=by
      unfold certN seenN
      rw [h3,h 3];rfl
    rw [this,Bool.and_false,Bool.false_and];rfl
theorem aBv (h0:J 0=0) (h1':J 1=2) (h2':J 2=0) (h3':J 3=0) {d:Nat} (hd:d≤3):runB' (exU1 RA rc) J d=decide (d≠1):=by
  have h1:=aEs (RA:=RA) (rc:=rc) h0
  have r1:runN (exU1 RA rc) ⟨[us1 0 1000],0,0⟩ 2 1=false:=by unfold runN;rfl
  have h2:lifeS (exU1 RA rc) J 2=⟨[us1 0 1000],0,1⟩:=by
    show stepL (exU1 RA rc) (lifeS (exU1 RA rc) J 1) (J 1) 1=_
    rw [h1,h1',Th r1 (by decide)];rfl
  have r2:runN (exU1 RA rc) ⟨[us1 0 1000],0,1⟩ 0 2=true:=pW (byd2 2 (by decide)) rfl
  have h3:lifeS (exU1 RA rc) J 3=⟨[us1 0 1000,us1 2 1000],0,1⟩:=by
    show stepL (exU1 RA rc) (lifeS (exU1 RA rc) J 2) (J 2) 2=_
    rw [h2,h2',xN r2 (by decide)];rfl
  match d,hd with
  | 0,_=>exact aBt h0
  | 1,_=>unfold runB';rw [h1,h1'];exact r1
  | 2,_=>unfold runB';rw [h2,h2'];exact r2
  | 3,_=>unfold runB';rw [h3,h3'];exact pW byd4 rfl
end
end
section
def ex6 (i:Nat):Int:=[6,1,0,-1].getD i (-1)
def ex3 (i:Nat):Int:=[-1,1,0,-1].getD i (-1)
theorem Ti (out:Int) (h2:oth out false (w8exW.getD 2 Psg.zero) 0=((1:Nat):Int)) (h3:oth out false (w8exW.getD 3 Psg.zero) 1=((2:Nat):Int)) (key:∀ i:Nat,i<4→∀ k:Nat,k<5→(oth out false (w8exW.getD k Psg.zero) i<0∨ex6 (oth out false (w8exW.getD k Psg.zero) i).toNat<0∨(0≤ex6 i∧ex6 i≤ex6 (oth out false (w8exW.getD k Psg.zero) i).toNat+(w8exW.getD k Psg.zero).ticks))):FarOk 4 w8exW out false 2 ex6:=by
  have w2:Wk w8exW out false 2 2 0 []:=Wk.nil 2
  have w1:Wk w8exW out false 1 2 1 [3]:=Wk.cons (k:=3) (by decide) h3 w2
  have w0:Wk w8exW out false 0 2 6 [2,3]:=Wk.cons (k:=2) (by decide) h2 w1
  refine ⟨rfl,fun i=>?_,fun i hi h0=>?_,fun i hi k hk=>nR (key i hi k hk),fun i hi=>?_⟩
  · unfold ex6
    match i with
    | 0=>decide
    | 1=>decide
    | 2=>decide
    | 3=>decide
    | n+4=>exact Int.le_refl _
  · match i,hi with
    | 0,_=>exact ⟨_,w0⟩
    | 1,_=>exact ⟨_,w1⟩
    | 2,_=>exact ⟨_,w2⟩
    | 3,_=>exact absurd h0 (by decide)
  · have key:∀ i:Nat,i<4→ex6 i≤200:=by decide +kernel
    exact key i hi
theorem aBw:FarOk 4 w8exW 3 false 2 ex3:=by
  have w2:Wk w8exW 3 false 2 2 0 []:=Wk.nil 2
  have w1:Wk w8exW 3 false 1 2 1 [3]:=Wk.cons (k:=3) (by decide) (by decide +kernel) w2
  refine ⟨rfl,fun i=>?_,fun i hi h0=>?_,fun i hi k hk=>nR ?_,fun i hi=>?_⟩
  · unfold ex3
    match i with
    | 0=>decide
    | 1=>decide
    | 2=>decide
    | 3=>decide
    | n+4=>exact Int.le_refl _
  · match i,hi with
    | 0,_=>exact absurd h0 (by decide)
    | 1,_=>exact ⟨_,w1⟩
    | 2,_=>exact ⟨_,w2⟩
    | 3,_=>exact absurd h0 (by decide)
  · have key:∀ i:Nat,i<4→∀ k:Nat,k<5→(oth 3 false (w8exW.getD k Psg.zero) i<0∨ex3 (oth 3 false (w8exW.getD k Psg.zero) i).toNat<0∨(0≤ex3 i∧ex3 i≤ex3 (oth 3 false (w8exW.getD k Psg.zero) i).toNat+(w8exW.getD k Psg.zero).ticks)):=by decide +kernel
    exact key i hi k hk
  · have key:∀ i:Nat,i<4→ex3 i≤200:=by decide +kernel
    exact key i hi
theorem exD0:dst 4 w8exW 0 false 2 0=6:=kN exV.psv (Ti 0 (by decide +kernel) (by decide +kernel) (by decide +kernel)) (by decide)
theorem exD1:dst 4 w8exW 1 false 2 0=6:=kN exV.psv (Ti 1 (by decide +kernel) (by decide +kernel) (by decide +kernel)) (by decide)
theorem exD3:dst 4 w8exW 3 false 2 0 = -1:=kN exV.psv aBw (by decide)
def exM0:List Mv:=[⟨0,0,0,2⟩,⟨0,0,1,2⟩,⟨0,0,2,2⟩,⟨1,0,2,2⟩,⟨1,0,3,2⟩,⟨3,1,3,2⟩,⟨3,1,4,4⟩,⟨3,1,5,4⟩]
def exM1:List Mv:=[⟨0,0,0,2⟩,⟨0,0,1,2⟩,⟨0,0,2,2⟩,⟨1,0,0,2⟩,⟨1,0,1,2⟩,⟨3,1,3,2⟩,⟨3,1,4,4⟩,⟨3,1,5,4⟩]
theorem exPe:PeOk w8exP:=by
  have key:∀ k:Nat,k<4→0≤w8exP.getD k 0∧w8exP.getD k 0≤1000:=by decide
  exact key
theorem exAll0:mfv 4 6 w8exP exX (hds 0 exX w8exW)=10:=by
  have h1:=Jg (T:=6) exV (by decide:(0:Int)≤0) exPe (by decide) (show planB w8exW exX 0 w8exP exM0 4=true by decide +kernel)
  have h2:=Jf (T:=6) exV (by decide:(0:Int)≤0) exPe
  have e1:outN w8exW exX 0 w8exP exM0 4 6=10:=by decide +kernel
  have e2:sumI w8exP 4=10:=by decide +kernel
  omega
theorem exAll1:mfv 4 6 w8exP exX (hds 1 exX w8exW)=10:=by
  have h1:=Jg (T:=6) exV (by decide:(0:Int)≤1) exPe (by decide) (show planB w8exW exX 1 w8exP exM1 4=true by decide +kernel)
  have h2:=Jf (T:=6) exV (by decide:(0:Int)≤1) exPe
  have e1:outN w8exW exX 1 w8exP exM1 4 6=10:=by decide +kernel
  have e2:sumI w8exP 4=10:=by decide +kernel
  omega
def exJob:List Tsk:=[⟨1,1,1⟩]
section
variable {PA:Option Addr} {pc:Nat} {XA:Option Addr} {xc:Nat} {BA:Option Addr} {bc:Nat} {QA:Option Addr} {qc:Nat} {VA:Option Addr} {vc:Nat} {RA:Option Addr} {rc:Nat}
theorem Yl:taskE (exYr PA pc XA xc BA bc QA qc VA vc RA rc) []=0:=rH Ek (by decide) rfl
theorem Ym:taskE (exYr PA pc XA xc BA bc QA qc VA vc RA rc) exJob=0:=rH Ek (by decide) (bQ.2 fun k hk=>by
  have:k=0:=by have:exJob.length=1:=rfl;omega
  subst this
  rfl)
theorem El {l:List Tsk} {d:Nat} {a b:Bool} (ha:runsY (exYr PA pc XA xc BA bc QA qc VA vc RA rc) l 0 d=a) (hb:runsY (exYr PA pc XA xc BA bc QA qc VA vc RA rc) l 1 d=b):outY (exYr PA pc XA xc BA bc QA qc VA vc RA rc) l d 2=(if a=true then 0 else 1)+(if b=true then 0 else 2):=by
  show (0+(if runsY (exYr PA pc XA xc BA bc QA qc VA vc RA rc) l 0 d=true then 0 else 2^0))+(if runsY (exYr PA pc XA xc BA bc QA qc VA vc RA rc) l 1 d=true then 0 else 2^1)=_
  rw [ha,hb]
  cases a <;> cases b <;> rfl
theorem exR0 {l:List Tsk} (h:∀ d,jobF l 0 d=0) {d:Nat} (hd:d≤3):runsY (exYr PA pc XA xc BA bc QA qc VA vc RA rc) l 0 d=decide (d=0):=z0 (RA:=RA) (rc:=rc) h hd
theorem exJ0 (d:Nat):jobF exJob 0 d=0:=by
  unfold jobF jobV hasT exJob
  simp
theorem exR1n {d:Nat} (hd:d≤3):runsY (exYr PA pc XA xc BA bc QA qc VA vc RA rc) [] 1 d=decide (d≠3):=aBu (RA:=RA) (rc:=rc) (J:=jobF [] 1) (fun _=>rfl) hd
theorem exR1o {d:Nat} (hd:d≤3):runsY (exYr PA pc XA xc BA bc QA qc VA vc RA rc) exJob 1 d=decide (d≠1):=aBv (RA:=RA) (rc:=rc) (J:=jobF exJob 1) (by decide +kernel) (by decide +kernel) (by decide +kernel) (by decide +kernel) hd
theorem exOn {d:Nat} (hd:d≤3):outY (exYr PA pc XA xc BA bc QA qc VA vc RA rc) [] d (exYr PA pc XA xc BA bc QA qc VA vc RA rc).us.length=[0,1,1,3].getD d 0:=by
  show outY (exYr PA pc XA xc BA bc QA qc VA vc RA rc) [] d 2=_
  rw [El (exR0 (fun _=>rfl) hd) (exR1n hd)]
  match d,hd with
  | 0,_=>rfl
  | 1,_=>rfl
  | 2,_=>rfl
  | 3,_=>rfl
theorem exOo {d:Nat} (hd:d≤3):outY (exYr PA pc XA xc BA bc QA qc VA vc RA rc) exJob d (exYr PA pc XA xc BA bc QA qc VA vc RA rc).us.length=[0,3,1,1].getD d 0:=by
  show outY (exYr PA pc XA xc BA bc QA qc VA vc RA rc) exJob d 2=_
  rw [El (exR0 exJ0 hd) (exR1o hd)]
  match d,hd with
  | 0,_=>rfl
  | 1,_=>rfl
  | 2,_=>rfl
  | 3,_=>rfl
theorem uP {d out:Int} {a b:Bool} (ha:prmB (exYr PA pc XA xc BA bc QA qc VA vc RA rc) d out 0=a) (hb:prmB (exYr PA pc XA xc BA bc QA qc VA vc RA rc) d out 1=b):keepB (exYr PA pc XA xc BA bc QA qc VA vc RA rc) d out=((true&&a)&&b):=by rw [←ha,←hb];rfl
theorem Jt {d out x:Int} (h:dst 4 w8exW out false 2 0=x):prmB (exYr PA pc XA xc BA bc QA qc VA vc RA rc) d out 0=(!(decide (0≤d)&&decide (d≤0))||decide (0≤x)):=by rw [←h];rfl
theorem Ju {d out x:Int} (h:dst 4 w8exW out false 2 0=x):prmB (exYr PA pc XA xc BA bc QA qc VA vc RA rc) d out 1=(!(decide (2≤d)&&decide (d≤3))||decide (0≤x)):=by rw [←h];rfl
theorem aEt:keepB (exYr PA pc XA xc BA bc QA qc VA vc RA rc) (0:Nat) 0=true:=uP (Jt exD0) (Ju exD0)
theorem aEu:keepB (exYr PA pc XA xc BA bc QA qc VA vc RA rc) (1:Nat) 1=true:=uP (Jt exD1) (Ju exD1)
theorem aEv:keepB (exYr PA pc XA xc BA bc QA qc VA vc RA rc) (2:Nat) 1=true:=uP (Jt exD1) (Ju exD1)
theorem aEw:keepB (exYr PA pc XA xc BA bc QA qc VA vc RA rc) (3:Nat) 3=false:=uP (Jt exD3) (Ju exD3)
theorem aEx:leavB (exYr PA pc XA xc BA bc QA qc VA vc RA rc) 0=true:=decide_eq_true (show mfv 4 6 w8exP exX (hds 0 exX w8exW)=sumI w8exP 4 from exAll0.trans (by decide +kernel))
theorem aAl:leavB (exYr PA pc XA xc BA bc QA qc VA vc RA rc) 1=true:=decide_eq_true (show mfv 4 6 w8exP exX (hds 1 exX w8exW)=sumI w8exP 4 from exAll1.trans (by decide +kernel))
theorem Hf {d:Nat} (hd:d≤3) {o:Int} (ho:[0,1,1,3].getD d 0=o) (hk:keepB (exYr PA pc XA xc BA bc QA qc VA vc RA rc) d o=true) (hl:leavB (exYr PA pc XA xc BA bc QA qc VA vc RA rc) o=true):faultD (exYr PA pc XA xc BA bc QA qc VA vc RA rc) [] d=0:=
  Bf (by show ¬ (1:Int)<0;decide) rfl (by rw [exOn hd,ho];exact hk) (by rw [exOn hd,ho];exact hl)
theorem Tj:judgeV (exYr PA pc XA xc BA bc QA qc VA vc RA rc) []=(3,3):=by
  have h3:faultD (exYr PA pc XA xc BA bc QA qc VA vc RA rc) [] 3=3:=uN (by show ¬ (1:Int)<0;decide) rfl (by rw [exOn (by decide)];exact aEw)
  rw [mD (d:=3) (by show 3<(4:Int).toNat;decide) (fun q hq=>?_) (by rw [h3];decide),h3]
  · rfl
  · match q,hq with
    | 0,_=>exact Hf (by decide) (o:=0) rfl aEt aEx
    | 1,_=>exact Hf (by decide) (o:=1) rfl aEu aAl
    | 2,_=>exact Hf (by decide) (o:=1) rfl aEv aAl
end
end
end Go.Proofs.YtopmadlgolnmfaaGreat
