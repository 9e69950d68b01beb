/- Part 4 of the proof. -/
import Derived.Test.YtinghmelkmblmaaGreatQvc
namespace Go.Proofs.YtinghmelkmblmaaGreat
open Go.RowKit
set_option linter.unusedVariables false
set_option linter.unusedSimpArgs false
set_option maxRecDepth 100000
set_option maxHeartbeats 4000000
section
theorem iO {l:List Use} {m k:Nat} (hk:k<m):(l.take m).getD k Use.zero=l.getD k Use.zero:=by
  rw [List.getD_eq_getElem?_getD,List.getD_eq_getElem?_getD,List.getElem?_take_of_lt hk]
theorem pF {p:Part} {l:List Use} {m:Nat}:∀ k,k≤m→fwd p (l.take m) k=fwd p l k:=by
  intro k
  induction k with
  | zero=>intro _;rfl
  | succ k ih=>
    intro hk
    rw [fwd,fwd,iO (show k<m by omega),ih (by omega)]
theorem vO {l:List Use} {m:Nat}:∀ k,k≤m→sumT (l.take m) k=sumT l k:=by
  intro k
  induction k with
  | zero=>intro _;rfl
  | succ k ih=>
    intro hk
    rw [sumT,sumT,iO (show k<m by omega),ih (by omega)]
theorem nN {l:List Use} {m k:Nat} (hk:k≤m):prevD (l.take m) k=prevD l k:=by
  cases k with
  | zero=>rfl
  | succ k=>show ((l.take m).getD k Use.zero).day=_;rw [iO (by omega)];rfl
theorem Ao {n:Nat} {l:List Use} {m k:Nat} (hk:k≤m) (h:dU n l k=true):dU n (l.take m) k=true:=by
  unfold dU at *
  rw [List.all_eq_true] at *
  intro i hi
  have hi':=List.mem_range.1 hi
  rw [nN (by omega),iO (by omega)]
  exact h i hi
theorem Hw {n:Nat} {l:List Use} {k j:Nat} (hj:j≤k) (h:dU n l k=true):dU n l j=true:=by
  unfold dU at *
  rw [List.all_eq_true] at *
  intro i hi
  have hi':=List.mem_range.1 hi
  exact h i (List.mem_range.2 (by omega))
theorem Hx {p:Part} {l:List Use} (h:PartOk p l):cE p l=0:=by
  unfold cE
  rw [if_pos h.hdr,if_pos h.rates,if_pos h.len,if_pos h.uses]
theorem Sh {p:Part} {l:List Use} (h:PartOk p l) {m:Nat} (hm:m≤l.length):PartOk p (l.take m):=by
  have e:(l.take m).length=m:=by rw [List.length_take];omega
  refine ⟨h.hdr,h.rates,?_,?_⟩
  · have:=h.len;omega
  · rw [e];exact Ao (Nat.le_refl _) (Hw hm h.uses)
theorem Np {p:Part} {l:List Use} (h:PartOk p l) {k:Nat} (hk:k<l.length):(cV p (l.getD k Use.zero)).1≤(cV p (l.getD k Use.zero)).2:=by
  have hu:=h.use hk
  unfold useOk at hu
  simp only [decide_eq_true_eq] at hu
  have hr:=h.rate (k:=(l.getD k Use.zero).cls.toNat) (by omega)
  unfold gR at hr
  simp only [decide_eq_true_eq] at hr
  unfold cV
  exact Int.mul_le_mul_of_nonneg_left hr.2.1 (by omega)
theorem vP {p:Part} {l:List Use} (h:PartOk p l) {k:Nat} (hk:k<l.length) (hf:∀ j,k<j→j<l.length→(l.getD j Use.zero).meas=false):bP p l k=fwd p l (k+1):=by
  have key:∀ d,d<l.length→(∀ j,l.length-1-d<j→j<l.length→(l.getD j Use.zero).meas=false)→bkw p l d=fwd p l (l.length-d):=by
    intro d
    induction d with
    | zero=>intro _ _;rfl
    | succ d ih=>
      intro hd hf
      have h1:=ih (by omega) fun j h1 h2=>hf j (by omega) h2
      have h2:(l.getD (l.length-1-d) Use.zero).meas=false:=hf _ (by omega) (by omega)
      have h3:=Np h (show l.length-1-d<l.length by omega)
      have e1:l.length-d=(l.length-1-d)+1:=by omega
      have e2:l.length-(d+1)=l.length-1-d:=by omega
      rw [bkw,h1,e1,e2,rJ h2]
      unfold meetS addS
      refine Prod.ext ?_ ?_
      · dsimp only;omega
      · dsimp only;omega
  unfold bP
  rw [key (l.length-1-k) (by omega) (fun j h1 h2=>hf j (by omega) h2)]
  congr 1
  omega
theorem Hy {p:Part} {l:List Use} (h:PartOk p l) {m:Nat} (hm:m≤l.length) (hf:∀ j,m≤j→j<l.length→(l.getD j Use.zero).meas=false):∀ d k,k+d+1=m→bP p (l.take m) k=bP p l k:=by
  have e:(l.take m).length=m:=by rw [List.length_take];omega
  intro d
  induction d with
  | zero=>
    intro k hk
    rw [vP h (by omega) (fun j h1 h2=>hf j (by omega) h2),vP (Sh h hm) (by omega) (fun j h1 h2=>by omega),pF _ (by omega)]
  | succ d ih=>
    intro k hk
    have h1:=ih (k+1) (by omega)
    rw [eC (l:=l.take m) (by omega),eC (l:=l) (by omega),h1,pF _ (by omega),iO (by omega)]
theorem Hz {p:Part} {l:List Use} {m k:Nat} (hk:k<m) (a:Int):wornB p (l.take m) k a=wornB p l k a:=by
  unfold wornB
  rw [vO _ (by omega),iO hk]
end
section
def inside (a b:Int×Int):Prop:=b.1≤a.1∧a.2≤b.2
def bN (day turns cls:Int):Use:=⟨day,turns,cls,false,0,0⟩
theorem Si {p:Part} {l:List Use} (h:PartOk p l):∀ d k,k+d+1=l.length→(bP p l k).2≤(fwd p l l.length).2:=by
  intro d
  induction d with
  | zero=>intro k hk;rw [lT (by omega)];exact Int.le_refl _
  | succ d ih=>
    intro k hk
    have h1:=ih (k+1) (by omega)
    have h2:=kK h (show k+1<l.length by omega)
    rw [eC (by omega)]
    unfold meetS
    dsimp only
    omega
theorem uF (p:Part) (l:List Use):iF p l=(fwd p l l.length).2:=by
  unfold iF
  split
  · rename_i h;rw [h];rfl
  · rfl
theorem Sj {p:Part} {l:List Use} (h:PartOk p l):∀ d k,k+d=l.length→sumT l k≤sumT l l.length:=by
  intro d
  induction d with
  | zero=>intro k hk;rw [show k=l.length by omega];exact Int.le_refl _
  | succ d ih=>
    intro k hk
    have h1:=ih (k+1) (by omega)
    have hu:=h.use (show k<l.length by omega)
    unfold useOk at hu
    simp only [decide_eq_true_eq] at hu
    rw [sumT] at h1
    omega
theorem Wp {p:Part} {l:List Use} (h:PartOk p l):∀ d k,k+d+1=l.length→(l.getD k Use.zero).day≤prevD l l.length:=by
  intro d
  induction d with
  | zero=>intro k hk;rw [show l.length=k+1 by omega];exact Int.le_refl _
  | succ d ih=>
    intro k hk
    have h1:=ih (k+1) (by omega)
    have hu:=h.use (show k+1<l.length by omega)
    unfold useOk at hu
    simp only [decide_eq_true_eq] at hu
    have:prevD l (k+1)=(l.getD k Use.zero).day:=rfl
    omega
theorem lX {l:List Use} {u:Use}:(l++[u]).getD l.length Use.zero=u:=by
  rw [List.getD_eq_getElem?_getD,List.getElem?_append_right (Nat.le_refl _)];simp
theorem iB (l:List Use) (u:Use):(l++[u]).take l.length=l:=by simp
theorem Sk {p:Part} {l:List Use} (h:PartOk p l) {day turns cls:Int} (hl:l.length<40) (hd:prevD l l.length≤day∧day≤100000) (ht:0≤turns∧turns≤1000000) (hc:0≤cls∧cls≤(p.rates.length:Int)-1):PartOk p (l++[bN day turns cls]):=by
  refine ⟨h.hdr,h.rates,by simp;omega,?_⟩
  have e:(l++[bN day turns cls]).length=l.length+1:=by simp
  unfold dU
  rw [e,gQ (n:=0),Bool.and_eq_true]
  constructor
  · rw [List.all_eq_true]
    intro i hi
    have hi':=List.mem_range.1 hi
    have h1:=h.use hi'
    have e1:prevD (l++[bN day turns cls]) i=prevD l i:=by
      have:=nN (l:=l++[bN day turns cls]) (m:=l.length) (k:=i) (by omega)
      rw [iB] at this;exact this.symm
    have e2:(l++[bN day turns cls]).getD i Use.zero=l.getD i Use.zero:=by
      have:=iO (l:=l++[bN day turns cls]) (m:=l.length) (k:=i) hi'
      rw [iB] at this;exact this.symm
    rw [e1,e2];exact h1
  · have e1:prevD (l++[bN day turns cls]) l.length=prevD l l.length:=by
      have:=nN (l:=l++[bN day turns cls]) (m:=l.length) (k:=l.length) (Nat.le_refl _)
      rw [iB] at this;exact this.symm
    rw [e1,lX]
    unfold useOk bN
    simp only [decide_eq_true_eq]
    refine ⟨by omega,by omega,by omega,by omega,fun _=>by constructor <;> trivial⟩
theorem Sl {p:Part} {l:List Use} {day turns cls:Int} (h:IsAt p l l.length):IsAt p (l++[bN day turns cls]) (l++[bN day turns cls]).length:=by
  have e:(l++[bN day turns cls]).length=l.length+1:=by simp
  rw [e]
  refine ⟨by omega,fun k hk=>?_,fun h=>by omega⟩
  by_cases hk2:k<l.length
  · have h1:=h.good k hk2
    have e2:=iO (l:=l++[bN day turns cls]) (m:=l.length) (k:=k) hk2
    have e3:=pF (p:=p) (l:=l++[bN day turns cls]) (m:=l.length) (k+1) (by omega)
    rw [iB] at e2 e3
    unfold fits at *
    rw [←e2,←e3];exact h1
  · rw [show k=l.length by omega]
    refine oQ ?_
    rw [lX];rfl
theorem Ap {p:Part} {l:List Use} (h:PartOk p l) (hA:IsAt p l l.length) {day turns cls:Int} (hl:l.length<40) (hd:prevD l l.length≤day∧day≤100000) (ht:0≤turns∧turns≤1000000) (hc:0≤cls∧cls≤(p.rates.length:Int)-1)
    (h1:day≤p.age) (h2:sumT l l.length≤p.turns) (h3:iF p l≤p.worn*1000000) :
    (dR p (l++[bN day turns cls]) Prod.snd).2=0∧((dR p (l++[bN day turns cls]) Prod.snd).1<0↔sumT l l.length+turns≤p.turns∧iF p l+turns*(p.rates.getD cls.toNat (0,0)).2≤p.worn*1000000):=by
  have hok:=Sk h hl hd ht hc
  have hW:wearE p (l++[bN day turns cls])=0:=tG (Hx hok) (Sl hA)
  rw [Yw _ hW]
  refine ⟨rfl,?_⟩
  dsimp only
  have e:(l++[bN day turns cls]).length=l.length+1:=by simp
  have early:∀ k,k<l.length→wornB p (l++[bN day turns cls]) k (Prod.snd (bP p (l++[bN day turns cls]) k))=false:=by
    intro k hk
    have t1:=Hz (p:=p) (l:=l++[bN day turns cls]) (m:=l.length) hk (Prod.snd (bP p (l++[bN day turns cls]) k))
    have t2:=Hy hok (m:=l.length) (by omega) (fun j h4 h5=>by rw [show j=l.length by omega,lX];rfl) (l.length-1-k) k (by omega)
    rw [iB] at t1 t2
    rw [←t1,←t2]
    have b1:=Si h (l.length-1-k) k (by omega)
    have b2:=Sj h (l.length-1-k) (k+1) (by omega)
    have b3:=Wp h (l.length-1-k) k (by omega)
    rw [uF] at h3
    unfold wornB
    simp only [Bool.or_eq_false_iff,decide_eq_false_iff_not]
    omega
  have f1:fwd p (l++[bN day turns cls]) l.length=fwd p l l.length:=by
    have:=pF (p:=p) (l:=l++[bN day turns cls]) (m:=l.length) l.length (Nat.le_refl _)
    rw [iB] at this;exact this.symm
  have s1:sumT (l++[bN day turns cls]) l.length=sumT l l.length:=by
    have:=vO (l:=l++[bN day turns cls]) (m:=l.length) l.length (Nat.le_refl _)
    rw [iB] at this;exact this.symm
  have last:wornB p (l++[bN day turns cls]) l.length (Prod.snd (bP p (l++[bN day turns cls]) l.length))=!(decide (sumT l l.length+turns≤p.turns)&&decide (iF p l+turns*(p.rates.getD cls.toNat (0,0)).2≤p.worn*1000000)):=by
    rw [lT (by omega),e,rJ (by rw [lX];rfl),f1]
    unfold wornB
    rw [sumT,s1,lX,uF]
    rw [Bool.eq_iff_iff]
    simp only [Bool.or_eq_true,decide_eq_true_eq,Bool.not_eq_true',Bool.and_eq_false_iff,decide_eq_false_iff_not]
    unfold addS cV bN
    dsimp only
    omega
  rcases xD (fun k=>wornB p (l++[bN day turns cls]) k (Prod.snd (bP p (l++[bN day turns cls]) k))) (l++[bN day turns cls]).length with ⟨g1,g2⟩|⟨k,hk,g1,g2,g3⟩
  · rw [g1]
    have g4:=g2 l.length (by omega)
    rw [last] at g4
    simp only [Bool.not_eq_false',Bool.and_eq_true,decide_eq_true_eq] at g4
    exact ⟨fun _=>g4,fun _=>by decide⟩
  · rw [g1]
    constructor
    · intro hlt;omega
    · intro hle
      exfalso
      rcases Nat.lt_or_ge k l.length with h5|h5
      · rw [early k h5] at g2;cases g2
      · rw [show k=l.length by omega,last,decide_eq_true hle.1,decide_eq_true hle.2] at g2
        cases g2
end
section
theorem Nq {p:Part} {l:List Use} (h:PartOk p l) (hA:IsAt p l l.length) {day turns cls:Int} (hl:l.length<40) (hd:prevD l l.length≤day∧day≤100000) (ht:0≤turns∧turns≤1000000) (hc:0≤cls∧cls≤(p.rates.length:Int)-1)
    (h1:day≤p.age) (h2:sumT l l.length≤p.turns) (h3:iF p l≤p.worn*1000000):bydB p (l++[bN day turns cls])=!(decide (sumT l l.length+turns≤p.turns)&&decide (iF p l+turns*(p.rates.getD cls.toNat (0,0)).2≤p.worn*1000000)):=by
  obtain ⟨e1,e2⟩:=Ap h hA hl hd ht hc h1 h2 h3
  unfold bydB
  rw [decide_eq_true e1,Bool.not_true,Bool.false_or]
  by_cases h9:sumT l l.length+turns≤p.turns∧iF p l+turns*(p.rates.getD cls.toNat (0,0)).2≤p.worn*1000000
  · have:=e2.2 h9
    rw [decide_eq_true h9.1,decide_eq_true h9.2,decide_eq_false (by omega)];rfl
  · have h8:¬ (dR p (l++[bN day turns cls]) Prod.snd).1<0:=fun h=>h9 (e2.1 h)
    rw [decide_eq_true (p:=0≤_) (by omega)]
    by_cases h7:sumT l l.length+turns≤p.turns
    · rw [decide_eq_true h7,decide_eq_false (fun h=>h9 ⟨h7,h⟩)];rfl
    · rw [decide_eq_false h7];rfl
theorem Ia {p:Part} {l:List Use} (h:∀ k,k<l.length→(l.getD k Use.zero).meas=false):IsAt p l l.length:=
  ⟨Nat.le_refl _,fun k hk=>oQ (h k hk),fun h=>absurd h (Nat.lt_irrefl _)⟩
def exPt:Part:=⟨[(1,2)],1,1000000,1000⟩
def exU0 (RA:Option Addr) (rc:Nat):Unt:=⟨0,2,0,[(1,2)],RA,rc,1,1000000,1000,[],none,0,0,400000,0,0⟩
section
variable {PA:Option Addr} {pc:Nat} {XA:Option Addr} {xc:Nat} {BA:Option Addr} {bc:Nat} {QA:Option Addr} {qc:Nat} {VA:Option Addr} {vc:Nat} {RA:Option Addr} {rc:Nat}
end
theorem Cu (l:List Use) {day turns:Int} {b:Bool} (h:cE exPt l=0) (hm:∀ k,k<l.length→(l.getD k Use.zero).meas=false) (hl:l.length<40) (hd:prevD l l.length≤day∧day≤1000) (ht:0≤turns∧turns≤1000000)
    (h2:sumT l l.length≤1000000) (h3:iF exPt l≤1000000) (hb:b=(decide (sumT l l.length+turns≤1000000)&&decide (iF exPt l+turns*2≤1000000))):bydB exPt (l++[bN day turns 0])=!b:=by
  rw [Nq (kJ h) (Ia hm) hl (by omega) ht (by decide) (by show day≤1000;omega) (by show _≤(1000000:Int);omega) (by show _≤(1:Int)*1000000;omega),hb]
  rfl
def us1 (d:Int) (t:Int):Use:=⟨d,t,0,false,0,0⟩
section
variable {RA:Option Addr} {rc:Nat} {J:Nat→Int}
theorem m1 {P:Use→Prop} {u:Use} (h:P u):∀ k,k<[u].length→P ([u].getD k Use.zero):=fun k hk=>by
  have:k=0:=by simp at hk;omega
  subst this
  exact h
theorem m2 {P:Use→Prop} {u v:Use} (h:P u) (h':P v):∀ k,k<[u,v].length→P ([u,v].getD k Use.zero):=fun k hk=>by
  have:k=0∨k=1:=by simp at hk;omega
  rcases this with rfl|rfl
  · exact h
  · exact h'
theorem byd0 (t:Int) (ht:t=400000∨t=1000):bydB exPt [bN 0 t 0]=false:=by
  rcases ht with rfl|rfl
  · exact Cu [] (b:=true) (by decide +kernel) (fun q hq=>absurd hq (Nat.not_lt_zero q)) (by decide) (by decide) (by decide) (by decide) (by decide) (by decide +kernel)
  · exact Cu [] (b:=true) (by decide +kernel) (fun q hq=>absurd hq (Nat.not_lt_zero q)) (by decide) (by decide) (by decide) (by decide) (by decide) (by decide +kernel)
theorem byd1 (d:Int) (hd:0≤d∧d≤1000):bydB exPt [us1 0 400000,bN d 400000 0]=true:=
  Cu [us1 0 400000] (b:=false) (by decide +kernel) (m1 (P:=fun u=>u.meas=false) rfl) (by decide) hd (by decide) (by decide +kernel) (by decide +kernel) (by decide +kernel)
theorem Nr {u:Unt} {s:LSt} {j:Int} {d:Nat} {b b':Bool} (h:bydB u.part (s.uses++[useAt u d s.born])=b) (h2:b'=((decide (j=0)&&certN u s j d)&&!b)):runN u s j d=b':=by unfold runN;rw [h,h2]
theorem Wq {u:Unt} {s:LSt} {j:Int} {d:Nat} (h:runN u s j d=true) (hr:renw j=false):stepL u s j d=⟨s.uses++[useAt u d s.born],s.born,seenN s j d⟩:=by unfold stepL;rw [hr,h];rfl
theorem Ws {u:Unt} {s:LSt} {j:Int} {d:Nat} (h:runN u s j d=false) (hr:renw j=false):stepL u s j d=⟨s.uses,s.born,seenN s j d⟩:=by unfold stepL;rw [hr,h];rfl
theorem Zg (h:J 0=0):runB' (exU0 RA rc) J 0=true:=by
  show runN (exU0 RA rc) ⟨[],0,0⟩ (J 0) 0=true
  rw [h];exact Nr (byd0 400000 (.inl rfl)) rfl
theorem Zn (h:J 0=0):lifeS (exU0 RA rc) J 1=⟨[us1 0 400000],0,0⟩:=by
  show stepL (exU0 RA rc) ⟨[],0,0⟩ (J 0) 0=_
  have h1:runN (exU0 RA rc) ⟨[],0,0⟩ (J 0) 0=true:=Zg (RA:=RA) (rc:=rc) h
  rw [h] at h1 ⊢
  rw [Wq h1 (by decide)];rfl
theorem Sm {d:Nat} (hd:d≤3) (s j:Int):runN (exU0 RA rc) ⟨[us1 0 400000],0,s⟩ j d=false:=
  Nr (b:=true) (by
    show bydB exPt [us1 0 400000,bN ((d:Int)-0) 400000 0]=true
    rw [Int.sub_zero];exact byd1 d (by omega)) (by simp)
theorem Zh {d:Nat} (hd:d≤3) (h1:lifeS (exU0 RA rc) J d=⟨[us1 0 400000],0,0⟩) (h:J d=0):lifeS (exU0 RA rc) J (d+1)=⟨[us1 0 400000],0,0⟩:=by
  show stepL (exU0 RA rc) (lifeS (exU0 RA rc) J d) (J d) d=_
  rw [h1,h,Ws (Sm hd 0 0) (by decide)];rfl
theorem z0 (h:∀ d,J d=0) {d:Nat} (hd:d≤3):runB' (exU0 RA rc) J d=decide (d=0):=by
  have h1:=Zn (RA:=RA) (rc:=rc) (h 0)
  have h2:=Zh (by omega) h1 (h 1)
  have h3:=Zh (by omega) h2 (h 2)
  match d,hd with
  | 0,_=>exact Zg (h 0)
  | 1,_=>unfold runB';rw [h1];exact Sm (by omega) _ _
  | 2,_=>unfold runB';rw [h2];exact Sm (by omega) _ _
  | 3,_=>unfold runB';rw [h3];exact Sm (by omega) _ _
end
end
section
section
variable {PA:Option Addr} {pc:Nat} {XA:Option Addr} {xc:Nat} {BA:Option Addr} {bc:Nat} {QA:Option Addr} {qc:Nat} {VA:Option Addr} {vc:Nat} {RA:Option Addr} {rc:Nat}
end
end
section
def MList (ps:List Psg) (k:Nat) (ml:List Int):Prop:=ml.length≤k∧∀ m,0≤m→(hasI ml m=true↔¬ cntM ps m k=0)
theorem MList.nil {ps:List Psg}:MList ps 0 []:=⟨Nat.le_refl 0,fun m _=>by
  constructor
  · intro h;cases h
  · intro h;exact absurd rfl h⟩
theorem vQ {ps:List Psg} {m:Int} {k:Nat}:cntM ps m (k+1)=cntM ps m k+(if cF ps k=m then 1 else 0):=rfl
theorem Ib {l:List Int} {x m:Int}:hasI (l++[x]) m=(hasI l m||decide (m=x)):=by unfold hasI;rw [List.any_append];simp
theorem MList.add {ps:List Psg} {k:Nat} {ml:List Int} (h:MList ps k ml):MList ps (k+1) (ml++[cF ps k]):=⟨by rw [List.length_append];have:=h.1;simp;omega,fun m hm=>by
  have h1:=h.2 m hm
  have h2:=Dy (ps:=ps) (m:=m) (k:=k)
  rw [Ib,vQ,Bool.or_eq_true,decide_eq_true_eq,h1]
  by_cases e:cF ps k=m
  · rw [if_pos e];exact ⟨fun _=>by omega,fun _ => .inr e.symm⟩
  · rw [if_neg e,Int.add_zero];exact ⟨fun g=>g.resolve_right (fun g=>e g.symm),.inl⟩⟩
theorem MList.skip {ps:List Psg} {k:Nat} {ml:List Int} (h:MList ps k ml) (hk:cF ps k<0):MList ps (k+1) ml:=⟨by have:=h.1;omega,fun m hm=>by
  rw [vQ,if_neg (by omega),Int.add_zero]
  exact h.2 m hm⟩
theorem MList.fresh {ps:List Psg} {k:Nat} {ml:List Int} (h:MList ps k ml) (h0:0≤(ps.getD k Psg.zero).mach) (hh:hasI ml (ps.getD k Psg.zero).mach=false):cntM ps (cF ps k) k=0:=by
  have h9:=h.2 _ h0
  rw [hh] at h9
  have h8:cF ps k=(ps.getD k Psg.zero).mach:=rfl
  rw [h8]
  simp only [Bool.false_eq_true,false_iff] at h9
  omega
theorem pG {pl:Int} {ps:List Psg} {k:Nat} (h:psgOk pl (ps.getD k Psg.zero)=true) (hz:cntM ps (cF ps k) k=0):pasOk pl ps k=true:=by unfold pasOk;rw [h,decide_eq_true (.inr hz)];rfl
theorem pH {pl:Int} {ps:List Psg} {k:Nat} (h:psgOk pl (ps.getD k Psg.zero)=true) (hz:(ps.getD k Psg.zero).mach<0):pasOk pl ps k=true:=by unfold pasOk;rw [h,decide_eq_true (.inl hz)];rfl
theorem Sn {pl:Int} {ps:List Psg} {k:Nat} {ml:List Int} (hM:MList ps k ml) (hc:((ps.getD k Psg.zero).mach<0∨11<(ps.getD k Psg.zero).mach)∨hasI ml (ps.getD k Psg.zero).mach=true) (hk:(ps.getD k Psg.zero).kind=3∨(ps.getD k Psg.zero).kind=4):pasOk pl ps k=false:=by
  unfold pasOk
  rw [Bool.and_eq_false_iff]
  by_cases h0:0≤(ps.getD k Psg.zero).mach∧(ps.getD k Psg.zero).mach≤11
  · refine .inr (decide_eq_false ?_)
    have h9:=hM.2 _ h0.1
    have h8:cF ps k=(ps.getD k Psg.zero).mach:=rfl
    rw [h8]
    rcases hc with h7|h7
    · omega
    · rw [h7] at h9
      simp only [true_iff] at h9
      omega
  · exact .inl (fC (by omega))
theorem So {pl:Int} {xs:List Int} {k:Nat} (h:(0≤xs.getD k 0∧xs.getD k 0≤pl-1)∧(k=0∨xs.getD (k-1) 0<xs.getD k 0)):exOk pl xs k=true:=by unfold exOk;rw [decide_eq_true_eq];omega
theorem Sp {pl:Int} {xs:List Int} {k:Nat} (h:¬ ((0≤xs.getD k 0∧xs.getD k 0≤pl-1)∧(k=0∨xs.getD (k-1) 0<xs.getD k 0))):exOk pl xs k=false:=by unfold exOk;rw [decide_eq_false_iff_not];omega
theorem Cv {l:List Int} {x:Int} {v:Value} (hv:v = .int .i64 x):∀ k j,k<l.length+1→j<1→capp l.length (icl l) (fun k' j=>([[v]].getD k' []).getD j undef) k j=icl (l++[x]) k j:=by
  intro k j hk hj
  have:j=0:=by omega
  subst this
  subst hv
  unfold capp icl
  by_cases h:k<l.length
  · rw [if_pos h,List.getD_eq_getElem?_getD,List.getD_eq_getElem?_getD,List.getElem?_append_left h]
  · have e:k=l.length:=by omega
    subst e
    rw [if_neg h,Nat.sub_self,List.getD_eq_getElem?_getD,List.getElem?_append_right (Nat.le_refl _),Nat.sub_self]
    rfl
theorem cL (n lo hi:Int) (w:World) :
    Calls Tryz.prog 32 [.int .i64 n,.int .i64 lo,.int .i64 hi].toArray w (Ret (fun v w'=>v = .bool (decide (lo≤n)&&decide (n≤hi))∧w'=w)):=by
 refine enter Tryz.func32 rfl Tryz.ntmps32 rfl (fun a H=>?_)
 have S:=St.start w
 refine sS H fun K1 k1=>sr 1 rfl<|sE ?_;clear H a;intro a H
 refine k1 _ ?_;clear k1 K1
 replace H:=H.keep [0,1,2] rfl
 refine sS H fun K2 k2=>sr 4 rfl<|sg 3 3 10 13 true G G (fun hg4=>sy hg4<|sr 1 rfl<|sy hg4<|sr 1 rfl<|sy hg4<|sr 1 rfl<|sz 3 G G G)<|sa G G G<|sr 1 rfl<|sE ?_;clear H a;intro a H
 refine k2 _ ?_;clear k2 K2
 refine wp_ret ?_
 refine ret1 (fn:=Tryz.f32) rfl H rfl ?_
 exact ⟨rfl,rfl⟩
theorem xQ (n:Int) (w:World) :
    Calls Tryz.prog 65 [.int .i64 n].toArray w (Ret (fun v w'=>v = .bool (decide (0≤n)&&decide (n≤4095))∧w'=w)):=by
 refine enter Tryz.func65 rfl Tryz.ntmps65 rfl (fun a H=>?_)
 have S:=St.start w
 refine sS H fun K1 k1=>sr 1 rfl<|sE ?_;clear H a;intro a H
 refine k1 _ ?_;clear k1 K1
 refine sS H fun K2 k2=>sr 1 rfl<|sc rfl Tryz.func32 G G (cL _ _ _ _)<|sr 1 rfl<|sE ?_;clear H a;intro a H
 refine k2 _ ?_;clear k2 K2
 refine wp_ret ?_
 refine ret1 (fn:=Tryz.f65) rfl H rfl ?_
 exact ⟨rfl,rfl⟩
theorem Sq (l:List Int) (A:Option Addr) (cp:Nat) (x:Int) (w:World) (hl:InS w noF 1 A l.length (icl l)) (hn:l.length≤9223372036854775807) :
    Calls Tryz.prog 33 [.slice A l.length cp,.int .i64 x].toArray w (Ret (fun u w'=>u = .bool (hasI l x)∧St w noF [] w')):=by
 refine enter Tryz.func33 rfl Tryz.ntmps33 rfl (fun a H=>?_)
 have S:=St.start w
 refine sS H fun K1 k1=>sr 1 rfl<|sE ?_;clear H a;intro a H
 refine k1 _ ?_;clear k1 K1
 refine wp_seq_k fun K2 k2=>?_
 refine sS H fun K3 k3=>sr 1 rfl<|sE ?_;clear H a;intro a H
 refine k3 _ ?_;clear k3 K3
 refine wp_block ?_
 refine loop_st (X:=Nat) (R0:=_) [0,1] H rfl (fun k=>[(5,.int .i64 (k:Int))]) (fun k=>[]) (fun g k=>k≤l.length∧g+k=l.length∧(l.take k).any (fun y=>decide (x=y))=false) (l.length) 0 ?_ (S.sel [] G G) (H.keep [5,0,1] rfl) ?_
 · exact ⟨by omega,by omega,rfl⟩
 clear H S a
 intro g1 x1 a w1 hp S H K4 k4
 obtain ⟨k,rfl⟩:∃ y,y=x1:=⟨_,rfl⟩
 refine wp_seq_k fun K5 k5=>?_
 refine sS H fun K6 k6=>sr 2 rfl<|sL aW rfl<|sr 1 rfl<|sE ?_;clear H a;intro a H
 refine k6 _ ?_;clear k6 K6
 refine condL H rfl (fun hc1=>?_) (fun hc1=>?_)
 ·skip
  refine wp_skip ?_
  refine k5 _ _ ?_
  refine wp_seq_k fun K7 k7=>?_
  refine wp_block ?_
  replace H:=H.keep [0,1,5] rfl
  refine sS H fun K8 k8=>sr 2 rfl<|si aW bC G G (hl.adr (by omega)) (by omega)<|slm aD rfl (hl.rd S (by omega) (by omega))<|sr 2 rfl<|sE ?_;clear H a;intro a H
  refine k8 _ ?_;clear k8 K8
  refine condE H rfl (fun hc2=>?_) (fun hc2=>?_)
  ·skip
   refine sS H fun K9 k9=>sr 1 rfl<|sE ?_;clear H a;intro a H
   refine k9 _ ?_;clear k9 K9
   refine wp_ret ?_
   refine ret1 (fn:=Tryz.f33) rfl H rfl ?_
   exact ⟨by rw [Wl (k:=k) (by omega) (by omega)],(S.sel [] G G)⟩
  refine wp_skip ?_
  refine k7 _ _ ?_
  replace H:=H.keep [0,1,5] rfl
  refine sO H<|sr 1 rfl<|sd (aK G G (by unfold i64ok;omega))<|sr 1 rfl<|sE ?_;clear H a;intro a H
  exact k4 (g1-1) (k+1) a _ (by omega) (⟨by omega,by omega,Na (by omega) hp.2.2 (by omega)⟩) (S.sel [] G G) (H.keep [5,0,1] rfl)
 refine wp_exit ?_
 refine k2 _ _ ?_
 refine sS H fun K11 k11=>sr 1 rfl<|sE ?_;clear H a;intro a H
 refine k11 _ ?_;clear k11 K11
 refine wp_ret ?_
 refine ret1 (fn:=Tryz.f33) rfl H rfl ?_
 exact ⟨by unfold hasI;rw [←List.take_of_length_le (l:=l) (i:=k) (by omega),hp.2.2],(S.sel [] G G)⟩
theorem lY (pl:Int) (ps:List Psg) (PA:Option Addr) (pc:Nat) (xs:List Int) (XA:Option Addr) (xc:Nat) (w:World) (hps:InS w noF 7 PA ps.length (pcell ps)) (hpn:ps.length≤9223372036854775807) (hxs:InS w noF 1 XA xs.length (icl xs)) (hxn:xs.length≤9223372036854775807) :
    Calls Tryz.prog 8 [.agg [.int .i64 pl,.slice PA ps.length pc,.slice XA xs.length xc].toArray].toArray w (Ret (fun v w'=>v = .int .i64 (stE pl ps xs)∧St w noF [] w')):=by
 refine enter Tryz.func8 rfl Tryz.ntmps8 rfl (fun a H=>?_)
 have S:=St.start w
 refine seq_list fun K1 k1=>?_
 refine aO H rfl S G G ?_;clear H a S;intro b1 _ a hb1 hbw1 S H
 refine ls 1 H<|sr 1 rfl<|sE ?_;clear H a;intro a H
 refine k1 _ _ ?_;clear k1 K1
 refine wp_seq_k fun K2 k2=>?_
 replace H:=H.keep [1] rfl
 refine sS H fun K3 k3=>sf eK rfl<|sl S 0 aD G G G<|sc rfl Tryz.func32 G G (cL _ _ _ _)<|sr 2 rfl<|sg 4 4 11 15 false G G (fun hg5=>by
     have hq5:=hg5;try simp only [o1,o2,o3,o4,o5,o6,o7,o8,o9,oa] at hq5
     exact sy hg5<|sf fM rfl<|sy hg5<|sl S 0 iP G G G<|sy hg5<|sL jD rfl<|sy hg5<|sr 1 rfl<|sz 4 G G G)<|so G G G<|sE ?_;clear H a;intro a H
 refine k3 _ ?_;clear k3 K3
 refine cond_ H rfl (fun hc1=>?_) (fun hc1=>?_)
 ·skip
  try simp only [o1,o2,o3,o4,o5,o6,o7,o8,o9,oa] at hc1
  replace H:=H.keep [] rfl
  refine sS H fun K4 k4=>sr 1 rfl<|sE ?_;clear H a;intro a H
  refine k4 _ ?_;clear k4 K4
  refine wp_ret ?_
  refine ret1 (fn:=Tryz.f8) rfl H rfl ?_
  exact ⟨congrArg _ (Dz (by omega)).symm,(S.sel [] G G)⟩
 try simp only [o1,o2,o3,o4,o5,o6,o7,o8,o9,oa] at hc1
 refine wp_skip ?_
 refine k2 _ _ ?_
 refine sS H fun K5 k5=>sr 1 rfl<|sE ?_;clear H a;intro a H
 refine k5 _ ?_;clear k5 K5
 refine wp_seq_k fun K6 k6=>?_
 refine sS H fun K7 k7=>sr 1 rfl<|sE ?_;clear H a;intro a H
 refine k7 _ ?_;clear k7 K7
 refine wp_block ?_
 replace S:=S.newNil 3 1 (icl [])
 refine loop_st (X:=Nat×List Int×Option Addr×Nat) (R0:=_) [1] H rfl (fun ⟨k,ml,A9,c9⟩=>[(3,.slice A9 ml.length c9),(4,.int .i64 (k:Int))]) (fun ⟨k,ml,A9,c9⟩=>[ownM 3 1 A9 ml.length c9 (icl ml)]) (fun g ⟨k,ml,A9,c9⟩=>k≤ps.length∧g+k=ps.length∧allN (pasOk pl ps) k=true∧MList ps k ml) (ps.length) (0,[],none,0) ?_ (S.sel [0,1] G G) (H.keep [3,4,1] rfl) ?_
 · exact ⟨by omega,by omega,rfl,MList.nil⟩
 clear H S a
 intro g1 x1 a w1 hp S H K8 k8
 obtain ⟨k,ml,A9,c9⟩:=x1
 dsimp only at hp S H
 obtain ⟨hkl,hgk,hA,hM⟩:=hp
 refine wp_seq_k fun K9 k9=>?_
 refine sS H fun K10 k10=>sr 1 rfl<|sf fM rfl<|sl S 1 iP G G G<|sL jD rfl<|sr 1 rfl<|sE ?_;clear H a;intro a H
 refine k10 _ ?_;clear k10 K10
 refine condL H rfl (fun hc2=>?_) (fun hc2=>?_)
 ·skip
  refine wp_skip ?_
  refine k9 _ _ ?_
  refine wp_seq_k fun K11 k11=>?_
  refine wp_block ?_
  replace H:=H.keep [1,3,4] rfl
  refine seq_list fun K12 k12=>?_
  refine ls 5 H<|sf fM rfl<|sl S 1 iP G G G<|sr 1 rfl<|si jD eV G G (hps.adr (by omega)) (by omega)<|sd ((aU kU eV rfl S hps (by omega) (by omega)))<|sE ?_;clear H a;intro a H
  refine aI H rfl S sX ?_;clear H a S;intro b5 _ a hb5 hbw5 S H
  refine aB H S (i:=0) G G G G eV G G ?_
  clear H a S;intro _ a S H
  refine k12 _ _ ?_;clear k12 K12
  refine wp_seq_k fun K13 k13=>?_
  replace H:=H.keep [1,3,4,5] rfl
  refine sS H fun K14 k14=>sf kC rfl<|sl S 0 aD G G G<|sf eK rfl<|sl S 2 aD G G G<|sd (aS G G (by unfold i64ok;omega))<|sc rfl Tryz.func32 G G (cL _ _ _ _)<|sr 2 rfl<|sg 7 7 36 43 false G G (fun hg8=>by
      have hq8:=hg8;try simp only [o1,o2,o3,o4,o5,o6,o7,o8,o9,oa] at hq8
      exact sy hg8<|sf kD rfl<|sy hg8<|sl S 0 aD G G G<|sy hg8<|sf eK rfl<|sy hg8<|sl S 2 aD G G G<|sy hg8<|sd (aS G G (by unfold i64ok;omega))<|sy hg8<|sc rfl Tryz.func32 G G (cL _ _ _ _)<|sy hg8<|sr 1 rfl<|sz 7 G G G)<|so G G G<|sr 1 rfl<|sg 5 16 45 50 false G G (fun hg17=>by
      have hq17:=hg17;try simp only [o1,o2,o3,o4,o5,o6,o7,o8,o9,oa] at hq17
      exact sy hg17<|sf kC rfl<|sy hg17<|sl S 0 aD G G G<|sy hg17<|sf kD rfl<|sy hg17<|sl S 0 aD G G G<|sy hg17<|sr 1 rfl<|sz 5 G G G)<|so G G G<|sr 1 rfl<|sg 4 23 52 56 false G G (fun hg24=>by
      have hq24:=hg24;try simp only [o1,o2,o3,o4,o5,o6,o7,o8,o9,oa] at hq24
      exact sy hg24<|sf sJ rfl<|sy hg24<|sl S 0 aD G G G<|sy hg24<|sc rfl Tryz.func32 G G (cL _ _ _ _)<|sy hg24<|sr 1 rfl<|sz 4 G G G)<|so G G G<|sr 1 rfl<|sg 4 29 58 62 false G G (fun hg30=>by
      have hq30:=hg30;try simp only [o1,o2,o3,o4,o5,o6,o7,o8,o9,oa] at hq30
      exact sy hg30<|sf yW rfl<|sy hg30<|sl S 0 aD G G G<|sy hg30<|sc rfl Tryz.func32 G G (cL _ _ _ _)<|sy hg30<|sr 1 rfl<|sz 4 G G G)<|so G G G<|sr 1 rfl<|sg 4 35 64 68 false G G (fun hg36=>by
      have hq36:=hg36;try simp only [o1,o2,o3,o4,o5,o6,o7,o8,o9,oa] at hq36
      exact sy hg36<|sf gK rfl<|sy hg36<|sl S 0 aD G G G<|sy hg36<|sc rfl Tryz.func32 G G (cL _ _ _ _)<|sy hg36<|sr 1 rfl<|sz 4 G G G)<|so G G G<|sE ?_;clear H a;intro a H
  refine k14 _ ?_;clear k14 K14
  refine cond_ H rfl (fun hc3=>?_) (fun hc3=>?_)
  ·skip
   try simp only [o1,o2,o3,o4,o5,o6,o7,o8,o9,oa] at hc3
   replace H:=H.keep [] rfl
   refine sS H fun K15 k15=>sr 1 rfl<|sE ?_;clear H a;intro a H
   refine k15 _ ?_;clear k15 K15
   refine wp_ret ?_
   refine ret1 (fn:=Tryz.f8) rfl H rfl ?_
   exact ⟨congrArg _ (lD (k:=k) (by omega) (by unfold pasOk;rw [Bool.and_eq_false_iff];exact .inl (fC (by omega)))).symm,(S.sel [] G G)⟩
  try simp only [o1,o2,o3,o4,o5,o6,o7,o8,o9,oa] at hc3
  refine wp_skip ?_
  refine k13 _ _ ?_
  refine wp_seq_k fun K16 k16=>?_
  refine sS H fun K17 k17=>sf gK rfl<|sl S 0 aD G G G<|sr 2 rfl<|sg 3 3 73 76 false G G (fun hg4=>by
      have hq4:=hg4;try simp only [o1,o2,o3,o4,o5,o6,o7,o8,o9,oa] at hq4
      exact sy hg4<|sf gK rfl<|sy hg4<|sl S 0 aD G G G<|sy hg4<|sr 1 rfl<|sz 3 G G G)<|so G G G<|sE ?_;clear H a;intro a H
  refine k17 _ ?_;clear k17 K17
  refine cond_ H rfl (fun hc4=>?_) (fun hc4=>?_)
  ·skip
   try simp only [o1,o2,o3,o4,o5,o6,o7,o8,o9,oa] at hc4
   refine wp_seq_k fun K18 k18=>?_
   replace H:=H.keep [1,3,4,5] rfl
   refine seq_list fun K19 k19=>?_
   refine ls 2 H<|sf dQ rfl<|sl S 0 aD G G G<|sE ?_;clear H a;intro a H
   refine aA H G G Tryz.func32 G G (cL _ _ _ _) ?_;clear H a
   rintro _ _ a ⟨rfl,rfl⟩ H
   refine ls 2 H<|sr 2 rfl<|sE ?_;clear H a;intro a H
   apply cI (i:=4) (g:=82) (t:=86) (b:=false) 4 H S G G (by kernel_rfl) (by kernel_rfl) G G
   case h1=>
    intro hg5
    have hq5:=hg5;try simp only [o1,o2,o3,o4,o5,o6,o7,o8,o9,oa] at hq5
    refine ls 3 H<|sy hg5<|sr 1 rfl<|sy hg5<|sf dQ rfl<|sy hg5<|sl S 0 aD G G G<|sE ?_;intro a H
    refine dB H G G (by assumption) ?_
    refine aA H G G Tryz.func33 G G (Sq ml A9 c9 _ _ (ownM.inS S (i:=1) rfl) (by have:=hM.1;omega)) ?_
    rintro _ _ a ⟨rfl,S2⟩ H
    replace S:=S.call S2;clear S2
    exact wpList_nil ⟨H.strip 4 G G,(S.sel [0,1,2] G G)⟩
   clear H a S;intro a _ H S
   refine ls 1 H<|so G G G<|sE ?_;clear H a;intro a H
   refine k19 _ _ ?_;clear k19 K19
   refine cond_ H rfl (fun hc5=>?_) (fun hc5=>?_)
   ·skip
    try simp only [o1,o2,o3,o4,o5,o6,o7,o8,o9,oa] at hc5
    replace H:=H.keep [] rfl
    refine sS H fun K20 k20=>sr 1 rfl<|sE ?_;clear H a;intro a H
    refine k20 _ ?_;clear k20 K20
    refine wp_ret ?_
    refine ret1 (fn:=Tryz.f8) rfl H rfl ?_
    exact ⟨congrArg _ (lD (k:=k) (by omega) (Sn hM hc5 hc4)).symm,(S.sel [] G G)⟩
   try simp only [o1,o2,o3,o4,o5,o6,o7,o8,o9,oa] at hc5
   have hz:=hM.fresh hc5.1.1 hc5.2
   refine wp_skip ?_
   refine k18 _ _ ?_
   refine one_list ?_
   refine ls 3 H<|sr 1 rfl<|sf dQ rfl<|sl S 0 aD G G G<|sE ?_;clear H a;intro a H
   refine bB H rfl S aW bC fG G G G G G G G G G ?_;clear H a S;intro A1 _ a hA1 S H
   refine cB H rfl S aW bC fG nF G G (i:=2) G G G (ownM.inS S (i:=0) rfl) (Kl (w8one rfl)) (by have:=hM.1;omega) (by have:=hM.1;omega) ?_;clear H a S;intro A2 c2 _ a S H
   replace S:=S.recell (i:=2) rfl (cell':=icl (ml++[cF ps k])) (fun q j hq hj=>Cv rfl q j hq hj)
   rw [show ml.length+1=(ml++[cF ps k]).length by simp] at H S
   refine ls 1 H<|sr 1 rfl<|sE ?_;clear H a;intro a H
   refine k16 _ _ ?_
   replace H:=H.keep [1,3,4,5] rfl
   refine sS H fun K22 k22=>sf gK rfl<|sl S 1 aD G G G<|sr 1 rfl<|sE ?_;clear H a;intro a H
   refine k22 _ ?_;clear k22 K22
   refine condE H rfl (fun hc6=>?_) (fun hc6=>?_)
   ·skip
    refine sS H fun K23 k23=>sf jE rfl<|sl S 1 aD G G G<|sc rfl Tryz.func32 G G (cL _ _ _ _)<|sr 1 rfl<|sE ?_;clear H a;intro a H
    refine k23 _ ?_;clear k23 K23
    refine cond_ H rfl (fun hc7=>?_) (fun hc7=>?_)
    ·skip
     try simp only [o1,o2,o3,o4,o5,o6,o7,o8,o9,oa] at hc7
     refine sS H fun K24 k24=>sr 1 rfl<|sE ?_;clear H a;intro a H
     refine k24 _ ?_;clear k24 K24
     refine wp_ret ?_
     refine ret1 (fn:=Tryz.f8) rfl H rfl ?_
     exact ⟨congrArg _ (lD (k:=k) (by omega) (by unfold pasOk;rw [Bool.and_eq_false_iff];exact .inl (fC (by omega)))).symm,(S.sel [] G G)⟩
    try simp only [o1,o2,o3,o4,o5,o6,o7,o8,o9,oa] at hc7
    refine wp_skip ?_
    refine k11 _ _ ?_
    replace H:=H.keep [1,3,4] rfl
    refine sO H<|sr 1 rfl<|sd (aK G G (by unfold i64ok;omega))<|sr 1 rfl<|sE ?_;clear H a;intro a H
    exact k8 (g1-1) (k+1,_,_,_) a _ (by omega) (by first|exact ⟨by omega,by omega,cN hA (pG (eJ.2 (by omega)) hz),hM.add⟩|exact ⟨by omega,by omega,cN hA (pH (eJ.2 (by omega)) (by omega)),hM.skip (by unfold cF;omega)⟩) (S.sel [2,3] G G) (H.keep [3,4,1] rfl)
   refine sS H fun K26 k26=>sf jE rfl<|sl S 1 aD G G G<|sr 1 rfl<|sE ?_;clear H a;intro a H
   refine k26 _ ?_;clear k26 K26
   refine condN H rfl (fun hc8=>?_) (fun hc8=>?_)
   ·skip
    refine sS H fun K27 k27=>sr 1 rfl<|sE ?_;clear H a;intro a H
    refine k27 _ ?_;clear k27 K27
    refine wp_ret ?_
    refine ret1 (fn:=Tryz.f8) rfl H rfl ?_
    exact ⟨congrArg _ (lD (k:=k) (by omega) (by unfold pasOk;rw [Bool.and_eq_false_iff];exact .inl (fC (by omega)))).symm,(S.sel [] G G)⟩
   refine wp_skip ?_
   refine k11 _ _ ?_
   replace H:=H.keep [1,3,4] rfl
   refine sO H<|sr 1 rfl<|sd (aK G G (by unfold i64ok;omega))<|sr 1 rfl<|sE ?_;clear H a;intro a H
   exact k8 (g1-1) (k+1,_,_,_) a _ (by omega) (by first|exact ⟨by omega,by omega,cN hA (pG (eJ.2 (by omega)) hz),hM.add⟩|exact ⟨by omega,by omega,cN hA (pH (eJ.2 (by omega)) (by omega)),hM.skip (by unfold cF;omega)⟩) (S.sel [2,3] G G) (H.keep [3,4,1] rfl)
  try simp only [o1,o2,o3,o4,o5,o6,o7,o8,o9,oa] at hc4
  refine sS H fun K29 k29=>sf dQ rfl<|sl S 0 aD G G G<|sr 1 rfl<|sE ?_;clear H a;intro a H
  refine k29 _ ?_;clear k29 K29
  refine condN H rfl (fun hc9=>?_) (fun hc9=>?_)
  ·skip
   refine sS H fun K30 k30=>sr 1 rfl<|sE ?_;clear H a;intro a H
   refine k30 _ ?_;clear k30 K30
   refine wp_ret ?_
   refine ret1 (fn:=Tryz.f8) rfl H rfl ?_
   exact ⟨congrArg _ (lD (k:=k) (by omega) (by unfold pasOk;rw [Bool.and_eq_false_iff];exact .inl (fC (by omega)))).symm,(S.sel [] G G)⟩
  refine wp_skip ?_
  refine k16 _ _ ?_
  replace H:=H.keep [1,3,4,5] rfl
  refine sS H fun K31 k31=>sf gK rfl<|sl S 0 aD G G G<|sr 1 rfl<|sE ?_;clear H a;intro a H
  refine k31 _ ?_;clear k31 K31
  refine condE H rfl (fun hc10=>?_) (fun hc10=>?_)
  ·skip
   refine sS H fun K32 k32=>sf jE rfl<|sl S 0 aD G G G<|sc rfl Tryz.func32 G G (cL _ _ _ _)<|sr 1 rfl<|sE ?_;clear H a;intro a H
   refine k32 _ ?_;clear k32 K32
   refine cond_ H rfl (fun hc11=>?_) (fun hc11=>?_)
   ·skip
    try simp only [o1,o2,o3,o4,o5,o6,o7,o8,o9,oa] at hc11
    refine sS H fun K33 k33=>sr 1 rfl<|sE ?_;clear H a;intro a H
    refine k33 _ ?_;clear k33 K33
    refine wp_ret ?_
    refine ret1 (fn:=Tryz.f8) rfl H rfl ?_
    exact ⟨congrArg _ (lD (k:=k) (by omega) (by unfold pasOk;rw [Bool.and_eq_false_iff];exact .inl (fC (by omega)))).symm,(S.sel [] G G)⟩
   try simp only [o1,o2,o3,o4,o5,o6,o7,o8,o9,oa] at hc11
   refine wp_skip ?_
   refine k11 _ _ ?_
   replace H:=H.keep [1,3,4] rfl
   refine sO H<|sr 1 rfl<|sd (aK G G (by unfold i64ok;omega))<|sr 1 rfl<|sE ?_;clear H a;intro a H
   exact k8 (g1-1) (k+1,_,_,_) a _ (by omega) (by first|exact ⟨by omega,by omega,cN hA (pG (eJ.2 (by omega)) hz),hM.add⟩|exact ⟨by omega,by omega,cN hA (pH (eJ.2 (by omega)) (by omega)),hM.skip (by unfold cF;omega)⟩) (S.sel [1,2] G G) (H.keep [3,4,1] rfl)
  refine sS H fun K35 k35=>sf jE rfl<|sl S 0 aD G G G<|sr 1 rfl<|sE ?_;clear H a;intro a H
  refine k35 _ ?_;clear k35 K35
  refine condN H rfl (fun hc12=>?_) (fun hc12=>?_)
  ·skip
   refine sS H fun K36 k36=>sr 1 rfl<|sE ?_;clear H a;intro a H
   refine k36 _ ?_;clear k36 K36
   refine wp_ret ?_
   refine ret1 (fn:=Tryz.f8) rfl H rfl ?_
   exact ⟨congrArg _ (lD (k:=k) (by omega) (by unfold pasOk;rw [Bool.and_eq_false_iff];exact .inl (fC (by omega)))).symm,(S.sel [] G G)⟩
  refine wp_skip ?_
  refine k11 _ _ ?_
  replace H:=H.keep [1,3,4] rfl
  refine sO H<|sr 1 rfl<|sd (aK G G (by unfold i64ok;omega))<|sr 1 rfl<|sE ?_;clear H a;intro a H
  exact k8 (g1-1) (k+1,_,_,_) a _ (by omega) (by first|exact ⟨by omega,by omega,cN hA (pG (eJ.2 (by omega)) hz),hM.add⟩|exact ⟨by omega,by omega,cN hA (pH (eJ.2 (by omega)) (by omega)),hM.skip (by unfold cF;omega)⟩) (S.sel [1,2] G G) (H.keep [3,4,1] rfl)
 refine wp_exit ?_
 refine k6 _ _ ?_
 refine wp_seq_k fun K38 k38=>?_
 refine sS H fun K39 k39=>sr 1 rfl<|sE ?_;clear H a;intro a H
 refine k39 _ ?_;clear k39 K39
 refine wp_block ?_
 refine loop_st (X:=Nat) (R0:=_) [1] H rfl (fun k2=>[(6,.int .i64 (k2:Int))]) (fun k2=>[]) (fun g k2=>k2≤xs.length∧g+k2=xs.length∧allN (exOk pl xs) k2=true) (xs.length) 0 ?_ (S.sel [0,1] G G) (H.keep [6,1] rfl) ?_
 · exact ⟨by omega,by omega,rfl⟩
 clear H S a
 intro g2 x2 a w2 hp S H K40 k40
 obtain ⟨k2,rfl⟩:∃ y,y=x2:=⟨_,rfl⟩
 refine wp_seq_k fun K41 k41=>?_
 refine sS H fun K42 k42=>sr 1 rfl<|sf oG rfl<|sl S 1 bR G G G<|sL aW rfl<|sr 1 rfl<|sE ?_;clear H a;intro a H
 refine k42 _ ?_;clear k42 K42
 refine condL H rfl (fun hc13=>?_) (fun hc13=>?_)
 ·skip
  refine wp_skip ?_
  refine k41 _ _ ?_
  refine wp_seq_k fun K43 k43=>?_
  refine wp_block ?_
  replace H:=H.keep [1,6] rfl
  replace S:=S.drew
  refine sD H fun K44 k44=>sf oG rfl<|sl S 1 bR G G G<|sr 1 rfl<|si aW bC G G (hxs.adr (by omega)) (by omega)<|slm aD rfl (hxs.rd S (by omega) (by omega))<|sf eK rfl<|sl S 1 aD G G G<|sd (aS G G (by unfold i64ok;omega))<|sc rfl Tryz.func32 G G (cL _ _ _ _)<|sr 2 rfl<|sg 16 10 123 139 false G G (fun hg11=>by
      have hq11:=hg11;try simp only [o1,o2,o3,o4,o5,o6,o7,o8,o9,oa] at hq11
      exact sy hg11<|sr 1 rfl<|sy hg11<|sr 1 rfl<|sy hg11<|sr 1 rfl<|sg 12 13 126 138 true G G (fun hg14=>by
           have hq14:=hg14;try simp only [o1,o2,o3,o4,o5,o6,o7,o8,o9,oa] at hq14
           exact sy hg14<|sf oG rfl<|sy hg14<|sl S 1 bR G G G<|sy hg14<|sr 1 rfl<|sy hg14<|si aW bC G G (hxs.adr (by omega)) (by omega)<|sy hg14<|slm aD rfl (hxs.rd S (by omega) (by omega))<|sy hg14<|sf oG rfl<|sy hg14<|sl S 1 bR G G G<|sy hg14<|sr 1 rfl<|sy hg14<|sd (aS G G (by unfold i64ok;omega))<|sy hg14<|sI aW bC G G (hxs.adr (by omega)) (by omega) (by omega)<|sy hg14<|slm aD rfl (hxs.rd S (by omega) (by omega))<|sy hg14<|sr 1 rfl<|sz 12 G G G)<|sy hg11<|sa G G G<|sz 5 G G G)<|so G G G<|sE ?_;clear H a;intro a H
  refine k44 _ ?_;clear k44 K44
  refine cond_ H rfl (fun hc14=>?_) (fun hc14=>?_)
  ·skip
   try simp only [o1,o2,o3,o4,o5,o6,o7,o8,o9,oa] at hc14
   rw [show ((k2:Int)-1).toNat=k2-1 by omega] at hc14
   replace H:=H.keep [] rfl
   refine sS H fun K45 k45=>sr 1 rfl<|sE ?_;clear H a;intro a H
   refine k45 _ ?_;clear k45 K45
   refine wp_ret ?_
   refine ret1 (fn:=Tryz.f8) rfl H rfl ?_
   exact ⟨congrArg _ (Uc (k:=k2) (by omega) (Sp (by omega))).symm,(S.sel [] G G)⟩
  try simp only [o1,o2,o3,o4,o5,o6,o7,o8,o9,oa] at hc14
  rw [show ((k2:Int)-1).toNat=k2-1 by omega] at hc14
  refine wp_skip ?_
  refine k43 _ _ ?_
  refine sO H<|sr 1 rfl<|sd (aK G G (by unfold i64ok;omega))<|sr 1 rfl<|sE ?_;clear H a;intro a H
  exact k40 (g2-1) (k2+1) a _ (by omega) (⟨by omega,by omega,cN hp.2.2 (So (by omega))⟩) (S.sel [0,1] G G) (H.keep [6,1] rfl)
 refine wp_exit ?_
 refine k38 _ _ ?_
 refine sS H fun K47 k47=>sr 1 rfl<|sE ?_;clear H a;intro a H
 refine k47 _ ?_;clear k47 K47
 refine wp_ret ?_
 refine ret1 (fn:=Tryz.f8) rfl H rfl ?_
 have hk9:k=ps.length:=by omega
 have hk8:k2=xs.length:=by omega
 exact ⟨congrArg _ (Ud (by omega) (hk9 ▸ hA) (hk8 ▸ hp.2.2)).symm,(S.sel [] G G)⟩
end
section
theorem pI (pl:Int) (ps:List Psg) (PA:Option Addr) (pc:Nat) (xs:List Int) (XA:Option Addr) (xc:Nat) (pe:List Int) (BA:Option Addr) (bc:Nat) (w:World) (hpe:InS w noF 1 BA pe.length (icl pe)) (hpen:pe.length≤9223372036854775807) :
    Calls Tryz.prog 66 [.agg [.int .i64 pl,.slice PA ps.length pc,.slice XA xs.length xc].toArray,.slice BA pe.length bc].toArray w (Ret (fun v w'=>v = .bool (eT pl pe)∧St w noF [] w')):=by
 refine enter Tryz.func66 rfl Tryz.ntmps66 rfl (fun a H=>?_)
 have S:=St.start w
 refine seq_list fun K1 k1=>?_
 refine aO H rfl S G G ?_;clear H a S;intro b2 _ a hb2 hbw2 S H
 refine ls 1 H<|sr 1 rfl<|sE ?_;clear H a;intro a H
 refine k1 _ _ ?_;clear k1 K1
 refine wp_seq_k fun K2 k2=>?_
 refine sS H fun K3 k3=>sr 1 rfl<|sE ?_;clear H a;intro a H
 refine k3 _ ?_;clear k3 K3
 refine wp_block ?_
 refine loop_st (X:=Nat) (R0:=_) [1,2] H rfl (fun k=>[(5,.int .i64 (k:Int))]) (fun k=>[]) (fun g k=>k≤pe.length∧g+k=pe.length∧allN (fun k=>decide (0≤pe.getD k 0∧pe.getD k 0≤1000)) k=true) (pe.length) 0 ?_ (S.sel [0] G G) (H.keep [5,1,2] rfl) ?_
 · exact ⟨by omega,by omega,rfl⟩
 clear H S a
 intro g1 x1 a w1 hp S H K4 k4
 obtain ⟨k,rfl⟩:∃ y,y=x1:=⟨_,rfl⟩
 refine wp_seq_k fun K5 k5=>?_
 refine sS H fun K6 k6=>sr 2 rfl<|sL aW rfl<|sr 1 rfl<|sE ?_;clear H a;intro a H
 refine k6 _ ?_;clear k6 K6
 refine condL H rfl (fun hc1=>?_) (fun hc1=>?_)
 ·skip
  refine wp_skip ?_
  refine k5 _ _ ?_
  refine wp_seq_k fun K7 k7=>?_
  refine wp_block ?_
  replace H:=H.keep [1,2,5] rfl
  refine sS H fun K8 k8=>sr 2 rfl<|si aW bC G G (hpe.adr (by omega)) (by omega)<|slm aD rfl (hpe.rd S (by omega) (by omega))<|sc rfl Tryz.func32 G G (cL _ _ _ _)<|sr 1 rfl<|sE ?_;clear H a;intro a H
  refine k8 _ ?_;clear k8 K8
  refine cond_ H rfl (fun hc2=>?_) (fun hc2=>?_)
  ·skip
   try simp only [o1,o2,o3,o4,o5,o6,o7,o8,o9,oa] at hc2
   refine sS H fun K9 k9=>sr 1 rfl<|sE ?_;clear H a;intro a H
   refine k9 _ ?_;clear k9 K9
   refine wp_ret ?_
   refine ret1 (fn:=Tryz.f66) rfl H rfl ?_
   refine ⟨congrArg Value.bool ?_,(S.sel [] G G)⟩;unfold eT;rw [fW (k:=k) (by omega) (by rw [decide_eq_false_iff_not];omega)];rfl
  try simp only [o1,o2,o3,o4,o5,o6,o7,o8,o9,oa] at hc2
  refine wp_skip ?_
  refine k7 _ _ ?_
  replace H:=H.keep [1,2,5] rfl
  refine sO H<|sr 1 rfl<|sd (aK G G (by unfold i64ok;omega))<|sr 1 rfl<|sE ?_;clear H a;intro a H
  exact k4 (g1-1) (k+1) a _ (by omega) (⟨by omega,by omega,cN hp.2.2 (by rw [decide_eq_true_eq];omega)⟩) (S.sel [0] G G) (H.keep [5,1,2] rfl)
 refine wp_exit ?_
 refine k2 _ _ ?_
 refine sS H fun K11 k11=>sr 1 rfl<|sL aW rfl<|sf eK rfl<|sl S 0 aD G G G<|sr 2 rfl<|sE ?_;clear H a;intro a H
 refine k11 _ ?_;clear k11 K11
 refine wp_ret ?_
 refine ret1 (fn:=Tryz.f66) rfl H rfl ?_
 refine ⟨congrArg Value.bool ?_,(S.sel [] G G)⟩;unfold eT;rw [show pe.length=k by omega,hp.2.2,Bool.true_and]
theorem xR (pl:Int) (ps:List Psg) (PA:Option Addr) (pc:Nat) (xs:List Int) (XA:Option Addr) (xc:Nat) (day:List Hq) (HA:Option Addr) (hcp:Nat) (DA:Nat→Option Addr) (dc:Nat→Nat) (w:World) (hps:InS w noF 7 PA ps.length (pcell ps)) (hpn:ps.length≤9223372036854775807) (hxs:InS w noF 1 XA xs.length (icl xs)) (hxn:xs.length≤9223372036854775807) (hday:InS w noF 3 HA day.length (hcl day DA dc)) (hdn:day.length≤9223372036854775807) (hdp:∀ k,k<day.length→InS w noF 1 (DA k) (day.getD k Hq.zero).pe.length (icl (day.getD k Hq.zero).pe)) (hdl:∀ k,k<day.length→(day.getD k Hq.zero).pe.length≤9223372036854775807) :
    Calls Tryz.prog 68 [.agg [.int .i64 pl,.slice PA ps.length pc,.slice XA xs.length xc].toArray,.slice HA day.length hcp].toArray w (Ret (fun v w'=>v = .int .i64 (dayE pl ps xs day)∧St w noF [] w')):=by
 refine enter Tryz.func68 rfl Tryz.ntmps68 rfl (fun a H=>?_)
 have S:=St.start w
 refine seq_list fun K1 k1=>?_
 refine aO H rfl S G G ?_;clear H a S;intro b2 _ a hb2 hbw2 S H
 refine ls 1 H<|sr 1 rfl<|sE ?_;clear H a;intro a H
 refine k1 _ _ ?_;clear k1 K1
 refine seq_list fun K2 k2=>?_
 refine ls 1 H<|sd ((aE eR gY rfl S (i:=0) G G))<|sE ?_;clear H a;intro a H
 refine aA H G G Tryz.func8 G G (lY pl ps PA pc xs XA xc _ (hps.now S) hpn (hxs.now S) hxn) ?_;clear H a
 rintro _ _ a ⟨rfl,S2⟩ H
 replace S:=S.call S2;clear S2
 refine ls 1 H<|sr 1 rfl<|sE ?_;clear H a;intro a H
 refine k2 _ _ ?_;clear k2 K2
 refine wp_seq_k fun K3 k3=>?_
 refine sS H fun K4 k4=>sr 2 rfl<|sE ?_;clear H a;intro a H
 refine k4 _ ?_;clear k4 K4
 refine condN H rfl (fun hc1=>?_) (fun hc1=>?_)
 ·skip
  refine sS H fun K5 k5=>sr 2 rfl<|sE ?_;clear H a;intro a H
  refine k5 _ ?_;clear k5 K5
  refine wp_ret ?_
  refine ret1 (fn:=Tryz.f68) rfl H rfl ?_
  refine ⟨congrArg (Value.int .i64) ?_,(S.sel [] G G)⟩;unfold dayE;rw [if_pos hc1]
 have hst:stE pl ps xs=0:=by omega
 refine wp_skip ?_
 refine k3 _ _ ?_
 refine wp_seq_k fun K6 k6=>?_
 replace H:=H.keep [1,2] rfl
 refine sS H fun K7 k7=>sr 1 rfl<|sL jW rfl<|sr 1 rfl<|sE ?_;clear H a;intro a H
 refine k7 _ ?_;clear k7 K7
 refine condL H rfl (fun hc2=>?_) (fun hc2=>?_)
 ·skip
  refine sS H fun K8 k8=>sr 1 rfl<|sE ?_;clear H a;intro a H
  refine k8 _ ?_;clear k8 K8
  refine wp_ret ?_
  refine ret1 (fn:=Tryz.f68) rfl H rfl ?_
  refine ⟨congrArg (Value.int .i64) ?_,(S.sel [] G G)⟩;unfold dayE;rw [if_neg (by omega),if_neg];unfold dayOk;rw [decide_eq_false (p:=day.length≤48) (by omega),Bool.and_false];simp
 refine wp_skip ?_
 refine k6 _ _ ?_
 refine wp_seq_k fun K9 k9=>?_
 refine sS H fun K10 k10=>sr 1 rfl<|sE ?_;clear H a;intro a H
 refine k10 _ ?_;clear k10 K10
 refine wp_block ?_
 refine loop_st (X:=Nat) (R0:=_) [1,2] H rfl (fun k=>[(6,.int .i64 (k:Int))]) (fun k=>[]) (fun g k=>k≤day.length∧g+k=day.length∧allN (fun k=>hqOk pl (day.getD k Hq.zero)) k=true) (day.length) 0 ?_ (S.sel [0] G G) (H.keep [6,1,2] rfl) ?_
 · exact ⟨by omega,by omega,rfl⟩
 clear H S a
 intro g1 x1 a w1 hp S H K11 k11
 obtain ⟨k,rfl⟩:∃ y,y=x1:=⟨_,rfl⟩
 refine wp_seq_k fun K12 k12=>?_
 refine sS H fun K13 k13=>sr 2 rfl<|sL jW rfl<|sr 1 rfl<|sE ?_;clear H a;intro a H
 refine k13 _ ?_;clear k13 K13
 refine condL H rfl (fun hc3=>?_) (fun hc3=>?_)
 ·skip
  refine wp_skip ?_
  refine k12 _ _ ?_
  refine wp_seq_k fun K14 k14=>?_
  refine wp_block ?_
  by_cases hB:0≤(day.getD k Hq.zero).out∧(day.getD k Hq.zero).out≤4095
  ·skip
   replace H:=H.keep [1,2,6] rfl
   replace S:=S.drew
   refine seq_wq [(0,true),(1,true),(2,true),(3,true),(4,true),(5,false),(6,true),(7,true),(8,true),(9,true),(10,true),(11,true),(12,true),(13,true),(14,false),(15,true),(16,true)] (by kernel_rfl) (by kernel_rfl) (S.sel [0] G G) fun K15 k15=>?_
   refine qF H<|qr 2 rfl<|qd rfl (fun _ S=>aZ jW kX G G (hday.adr (by omega)) (by omega))<|qd rfl (fun _ S=>(bE oL rfl))<|qd rfl (fun _ S=>aG aD rfl (hday.rd S (by omega) (by omega)))<|qK ?_;clear H a;intro a H
   refine aV rfl ?_
   refine aA H G G Tryz.func65 G G (xQ _ _) ?_;clear H a
   rintro _ _ a ⟨rfl,rfl⟩ H
   rw [decide_eq_true hB.1,decide_eq_true hB.2,Bool.and_self] at H
   refine wpList_nil (And.intro (S.sel [0] G G) ?_)
   refine qF H<|qr 2 rfl<|qK ?_;clear H a;intro a H
   refine aF H G G G G (fun _ S=>(aE eR gY rfl S (i:=0) G G)) ?_;clear H a;intro a H
   refine aF H G G G G (fun _ S=>aL rfl) ?_;clear H a;intro a H
   refine aF H G G G G (fun _ S=>aL rfl) ?_;clear H a;intro a H
   refine aF H G G G G (fun _ S=>aZ jW kX G G (hday.adr (by omega)) (by omega)) ?_;clear H a;intro a H
   refine aF H G G G G (fun _ S=>(bE yZ rfl)) ?_;clear H a;intro a H
   refine aF H G G G G (fun _ S=>aG bR rfl (hday.rd S (by omega) (by omega))) ?_;clear H a;intro a H
   refine aV rfl ?_
   refine aY H G G ?_
   refine aA H G G Tryz.func66 G G (pI pl ps PA pc xs XA xc (day.getD k Hq.zero).pe (DA k) (dc k) _ ((hdp k (by omega)).now S) (hdl k (by omega))) ?_;clear H a
   rintro _ _ a ⟨rfl,S2⟩ H
   replace S:=S.call S2;clear S2
   refine wpList_nil (And.intro (S.sel [0] G G) ?_)
   refine aF H G G G G (fun _ S=>cS rfl) ?_;clear H a;intro a H
   refine qF H<|qd rfl (fun _ S=>(aX G G G))<|qK ?_;clear H a;intro a H
   refine bO ?_
   refine k15 _ _ ?_
   clear k15 K15
   refine cond_ H rfl (fun hc4=>?_) (fun hc4=>?_)
   ·skip
    try simp only [o1,o2,o3,o4,o5,o6,o7,o8,o9,oa] at hc4
    replace H:=H.keep [] rfl
    refine sS H fun K16 k16=>sr 1 rfl<|sE ?_;clear H a;intro a H
    refine k16 _ ?_;clear k16 K16
    refine wp_ret ?_
    refine ret1 (fn:=Tryz.f68) rfl H rfl ?_
    refine ⟨congrArg (Value.int .i64) ?_,(S.sel [] G G)⟩;unfold dayE;rw [if_neg (by omega),tF (k:=k) (by omega) (by unfold hqOk;rw [hc4.resolve_left (by simp),Bool.and_false])];rfl
   try simp only [o1,o2,o3,o4,o5,o6,o7,o8,o9,oa] at hc4
   refine wp_skip ?_
   refine k14 _ _ ?_
   refine sO H<|sr 1 rfl<|sd (aK G G (by unfold i64ok;omega))<|sr 1 rfl<|sE ?_;clear H a;intro a H
   exact k11 (g1-1) (k+1) a _ (by omega) (⟨by omega,by omega,cN hp.2.2 (by unfold hqOk;rw [decide_eq_true hB,hc4.2];rfl)⟩) (S.sel [0] G G) (H.keep [6,1,2] rfl)
  replace H:=H.keep [1,2,6] rfl
  replace S:=S.drew
  refine seq_wq [(0,true),(1,true),(2,true),(3,true),(4,true),(5,false),(6,true),(7,true),(8,true),(9,true),(10,true),(11,true),(12,true),(13,true),(14,true),(15,true),(16,true)] (by kernel_rfl) (by kernel_rfl) (S.sel [0] G G) fun K18 k18=>?_
  refine qF H<|qr 2 rfl<|qd rfl (fun _ S=>aZ jW kX G G (hday.adr (by omega)) (by omega))<|qd rfl (fun _ S=>(bE oL rfl))<|qd rfl (fun _ S=>aG aD rfl (hday.rd S (by omega) (by omega)))<|qK ?_;clear H a;intro a H
  refine aV rfl ?_
  refine aA H G G Tryz.func65 G G (xQ _ _) ?_;clear H a
  rintro _ _ a ⟨rfl,rfl⟩ H
  rw [Bool.and_eq_false_iff.2 (by simp only [decide_eq_false_iff_not];omega)] at H
  refine wpList_nil (And.intro (S.sel [0] G G) ?_)
  refine qF H<|qr 2 rfl<|qK ?_;clear H a;intro a H
  refine aJ H G G G G G ?_;clear H a;intro a H
  refine aJ H G G G G G ?_;clear H a;intro a H
  refine aJ H G G G G G ?_;clear H a;intro a H
  refine aJ H G G G G G ?_;clear H a;intro a H
  refine aJ H G G G G G ?_;clear H a;intro a H
  refine aJ H G G G G G ?_;clear H a;intro a H
  refine aJ H G G G G G ?_;clear H a;intro a H
  refine aJ H G G G G G ?_;clear H a;intro a H
  refine qF H<|qd rfl (fun _ S=>(aT G G G))<|qK ?_;clear H a;intro a H
  refine bO ?_
  refine k18 _ _ ?_
  clear k18 K18
  refine cond_ H rfl (fun hc5=>?_) (fun hc5=>?_)
  ·skip
   skip
   replace H:=H.keep [] rfl
   refine sS H fun K19 k19=>sr 1 rfl<|sE ?_;clear H a;intro a H
   refine k19 _ ?_;clear k19 K19
   refine wp_ret ?_
   refine ret1 (fn:=Tryz.f68) rfl H rfl ?_
   refine ⟨congrArg (Value.int .i64) ?_,(S.sel [] G G)⟩;unfold dayE;rw [if_neg (by omega),tF (k:=k) (by omega) (by unfold hqOk;rw [decide_eq_false hB];rfl)];rfl
  skip
  cases hc5
 refine wp_exit ?_
 refine k9 _ _ ?_
 refine sS H fun K20 k20=>sr 1 rfl<|sE ?_;clear H a;intro a H
 refine k20 _ ?_;clear k20 K20
 refine wp_ret ?_
 refine ret1 (fn:=Tryz.f68) rfl H rfl ?_
 obtain rfl:k=day.length:=by omega
 exact ⟨congrArg (Value.int .i64) (vN hst (by rw [zL hp.2.2];exact decide_eq_true (by omega))).symm,(S.sel [] G G)⟩
theorem pJ (pl:Int) (ps:List Psg) (PA:Option Addr) (pc:Nat) (xs:List Int) (XA:Option Addr) (xc:Nat) (day:List Hq) (HA:Option Addr) (hcp:Nat) (DA:Nat→Option Addr) (dc:Nat→Nat) (l:List Prm) (LA:Option Addr) (lc:Nat) (w:World) (hps:InS w noF 7 PA ps.length (pcell ps)) (hpn:ps.length≤9223372036854775807) (hxs:InS w noF 1 XA xs.length (icl xs)) (hxn:xs.length≤9223372036854775807) (hday:InS w noF 3 HA day.length (hcl day DA dc)) (hdn:day.length≤9223372036854775807) (hdp:∀ k,k<day.length→InS w noF 1 (DA k) (day.getD k Hq.zero).pe.length (icl (day.getD k Hq.zero).pe)) (hdl:∀ k,k<day.length→(day.getD k Hq.zero).pe.length≤9223372036854775807) (hl:InS w noF 5 LA l.length (nH l)) (hln:l.length≤9223372036854775807) :
    Calls Tryz.prog 27 [.agg [.int .i64 pl,.slice PA ps.length pc,.slice XA xs.length xc].toArray,.slice HA day.length hcp,.slice LA l.length lc].toArray w (Ret (fun v w'=>v = .int .i64 (keptE pl ps xs day l)∧St w noF [] w')):=by
 refine enter Tryz.func27 rfl Tryz.ntmps27 rfl (fun a H=>?_)
 have S:=St.start w
 refine seq_list fun K1 k1=>?_
 refine aO H rfl S G G ?_;clear H a S;intro b3 _ a hb3 hbw3 S H
 refine ls 1 H<|sr 1 rfl<|sE ?_;clear H a;intro a H
 refine k1 _ _ ?_;clear k1 K1
 refine seq_list fun K2 k2=>?_
 refine ls 2 H<|sd ((aE eR gY rfl S (i:=0) G G))<|sr 1 rfl<|sE ?_;clear H a;intro a H
 refine aA H G G Tryz.func68 G G (xR pl ps PA pc xs XA xc day HA hcp DA dc _ (hps.now S) hpn (hxs.now S) hxn (hday.now S) hdn (fun k hk=>(hdp k hk).now S) hdl) ?_;clear H a
 rintro _ _ a ⟨rfl,S2⟩ H
 replace S:=S.call S2;clear S2
 refine ls 1 H<|sr 1 rfl<|sE ?_;clear H a;intro a H
 refine k2 _ _ ?_;clear k2 K2
 refine wp_seq_k fun K3 k3=>?_
 refine sS H fun K4 k4=>sr 2 rfl<|sE ?_;clear H a;intro a H
 refine k4 _ ?_;clear k4 K4
 refine condN H rfl (fun hc1=>?_) (fun hc1=>?_)
 ·skip
  replace H:=H.keep [7] rfl
  refine sS H fun K5 k5=>sr 2 rfl<|sE ?_;clear H a;intro a H
  refine k5 _ ?_;clear k5 K5
  refine wp_ret ?_
  refine ret1 (fn:=Tryz.f27) rfl H rfl ?_
  refine ⟨congrArg (Value.int .i64) ?_,(S.sel [] G G)⟩;unfold keptE;rw [if_pos hc1]
 have hdE:dayE pl ps xs day=0:=by omega
 have hV:=oR (xC hdE).1
 have hP10:=hV.size
 refine wp_skip ?_
 refine k3 _ _ ?_
 refine wp_seq_k fun K6 k6=>?_
 refine sS H fun K7 k7=>sr 1 rfl<|sL oF rfl<|sr 1 rfl<|sE ?_;clear H a;intro a H
 refine k7 _ ?_;clear k7 K7
 refine condL H rfl (fun hc2=>?_) (fun hc2=>?_)
 ·skip
  refine sS H fun K8 k8=>sr 1 rfl<|sE ?_;clear H a;intro a H
  refine k8 _ ?_;clear k8 K8
  refine wp_ret ?_
  refine ret1 (fn:=Tryz.f27) rfl H rfl ?_
  exact ⟨congrArg (Value.int .i64) (mP hdE (Aj (by omega))).symm,(S.sel [] G G)⟩
 refine wp_skip ?_
 refine k6 _ _ ?_
 refine wp_seq_k fun K9 k9=>?_
 refine sS H fun K10 k10=>sr 1 rfl<|sE ?_;clear H a;intro a H
 refine k10 _ ?_;clear k10 K10
 refine wp_block ?_
 refine loop_st (X:=Nat) (R0:=_) [2,3] H rfl (fun k=>[(8,.int .i64 (k:Int))]) (fun k=>[]) (fun g k=>k≤l.length∧g+k=l.length∧allN (fun k=>prmOk pl (l.getD k Prm.zero)) k=true) (l.length) 0 ?_ (S.sel [0] G G) (H.keep [8,2,3] rfl) ?_
 · exact ⟨by omega,by omega,rfl⟩
 clear H S a
 intro g1 x1 a w1 hp S H K11 k11
 obtain ⟨k,rfl⟩:∃ y,y=x1:=⟨_,rfl⟩
 refine wp_seq_k fun K12 k12=>?_
 refine sS H fun K13 k13=>sr 2 rfl<|sL oF rfl<|sr 1 rfl<|sE ?_;clear H a;intro a H
 refine k13 _ ?_;clear k13 K13
 refine condL H rfl (fun hc3=>?_) (fun hc3=>?_)
 ·skip
  refine wp_skip ?_
  refine k12 _ _ ?_
  refine wp_seq_k fun K14 k14=>?_
  refine wp_block ?_
  replace H:=H.keep [2,3,8] rfl
  refine seq_list fun K15 k15=>?_
  refine ls 4 H<|sr 2 rfl<|si oF oD G G (hl.adr (by omega)) (by omega)<|sd ((aU Bq oD rfl S hl (by omega) (by omega)))<|sE ?_;clear H a;intro a H
  refine aI H rfl S Ka ?_;clear H a S;intro b9 _ a hb9 hbw9 S H
  refine aB H S (i:=0) G G G G oD G G ?_
  clear H a S;intro _ a S H
  refine k15 _ _ ?_;clear k15 K15
  replace H:=H.keep [2,3,8,9] rfl
  refine sS H fun K16 k16=>sf wS rfl<|sl S 0 aD G G G<|sf eK rfl<|sl S 1 aD G G G<|sd (aS G G (by unfold i64ok;omega))<|sc rfl Tryz.func32 G G (cL _ _ _ _)<|sr 2 rfl<|sg 7 7 36 43 false G G (fun hg8=>by
      have hq8:=hg8;try simp only [o1,o2,o3,o4,o5,o6,o7,o8,o9,oa] at hq8
      exact sy hg8<|sf wT rfl<|sy hg8<|sl S 0 aD G G G<|sy hg8<|sf eK rfl<|sy hg8<|sl S 1 aD G G G<|sy hg8<|sd (aS G G (by unfold i64ok;omega))<|sy hg8<|sc rfl Tryz.func32 G G (cL _ _ _ _)<|sy hg8<|sr 1 rfl<|sz 7 G G G)<|so G G G<|sr 1 rfl<|sg 6 16 45 51 false G G (fun hg17=>by
      have hq17:=hg17;try simp only [o1,o2,o3,o4,o5,o6,o7,o8,o9,oa] at hq17
      exact sy hg17<|sf rH rfl<|sy hg17<|sl S 0 aD G G G<|sy hg17<|sf oJ rfl<|sy hg17<|sl S 0 aD G G G<|sy hg17<|sc rfl Tryz.func32 G G (cL _ _ _ _)<|sy hg17<|sr 1 rfl<|sz 6 G G G)<|so G G G<|sr 1 rfl<|sg 3 24 53 56 false G G (fun hg25=>by
      have hq25:=hg25;try simp only [o1,o2,o3,o4,o5,o6,o7,o8,o9,oa] at hq25
      exact sy hg25<|sf oJ rfl<|sy hg25<|sl S 0 aD G G G<|sy hg25<|sr 1 rfl<|sz 3 G G G)<|so G G G<|sE ?_;clear H a;intro a H
  refine k16 _ ?_;clear k16 K16
  refine cond_ H rfl (fun hc4=>?_) (fun hc4=>?_)
  ·skip
   try simp only [o1,o2,o3,o4,o5,o6,o7,o8,o9,oa] at hc4
   replace H:=H.keep [] rfl
   refine sS H fun K17 k17=>sr 1 rfl<|sE ?_;clear H a;intro a H
   refine k17 _ ?_;clear k17 K17
   refine wp_ret ?_
   refine ret1 (fn:=Tryz.f27) rfl H rfl ?_
   exact ⟨congrArg (Value.int .i64) (mP hdE (Eu (k:=k) (by omega) (Nd (by omega)))).symm,(S.sel [] G G)⟩
  try simp only [o1,o2,o3,o4,o5,o6,o7,o8,o9,oa] at hc4
  refine wp_skip ?_
  refine k14 _ _ ?_
  refine sO H<|sr 1 rfl<|sd (aK G G (by unfold i64ok;omega))<|sr 1 rfl<|sE ?_;clear H a;intro a H
  exact k11 (g1-1) (k+1) a _ (by omega) (⟨by omega,by omega,cN hp.2.2 (qB.2 (by omega))⟩) (S.sel [1] G G) (H.keep [8,2,3] rfl)
 refine wp_exit ?_
 refine k9 _ _ ?_
 refine sS H fun K19 k19=>sr 1 rfl<|sE ?_;clear H a;intro a H
 refine k19 _ ?_;clear k19 K19
 refine wp_ret ?_
 refine ret1 (fn:=Tryz.f27) rfl H rfl ?_
 obtain rfl:k=l.length:=by omega
 exact ⟨congrArg (Value.int .i64) (tX hdE (Ev hp.2.2 (by omega))).symm,(S.sel [] G G)⟩
end
section
theorem lZ (pl:Int) (ps:List Psg) (PA:Option Addr) (pc:Nat) (xs:List Int) (XA:Option Addr) (xc:Nat) (out:Int) (pe:List Int) (BA:Option Addr) (bc:Nat) (T:Int) (w:World) (hps:InS w noF 7 PA ps.length (pcell ps)) (hpn:ps.length≤9223372036854775807) (hxs:InS w noF 1 XA xs.length (icl xs)) (hxn:xs.length≤9223372036854775807) (hpe:InS w noF 1 BA pe.length (icl pe)) (hpen:pe.length≤9223372036854775807) :
    Calls Tryz.prog 25 [.agg [.int .i64 pl,.slice PA ps.length pc,.slice XA xs.length xc].toArray,.int .i64 out,.slice BA pe.length bc,.int .i64 T].toArray w (Ret (fun v w'=>v = .int .i64 (iQ pl ps xs out pe T)∧St w noF [] w')):=by
 refine enter Tryz.func25 rfl Tryz.ntmps25 rfl (fun a H=>?_)
 have S:=St.start w
 refine seq_list fun K1 k1=>?_
 refine aO H rfl S G G ?_;clear H a S;intro b4 _ a hb4 hbw4 S H
 refine ls 1 H<|sr 1 rfl<|sE ?_;clear H a;intro a H
 refine k1 _ _ ?_;clear k1 K1
 refine seq_list fun K2 k2=>?_
 refine ls 1 H<|sd ((aE eR gY rfl S (i:=0) G G))<|sE ?_;clear H a;intro a H
 refine aA H G G Tryz.func8 G G (lY pl ps PA pc xs XA xc _ (hps.now S) hpn (hxs.now S) hxn) ?_;clear H a
 rintro _ _ a ⟨rfl,S2⟩ H
 replace S:=S.call S2;clear S2
 refine ls 1 H<|sr 1 rfl<|sE ?_;clear H a;intro a H
 refine k2 _ _ ?_;clear k2 K2
 refine wp_seq_k fun K3 k3=>?_
 refine sS H fun K4 k4=>sr 2 rfl<|sE ?_;clear H a;intro a H
 refine k4 _ ?_;clear k4 K4
 refine condN H rfl (fun hc1=>?_) (fun hc1=>?_)
 ·skip
  refine sS H fun K5 k5=>sr 2 rfl<|sE ?_;clear H a;intro a H
  refine k5 _ ?_;clear k5 K5
  refine wp_ret ?_
  refine ret1 (fn:=Tryz.f25) rfl H rfl ?_
  refine ⟨?_,(S.sel [] G G)⟩;unfold iQ;rw [if_pos hc1]
 refine wp_skip ?_
 refine k3 _ _ ?_
 refine wp_seq_k fun K6 k6=>?_
 replace H:=H.keep [1,2,3,4] rfl
 refine seq_list fun K7 k7=>?_
 refine ls 1 H<|sr 1 rfl<|sE ?_;clear H a;intro a H
 refine aA H G G Tryz.func65 G G (xQ _ _) ?_;clear H a
 rintro _ _ a ⟨rfl,rfl⟩ H
 refine ls 2 H<|sr 2 rfl<|sE ?_;clear H a;intro a H
 apply cI (i:=3) (g:=18) (t:=22) (b:=false) 4 H S G G (by kernel_rfl) (by kernel_rfl) G G
 case h1=>
  intro hg4
  have hq4:=hg4;try simp only [o1,o2,o3,o4,o5,o6,o7,o8,o9,oa] at hq4
  refine ls 2 H<|sy hg4<|sd ((aE eR gY rfl S (i:=0) G G))<|sy hg4<|sr 1 rfl<|sE ?_;intro a H
  refine dB H G G (by assumption) ?_
  refine aA H G G Tryz.func66 G G (pI pl ps PA pc xs XA xc pe BA bc _ (hpe.now S) hpen) ?_
  rintro _ _ a ⟨rfl,S2⟩ H
  replace S:=S.call S2;clear S2
  refine ls 1 H<|sy hg4<|sr 1 rfl<|sE ?_;intro a H
  exact wpList_nil ⟨H.strip 4 G G,(S.sel [0] G G)⟩
 clear H a S;intro a _ H S
 refine ls 6 H<|so G G G<|sr 1 rfl<|sg 3 9 24 27 false G G (fun hg10=>by
     have hq10:=hg10;try simp only [o1,o2,o3,o4,o5,o6,o7,o8,o9,oa] at hq10
     exact sy hg10<|sr 1 rfl<|sy hg10<|sc rfl Tryz.func32 G G (cL _ _ _ _)<|sy hg10<|sr 1 rfl<|sz 3 G G G)<|so G G G<|sE ?_;clear H a;intro a H
 refine k7 _ _ ?_;clear k7 K7
 refine cond_ H rfl (fun hc2=>?_) (fun hc2=>?_)
 ·skip
  try simp only [o1,o2,o3,o4,o5,o6,o7,o8,o9,oa] at hc2
  replace H:=H.keep [] rfl
  refine sS H fun K8 k8=>sr 1 rfl<|sE ?_;clear H a;intro a H
  refine k8 _ ?_;clear k8 K8
  refine wp_ret ?_
  refine ret1 (fn:=Tryz.f25) rfl H rfl ?_
  refine ⟨?_,(S.sel [] rfl rfl)⟩;unfold iQ;rw [if_neg (by omega),if_neg (by simp only [Bool.and_eq_true,decide_eq_true_eq];rcases hc2 with (h|h)|h <;> first|(intro h9;omega)|(rw [h];simp))]
 try simp only [o1,o2,o3,o4,o5,o6,o7,o8,o9,oa] at hc2
 refine wp_skip ?_
 refine k6 _ _ ?_
 refine sS H fun K9 k9=>sr 1 rfl<|sE ?_;clear H a;intro a H
 refine k9 _ ?_;clear k9 K9
 refine wp_ret ?_
 refine ret1 (fn:=Tryz.f25) rfl H rfl ?_
 refine ⟨?_,(S.sel [] G G)⟩;unfold iQ;rw [if_neg (by omega),if_pos (by simp only [Bool.and_eq_true,decide_eq_true_eq];exact ⟨⟨by omega,hc2.1.2⟩,by omega⟩)]
end
section
theorem Wu {pe:List Int} (hpp:∀ k,k<pe.length→0≤pe.getD k 0∧pe.getD k 0≤1000) (hl:pe.length≤12) {k:Nat} (hk:k≤pe.length):0≤sumI pe k∧sumI pe k≤12000:=by
  have:=Se hpp k hk
  omega
end
section
inductive Xt where
  | nil
  | q (i:Nat) (t:Xt)
  | p (i:Nat) (t:Xt)
  | e (i:Nat) (t:Xt)
  | b2 (i:Nat) (t:Xt) (j:Nat) (u:Xt)
  | b3 (i:Nat) (t:Xt) (j:Nat) (u:Xt) (k:Nat) (v:Xt)
  | b4 (i:Nat) (t:Xt) (j:Nat) (u:Xt) (k:Nat) (v:Xt) (m:Nat) (x:Xt)
section
variable {P:Program} {ops:Array Oper} {C:World→Prop} {Qn:Act→World→Prop}
def xt (P:Program) (ops:Array Oper) (C:World→Prop) (z:Nat) (Qn:Act→World→Prop):Xt→Act→World→Prop
  | .nil,a,w=>Qn a w
  | .q i t,a,w=>∃ o v,ops[i]?=some o∧Yd P ops C o v a∧xt P ops C z Qn t (a.put o.dst v) w
  | .p i t,a,w=>∃ o v,ops[i]?=some o∧Yd P ops (fun _=>True) o v a∧xt P ops C z Qn t (a.put o.dst v) w
  | .e i t,a,w=>wpOp P ops NoQ i (fun a' w'=>(i=z∨C w')∧xt P ops C z Qn t a' w') a w
  | .b2 i t j u,a,w=>wpOp P ops NoQ i (fun a' w'=>(i=z∨C w')∧xt P ops C z Qn t a' w') a w∧wpOp P ops NoQ j (fun a' w'=>(j=z∨C w')∧xt P ops C z Qn u a' w') a w
  | .b3 i t j u k v,a,w=>wpOp P ops NoQ i (fun a' w'=>(i=z∨C w')∧xt P ops C z Qn t a' w') a w∧wpOp P ops NoQ j (fun a' w'=>(j=z∨C w')∧xt P ops C z Qn u a' w') a w∧wpOp P ops NoQ k (fun a' w'=>(k=z∨C w')∧xt P ops C z Qn v a' w') a w
  | .b4 i t j u k v m x,a,w=>wpOp P ops NoQ i (fun a' w'=>(i=z∨C w')∧xt P ops C z Qn t a' w') a w∧wpOp P ops NoQ j (fun a' w'=>(j=z∨C w')∧xt P ops C z Qn u a' w') a w∧wpOp P ops NoQ k (fun a' w'=>(k=z∨C w')∧xt P ops C z Qn v a' w') a w∧wpOp P ops NoQ m (fun a' w'=>(m=z∨C w')∧xt P ops C z Qn x a' w') a w
end
section
variable {P:Program} {w w0:World} {F0:Nat→Prop} {R RE:List Mem} {Q:Exit→Act→World→Prop} {Qn:Act→World→Prop} {l:List Oper} {N:FN} {L:List (Nat×Value)} {a:Act} {ty:TypeId} {pos:String} {af:Array Edge} {op:Op} {y:Code} {id z:Nat} {ops:Array Oper} {π t u v3:Xt}
end
end
section
section
variable {w:World} {F:Nat→Prop} {PA:Option Addr} {pc:Nat} {XA:Option Addr} {xc:Nat} {BA:Option Addr} {bc:Nat} {QA:Option Addr} {qc:Nat} {VA:Option Addr} {vc:Nat} {RA:Option Addr} {rc:Nat}
end
end
section
open Classical in
noncomputable def yrB (y:Yr):Bool:=if yrI y then true else false
theorem Ns {y:Yr} (h:yrI y):yrB y=true:=by unfold yrB;rw [if_pos h]
theorem Nt {y:Yr} (h:¬ yrI y):yrB y=false:=by unfold yrB;rw [if_neg h]
theorem Sr {y:Yr}:yrB y=true↔yrI y:=⟨fun h=>Classical.byContradiction (fun h2=>by rw [Nt h2] at h;cases h),Ns⟩
theorem Ss {pl:Int} {ps:List Psg} {xs pe:List Int} {T:Int} (h:stE pl ps xs=0):iQ pl ps xs 0 pe T=0↔((pe.length:Int)=pl∧∀ k,k<pe.length→0≤pe.getD k 0∧pe.getD k 0≤1000)∧(0≤T∧T≤60):=by
  constructor
  · intro h1
    obtain ⟨_,_,h2,h3⟩:=uZ h1
    have h4:=zI h2
    exact ⟨⟨h4.2,h4.1⟩,h3⟩
  · rintro ⟨⟨h1,h2⟩,h3⟩
    unfold iQ
    rw [if_neg (by omega),if_pos]
    have h4:eT pl pe=true:=by unfold eT;rw [decide_eq_true h1,Bool.and_true,cC];exact fun k hk=>decide_eq_true (h2 k hk)
    rw [h4,decide_eq_true h3]
    rfl
theorem Nu {ps:List Psg} {us:List Unt} {n i:Nat} {m:Int}:freeN ps us n (i+1) m=(freeN ps us n i m&&!decide ((us.getD i Unt.zero).mach=m)):=by
  unfold freeN
  simp only [allN,Bool.and_assoc]
theorem Ic {p:Part} {l:List Use} (h:cE p l=0):wearE p l=0↔(refO p l).2.1=false:=by
  unfold refO
  rw [if_neg (by omega)]
  constructor
  · intro h1
    rw [if_neg (by rw [xF (lE h1).2];omega)]
  · intro h1
    split at h1
    · cases h1
    · exact tG h (Px.2 (by have:=(xE p l).le;omega))
theorem Id {l:List Use} {o:Int} (h0:0≤o) (h:¬ (0<l.length∧o<(l.getD ((l.length:Int)-1).toNat Use.zero).day)):prevD l l.length≤o:=by
  rcases Nat.eq_zero_or_pos l.length with e|e
  · rw [e];exact h0
  · have h1:=nM (l:=l) (k:=((l.length:Int)-1).toNat) (by omega)
    omega
theorem Ie {l:List Use} {o:Int} (e:0<l.length) (h:o<(l.getD ((l.length:Int)-1).toNat Use.zero).day):o<prevD l l.length:=by
  have h1:=nM (l:=l) (k:=((l.length:Int)-1).toNat) (by omega)
  omega
theorem cX (n lo hi:Int) (w:World) :
    Calls Tryz.prog 48 [.int .i64 n,.int .i64 lo,.int .i64 hi].toArray w (Ret (fun v w'=>v = .bool (decide (lo≤n)&&decide (n≤hi))∧w'=w)):=by
 refine enter Tryz.func48 rfl Tryz.ntmps48 rfl (fun a H=>?_)
 have S:=St.start w
 refine sS H fun K1 k1=>sr 1 rfl<|sE ?_;clear H a;intro a H
 refine k1 _ ?_;clear k1 K1
 replace H:=H.keep [0,1,2] rfl
 refine sS H fun K2 k2=>sr 4 rfl<|sg 3 3 10 13 true G G (fun hg4=>sy hg4<|sr 1 rfl<|sy hg4<|sr 1 rfl<|sy hg4<|sr 1 rfl<|sz 3 G G G)<|sa G G G<|sr 1 rfl<|sE ?_;clear H a;intro a H
 refine k2 _ ?_;clear k2 K2
 refine wp_ret ?_
 refine ret1 (fn:=Tryz.f48) rfl H rfl ?_
 exact ⟨rfl,rfl⟩
theorem Ig (a b:Tsk) (w:World) :
    Calls Tryz.prog 49 [.agg [.int .i64 a.day,.int .i64 a.unit,.int .i64 a.kind].toArray,.agg [.int .i64 b.day,.int .i64 b.unit,.int .i64 b.kind].toArray].toArray w (Ret (fun v w'=>v = .bool (befB a b)∧St w noF [] w')):=by
 refine enter Tryz.func49 rfl Tryz.ntmps49 rfl (fun a H=>?_)
 have S:=St.start w
 refine seq_list fun K1 k1=>?_
 refine aO H rfl S G G ?_;clear H a S;intro b2 _ a hb2 hbw2 S H
 refine aO H rfl S G G ?_;clear H a S;intro b3 _ a hb3 hbw3 S H
 refine ls 1 H<|sr 1 rfl<|sE ?_;clear H a;intro a H
 refine k1 _ _ ?_;clear k1 K1
 refine wp_seq_k fun K2 k2=>?_
 refine sS H fun K3 k3=>sf dO rfl<|sl S 1 aD G G G<|sf dO rfl<|sl S 0 aD G G G<|sr 1 rfl<|sE ?_;clear H a;intro a H
 refine k3 _ ?_;clear k3 K3
 refine condN H rfl (fun hc1=>?_) (fun hc1=>?_)
 ·skip
  replace H:=H.keep [2,3] rfl
  refine sS H fun K4 k4=>sf dO rfl<|sl S 1 aD G G G<|sf dO rfl<|sl S 0 aD G G G<|sr 2 rfl<|sE ?_;clear H a;intro a H
  refine k4 _ ?_;clear k4 K4
  refine wp_ret ?_
  refine ret1 (fn:=Tryz.f49) rfl H rfl ?_
  refine ⟨?_,(S.sel [] G G)⟩;unfold befB;rw [if_pos hc1]
 refine wp_skip ?_
 refine k2 _ _ ?_
 refine wp_seq_k fun K5 k5=>?_
 replace H:=H.keep [2,3] rfl
 refine sS H fun K6 k6=>sf dZ rfl<|sl S 1 aD G G G<|sf dZ rfl<|sl S 0 aD G G G<|sr 1 rfl<|sE ?_;clear H a;intro a H
 refine k6 _ ?_;clear k6 K6
 refine condN H rfl (fun hc2=>?_) (fun hc2=>?_)
 ·skip
  replace H:=H.keep [2,3] rfl
  refine sS H fun K7 k7=>sf dZ rfl<|sl S 1 aD G G G<|sf dZ rfl<|sl S 0 aD G G G<|sr 2 rfl<|sE ?_;clear H a;intro a H
  refine k7 _ ?_;clear k7 K7
  refine wp_ret ?_
  refine ret1 (fn:=Tryz.f49) rfl H rfl ?_
  refine ⟨?_,(S.sel [] G G)⟩;unfold befB;rw [if_neg (fun h=>h (by omega)),if_pos hc2]
 refine wp_skip ?_
 refine k5 _ _ ?_
 replace H:=H.keep [2,3] rfl
 refine sS H fun K8 k8=>sf gJ rfl<|sl S 1 aD G G G<|sf gJ rfl<|sl S 0 aD G G G<|sr 2 rfl<|sE ?_;clear H a;intro a H
 refine k8 _ ?_;clear k8 K8
 refine wp_ret ?_
 refine ret1 (fn:=Tryz.f49) rfl H rfl ?_
 refine ⟨?_,(S.sel [] G G)⟩;unfold befB;rw [if_neg (fun h=>h (by omega)),if_neg (fun h=>h (by omega))]
theorem Ih (y:Yr) (w:World) (hy:YIn w noF y) (hyb:YBd y) (hst:stE y.pl y.ps y.xs=0) :
    Calls Tryz.prog 86 [.agg [.int .i64 y.days,.int .i64 y.pl,.slice y.PA y.ps.length y.pc,.slice y.XA y.xs.length y.xc,.slice y.BA y.pe.length y.bc,.int .i64 y.limit,.bool y.help,.slice y.QA y.prs.length y.qc,.slice y.VA y.us.length y.vc,.int .i64 y.crew,.slice y.SA y.sps.length y.sc].toArray].toArray w (Ret (fun v w'=>v = .bool (yrB y)∧St w noF [] w')):=by
 have hlv:=Ss (pe:=y.pe) (T:=y.limit) hst;have hn4:=hyb.spn
 refine enter Tryz.func86 rfl Tryz.ntmps86 rfl (fun a H=>?_)
 have S:=St.start w
 refine seq_list fun K1 k1=>?_
 refine aO H rfl S G G ?_;clear H a S;intro b1 _ a hb1 hbw1 S H
 refine ls 1 H<|sr 1 rfl<|sE ?_;clear H a;intro a H
 refine k1 _ _ ?_;clear k1 K1
 refine wp_seq_k fun K2 k2=>?_
 replace H:=H.keep [1] rfl
 refine seq_list fun K3 k3=>?_
 refine ls 2 H<|sf dH rfl<|sl S 0 aD G G G<|sE ?_;clear H a;intro a H
 refine aA H G G Tryz.func48 G G (cX _ _ _ _) ?_;clear H a
 rintro _ _ a ⟨rfl,rfl⟩ H
 refine ls 2 H<|sr 2 rfl<|sE ?_;clear H a;intro a H
 apply cI (i:=4) (g:=9) (t:=17) (b:=false) 8 H S G G (by kernel_rfl) (by kernel_rfl) G G
 case h1=>
  intro hg5
  refine ls 6 H<|sy hg5<|sf fN rfl<|sy hg5<|sd ((aE eR gY rfl S (i:=0) G G))<|sy hg5<|sf mI rfl<|sy hg5<|sl S 0 bR G G G<|sy hg5<|sf oH rfl<|sy hg5<|sl S 0 aD G G G<|sE ?_;intro a H
  refine dB H G G (by assumption) ?_
  refine aA H G G Tryz.func25 G G (lZ y.pl y.ps y.PA y.pc y.xs y.XA y.xc 0 y.pe y.BA y.bc y.limit _ (hy.ps.now S) hyb.psn (hy.xs.now S) hyb.xsn (hy.pe.now S) hyb.pen) ?_
  rintro _ _ a ⟨rfl,S2⟩ H
  replace S:=S.call S2;clear S2
  refine ls 1 H<|sy hg5<|sr 1 rfl<|sE ?_;intro a H
  exact wpList_nil ⟨H.strip 8 G G,(S.sel [0] G G)⟩
 clear H a S;intro a _ H S
 refine ls 13 H<|so G G G<|sr 1 rfl<|sg 4 14 19 23 false G G (fun hg15=>sy hg15<|sf Du rfl<|sy hg15<|sl S 0 aD G G G<|sy hg15<|sc rfl Tryz.func48 G G (cX _ _ _ _)<|sy hg15<|sr 1 rfl<|sz 4 G G G)<|so G G G<|sr 1 rfl<|sg 4 20 25 29 false G G (fun hg21=>sy hg21<|sf mJ rfl<|sy hg21<|sl S 0 pT G G G<|sy hg21<|sL sH rfl<|sy hg21<|sr 1 rfl<|sz 4 G G G)<|so G G G<|sE ?_;clear H a;intro a H
 refine k3 _ _ ?_;clear k3 K3
 refine cond_ H rfl (fun hc1=>?_) (fun hc1=>?_)
 ·skip
  try simp only [o1,o2,o3,o4,o5,o6,o7,o8,o9,oa] at hc1
  replace H:=H.keep [] rfl
  refine sS H fun K4 k4=>sr 1 rfl<|sE ?_;clear H a;intro a H
  refine k4 _ ?_;clear k4 K4
  refine wp_ret ?_
  refine ret1 (fn:=Tryz.f86) rfl H rfl ?_
  rw [Nt (fun h=>by unfold yrI at h;have h9:=hlv.2 ⟨h.2.1,h.2.2.1⟩;omega)];exact ⟨rfl,(S.sel [] G G)⟩
 try simp only [o1,o2,o3,o4,o5,o6,o7,o8,o9,oa] at hc1
 refine wp_skip ?_
 refine k2 _ _ ?_
 refine wp_seq_k fun K5 k5=>?_
 refine sS H fun K6 k6=>sr 1 rfl<|sE ?_;clear H a;intro a H
 refine k6 _ ?_;clear k6 K6
 refine wp_block ?_
 refine loop_st (X:=Nat) (R0:=_) [1] H rfl (fun k=>[(3,.int .i64 (k:Int))]) (fun k=>[]) (fun g k=>k≤y.sps.length∧g+k=y.sps.length∧∀ q,q<k→sprB y.days (y.sps.getD q Spr.zero)=true) (y.sps.length) 0 ?_ (S.sel [0] G G) (H.keep [3,1] rfl) ?_
 · exact ⟨by omega,by omega,fun q hq=>absurd hq (Nat.not_lt_zero q)⟩
 clear H S a
 intro g1 x1 a w1 hp S H K7 k7
 obtain ⟨k,rfl⟩:∃ y,y=x1:=⟨_,rfl⟩
 refine wp_seq_k fun K8 k8=>?_
 refine sS H fun K9 k9=>sr 1 rfl<|sf mJ rfl<|sl S 0 pT G G G<|sL sH rfl<|sr 1 rfl<|sE ?_;clear H a;intro a H
 refine k9 _ ?_;clear k9 K9
 refine condL H rfl (fun hc2=>?_) (fun hc2=>?_)
 ·skip
  refine wp_skip ?_
  refine k8 _ _ ?_
  refine wp_seq_k fun K10 k10=>?_
  refine wp_block ?_
  replace H:=H.keep [1,3] rfl
  refine seq_list fun K11 k11=>?_
  refine ls 5 H<|sf mJ rfl<|sl S 0 pT G G G<|sr 1 rfl<|si sH pX G G (hy.sps.adr (by omega)) (by omega)<|sd ((aU Dt pX rfl S hy.sps (by omega) (by omega)))<|sE ?_;clear H a;intro a H
  refine aI H rfl S Kf ?_;clear H a S;intro b4 _ a hb4 hbw4 S H
  refine aB H S (i:=0) G G G G pX G G ?_
  clear H a S;intro _ a S H
  refine k11 _ _ ?_;clear k11 K11
  replace H:=H.keep [1,3,4] rfl
  refine sS H fun K12 k12=>sf zC rfl<|sl S 0 aD G G G<|sf dH rfl<|sl S 1 aD G G G<|sd (aS G G (by unfold i64ok;omega))<|sc rfl Tryz.func48 G G (cX _ _ _ _)<|sr 2 rfl<|sg 4 7 50 54 false G G (fun hg8=>sy hg8<|sf zD rfl<|sy hg8<|sl S 0 aD G G G<|sy hg8<|sc rfl Tryz.func48 G G (cX _ _ _ _)<|sy hg8<|sr 1 rfl<|sz 4 G G G)<|so G G G<|sr 1 rfl<|sg 4 13 56 60 false G G (fun hg14=>sy hg14<|sf zE rfl<|sy hg14<|sl S 0 aD G G G<|sy hg14<|sc rfl Tryz.func48 G G (cX _ _ _ _)<|sy hg14<|sr 1 rfl<|sz 4 G G G)<|so G G G<|sE ?_;clear H a;intro a H
  refine k12 _ ?_;clear k12 K12
  refine cond_ H rfl (fun hc3=>?_) (fun hc3=>?_)
  ·skip
   try simp only [o1,o2,o3,o4,o5,o6,o7,o8,o9,oa] at hc3
   replace H:=H.keep [] rfl
   refine sS H fun K13 k13=>sr 1 rfl<|sE ?_;clear H a;intro a H
   refine k13 _ ?_;clear k13 K13
   refine wp_ret ?_
   refine ret1 (fn:=Tryz.f86) rfl H rfl ?_
   rw [Nt (fun h=>by have h9:=pE.1 (h.2.2.2.2.2 k (by omega));omega)];exact ⟨rfl,(S.sel [] G G)⟩
  try simp only [o1,o2,o3,o4,o5,o6,o7,o8,o9,oa] at hc3
  refine wp_skip ?_
  refine k10 _ _ ?_
  refine sO H<|sr 1 rfl<|sd (aK G G (by unfold i64ok;omega))<|sr 1 rfl<|sE ?_;clear H a;intro a H
  exact k7 (g1-1) (k+1) a _ (by omega) (⟨by omega,by omega,eP (f:=fun q=>sprB y.days (y.sps.getD q Spr.zero)) hp.2.2 (pE.2 (by omega))⟩) (S.sel [1] G G) (H.keep [3,1] rfl)
 refine wp_exit ?_
 refine k5 _ _ ?_
 refine sS H fun K15 k15=>sr 1 rfl<|sE ?_;clear H a;intro a H
 refine k15 _ ?_;clear k15 K15
 refine wp_ret ?_
 refine ret1 (fn:=Tryz.f86) rfl H rfl ?_
 have h9:=hlv.1 (by omega)
 have h8:=hp.2.2
 rw [Ns (by unfold yrI;exact ⟨by omega,h9.1,h9.2,by omega,by omega,fun q hq=>h8 q (by omega)⟩)];exact ⟨rfl,(S.sel [] G G)⟩
theorem Ii (y:Yr) (i:Nat) (w:World) (hy:YIn w noF y) (hyb:YBd y) (hi:i<y.us.length) :
    Calls Tryz.prog 87 [.agg [.int .i64 y.days,.int .i64 y.pl,.slice y.PA y.ps.length y.pc,.slice y.XA y.xs.length y.xc,.slice y.BA y.pe.length y.bc,.int .i64 y.limit,.bool y.help,.slice y.QA y.prs.length y.qc,.slice y.VA y.us.length y.vc,.int .i64 y.crew,.slice y.SA y.sps.length y.sc].toArray,.int .i64 (i:Int)].toArray w (Ret (fun v w'=>v = .bool (untB y.ps y.us i)∧St w noF [] w')):=by
 have hn1:=hyb.psn;have hn3:=hyb.usn;have hn5:(y.us.getD i Unt.zero).uses.length≤9223372036854775807:=hyb.uln hi;have hn6:(y.us.getD i Unt.zero).rates.length≤9223372036854775807:=hyb.rtn hi
 refine enter Tryz.func87 rfl Tryz.ntmps87 rfl (fun a H=>?_)
 have S:=St.start w
 refine seq_list fun K1 k1=>?_
 refine aO H rfl S G G ?_;clear H a S;intro b2 _ a hb2 hbw2 S H
 refine ls 1 H<|sr 1 rfl<|sE ?_;clear H a;intro a H
 refine k1 _ _ ?_;clear k1 K1
 refine seq_list fun K2 k2=>?_
 refine ls 5 H<|sf dI rfl<|sl S 0 eH G G G<|sr 1 rfl<|si fE jC G G (hy.us.adr (by omega)) (by omega)<|sd ((aU pU jC rfl S hy.us (by omega) (by omega)))<|sE ?_;clear H a;intro a H
 refine aI H rfl S Jw ?_;clear H a S;intro b5 _ a hb5 hbw5 S H
 refine aB H S (i:=0) G G G G jC G G ?_
 clear H a S;intro _ a S H
 refine k2 _ _ ?_;clear k2 K2
 replace H:=H.keep [1,2,5] rfl
 refine sS H fun K3 k3=>sr 1 rfl<|sE ?_;clear H a;intro a H
 refine k3 _ ?_;clear k3 K3
 refine wp_seq_k fun K4 k4=>?_
 refine sS H fun K5 k5=>sr 1 rfl<|sE ?_;clear H a;intro a H
 refine k5 _ ?_;clear k5 K5
 refine wp_block ?_
 refine loop_st (X:=Nat) (R0:=_) [1,2,5] H rfl (fun k=>[(6,.bool (freeN y.ps y.us k 0 (y.us.getD i Unt.zero).mach)),(7,.int .i64 (k:Int))]) (fun k=>[]) (fun g k=>k≤y.ps.length∧g+k=y.ps.length) (y.ps.length) 0 ?_ (S.sel [0,1] G G) (H.keep [6,7,1,2,5] rfl) ?_
 · exact ⟨by omega,by omega⟩
 clear H S a
 intro g1 x1 a w1 hp S H K6 k6
 obtain ⟨k,rfl⟩:∃ y,y=x1:=⟨_,rfl⟩
 refine wp_seq_k fun K7 k7=>?_
 refine sS H fun K8 k8=>sr 1 rfl<|sf fN rfl<|sf fM rfl<|sl S 1 iP G G G<|sL jD rfl<|sr 1 rfl<|sE ?_;clear H a;intro a H
 refine k8 _ ?_;clear k8 K8
 refine condL H rfl (fun hc1=>?_) (fun hc1=>?_)
 ·skip
  refine wp_skip ?_
  refine k7 _ _ ?_
  refine wp_seq_k fun K9 k9=>?_
  refine wp_block ?_
  replace H:=H.keep [1,2,5,6,7] rfl
  refine seq_list fun K10 k10=>?_
  refine ls 6 H<|sf fN rfl<|sf fM rfl<|sl S 1 iP G G G<|sr 1 rfl<|si jD eV G G (hy.ps.adr (by omega)) (by omega)<|sd ((aU kU eV rfl S hy.ps (by omega) (by omega)))<|sE ?_;clear H a;intro a H
  refine aI H rfl S sX ?_;clear H a S;intro b8 _ a hb8 hbw8 S H
  refine aB H S (i:=0) G G G G eV G G ?_
  clear H a S;intro _ a S H
  refine k10 _ _ ?_;clear k10 K10
  replace H:=H.keep [1,2,5,6,7,8] rfl
  refine sO H<|sr 2 rfl<|sg 10 1 33 43 false G G (fun hg2=>by
      have hq2:=hg2;try simp only [o1,o2,o3,o4,o5,o6,o7,o8,o9,oa] at hq2
      exact sy hg2<|sf dQ rfl<|sy hg2<|sl S 0 aD G G G<|sy hg2<|sr 1 rfl<|sy hg2<|sr 1 rfl<|sg 5 5 37 42 true G G (fun hg6=>by
           have hq6:=hg6;try simp only [o1,o2,o3,o4,o5,o6,o7,o8,o9,oa] at hq6
           exact sy hg6<|sf dQ rfl<|sy hg6<|sl S 0 aD G G G<|sy hg6<|sf lA rfl<|sy hg6<|sl S 1 aD G G G<|sy hg6<|sr 1 rfl<|sz 5 G G G)<|sy hg2<|sa G G G<|sz 6 G G G)<|so G G G<|sr 1 rfl<|sE ?_;clear H a;intro a H
  refine k9 _ _ ?_
  replace H:=H.keep [1,2,5,6,7] rfl
  refine sO H<|sr 1 rfl<|sd (aK G G (by unfold i64ok;omega))<|sr 1 rfl<|sE ?_;clear H a;intro a H
  rw [←zT (ps:=y.ps) (us:=y.us)] at H
  exact k6 (g1-1) (k+1) a _ (by omega) (⟨by omega,by omega⟩) (S.sel [1,2] G G) (H.keep [6,7,1,2,5] rfl)
 refine wp_exit ?_
 refine k4 _ _ ?_
 refine wp_seq_k fun K13 k13=>?_
 refine sS H fun K14 k14=>sr 1 rfl<|sE ?_;clear H a;intro a H
 refine k14 _ ?_;clear k14 K14
 refine wp_block ?_
 obtain rfl:k=y.ps.length:=by omega
 refine loop_st (X:=Nat) (R0:=_) [1,2,5] H rfl (fun k=>[(6,.bool (freeN y.ps y.us y.ps.length k (y.us.getD i Unt.zero).mach)),(9,.int .i64 (k:Int))]) (fun k=>[]) (fun g k=>k≤i∧g+k=i) (i) 0 ?_ (S.sel [0,1] G G) (H.keep [6,9,1,2,5] rfl) ?_
 · exact ⟨by omega,by omega⟩
 clear H S a
 intro g2 x2 a w2 hp S H K15 k15
 obtain ⟨k,rfl⟩:∃ y,y=x2:=⟨_,rfl⟩
 refine wp_seq_k fun K16 k16=>?_
 refine sS H fun K17 k17=>sr 3 rfl<|sE ?_;clear H a;intro a H
 refine k17 _ ?_;clear k17 K17
 refine condL H rfl (fun hc2=>?_) (fun hc2=>?_)
 ·skip
  refine wp_skip ?_
  refine k16 _ _ ?_
  refine wp_seq_k fun K18 k18=>?_
  refine wp_block ?_
  replace H:=H.keep [1,2,5,6,9] rfl
  replace S:=S.drew
  refine sP H<|sr 2 rfl<|sg 9 1 51 60 true G G (fun hg2=>by
      have hq2:=hg2;try simp only [o1,o2,o3,o4,o5,o6,o7,o8,o9,oa] at hq2
      exact sy hg2<|sf dI rfl<|sy hg2<|sl S 1 eH G G G<|sy hg2<|sr 1 rfl<|sy hg2<|si fE jC G G (hy.us.adr (by omega)) (by omega)<|sy hg2<|sp lA rfl<|sy hg2<|slm aD rfl (hy.us.rd S (by omega) (by omega))<|sy hg2<|sf lA rfl<|sy hg2<|sl S 0 aD G G G<|sy hg2<|sr 1 rfl<|sz 9 G G G)<|sa G G G<|sr 1 rfl<|sE ?_;clear H a;intro a H
  refine k18 _ _ ?_
  replace H:=H.keep [1,2,5,6,9] rfl
  refine sO H<|sr 1 rfl<|sd (aK G G (by unfold i64ok;omega))<|sr 1 rfl<|sE ?_;clear H a;intro a H
  rw [←Nu (ps:=y.ps) (us:=y.us)] at H
  exact k15 (g2-1) (k+1) a _ (by omega) (⟨by omega,by omega⟩) (S.sel [0,1] G G) (H.keep [6,9,1,2,5] rfl)
 refine wp_exit ?_
 refine k13 _ _ ?_
 refine wp_seq_k fun K21 k21=>?_
 obtain rfl:i=k:=by omega
 replace H:=H.keep [5,6] rfl
 refine seq_list fun K22 k22=>?_
 refine ls 21 H<|sr 3 rfl<|sg 4 2 64 68 false G G (fun hg3=>by
     have hq3:=hg3;try simp only [o1,o2,o3,o4,o5,o6,o7,o8,o9,oa] at hq3
     exact sy hg3<|sf rC rfl<|sy hg3<|sl S 0 aD G G G<|sy hg3<|sc rfl Tryz.func48 G G (cX _ _ _ _)<|sy hg3<|sr 1 rfl<|sz 4 G G G)<|so G G G<|sr 1 rfl<|sg 4 8 70 74 false G G (fun hg9=>by
     have hq9:=hg9;try simp only [o1,o2,o3,o4,o5,o6,o7,o8,o9,oa] at hq9
     exact sy hg9<|sf wO rfl<|sy hg9<|sl S 0 aD G G G<|sy hg9<|sc rfl Tryz.func48 G G (cX _ _ _ _)<|sy hg9<|sr 1 rfl<|sz 4 G G G)<|so G G G<|sr 1 rfl<|sg 4 14 76 80 false G G (fun hg15=>by
     have hq15:=hg15;try simp only [o1,o2,o3,o4,o5,o6,o7,o8,o9,oa] at hq15
     exact sy hg15<|sf Dv rfl<|sy hg15<|sl S 0 aD G G G<|sy hg15<|sc rfl Tryz.func48 G G (cX _ _ _ _)<|sy hg15<|sr 1 rfl<|sz 4 G G G)<|so G G G<|sr 1 rfl<|sE ?_;clear H a;intro a H
 apply cI (i:=20) (g:=82) (t:=88) (b:=false) 6 H S G G (by kernel_rfl) (by kernel_rfl) G G
 case h1=>
  intro hg21
  have hq21:=hg21;try simp only [o1,o2,o3,o4,o5,o6,o7,o8,o9,oa] at hq21
  refine ls 4 H<|sy hg21<|sf mK rfl<|sy hg21<|sd ((aE eS gZ rfl S (i:=0) G G))<|sy hg21<|sf gI rfl<|sy hg21<|sl S 0 jB G G G<|sE ?_;intro a H
  refine dB H G G (by assumption) ?_
  refine aA H G G Tryz.func126 G G (mY (y.us.getD i Unt.zero).rates (y.us.getD i Unt.zero).worn (y.us.getD i Unt.zero).turns (y.us.getD i Unt.zero).age (y.us.getD i Unt.zero).RA (y.us.getD i Unt.zero).rc (y.us.getD i Unt.zero).uses (y.us.getD i Unt.zero).UA (y.us.getD i Unt.zero).uc _ ((hy.rt i hi).now S) (hyb.rtn hi) ((hy.ul i hi).now S) (hyb.uln hi)) ?_
  rintro _ _ a ⟨rfl,S2⟩ H
  replace S:=S.call S2;clear S2
  refine ls 1 H<|sy hg21<|sr 1 rfl<|sE ?_;intro a H
  exact wpList_nil ⟨H.strip 6 G G,(S.sel [0,1] G G)⟩
 clear H a S;intro a _ H S
 refine ls 7 H<|so G G G<|sr 1 rfl<|sg 4 28 90 94 false G G (fun hg29=>by
     have hq29:=hg29;try simp only [o1,o2,o3,o4,o5,o6,o7,o8,o9,oa] at hq29
     exact sy hg29<|sf gI rfl<|sy hg29<|sl S 0 jB G G G<|sy hg29<|sL dF rfl<|sy hg29<|sr 1 rfl<|sz 4 G G G)<|so G G G<|sE ?_;clear H a;intro a H
 refine k22 _ _ ?_;clear k22 K22
 refine cond_ H rfl (fun hc3=>?_) (fun hc3=>?_)
 ·skip
  try simp only [o1,o2,o3,o4,o5,o6,o7,o8,o9,oa] at hc3
  replace H:=H.keep [] rfl
  refine sS H fun K23 k23=>sr 1 rfl<|sE ?_;clear H a;intro a H
  refine k23 _ ?_;clear k23 K23
  refine wp_ret ?_
  refine ret1 (fn:=Tryz.f87) rfl H rfl ?_
  rw [zU (fun h=>by have h1:freeN y.ps y.us y.ps.length i (y.us.getD i Unt.zero).mach=true:=h.free;have h2:=h.i;have h3:cE ⟨(y.us.getD i Unt.zero).rates,(y.us.getD i Unt.zero).worn,(y.us.getD i Unt.zero).turns,(y.us.getD i Unt.zero).age⟩ (y.us.getD i Unt.zero).uses=0:=(lE h.wear).1;unfold untI at h2;rw [h1] at hc3;simp only [Bool.true_eq_false,Bool.not_true,Bool.false_eq_true,not_true_eq_false,false_or] at hc3;omega)];exact ⟨rfl,(S.sel [] G G)⟩
 try simp only [o1,o2,o3,o4,o5,o6,o7,o8,o9,oa] at hc3
 have hcp:cE (y.us.getD i Unt.zero).part (y.us.getD i Unt.zero).uses=0:=by show cE ⟨_,_,_,_⟩ _=0;omega
 have hrw:=Ic hcp
 refine wp_skip ?_
 refine k21 _ _ ?_
 replace H:=H.keep [5] rfl
 refine seq_list fun K24 k24=>?_
 refine ls 4 H<|sf mK rfl<|sd ((aE eS gZ rfl S (i:=0) G G))<|sf gI rfl<|sl S 0 jB G G G<|sE ?_;clear H a;intro a H
 refine aA H G G Tryz.func127 G G (Ak (y.us.getD i Unt.zero).rates (y.us.getD i Unt.zero).worn (y.us.getD i Unt.zero).turns (y.us.getD i Unt.zero).age (y.us.getD i Unt.zero).RA (y.us.getD i Unt.zero).rc (y.us.getD i Unt.zero).uses (y.us.getD i Unt.zero).UA (y.us.getD i Unt.zero).uc _ ((hy.rt i hi).now S) (hyb.rtn hi) ((hy.ul i hi).now S) (hyb.uln hi)) ?_;clear H a
 rintro _ _ a ⟨rfl,S2⟩ H
 replace S:=S.call S2;clear S2
 refine ls 7 H<|sr 7 rfl<|sE ?_;clear H a;intro a H
 refine k24 _ _ ?_;clear k24 K24
 refine wp_seq_k fun K25 k25=>?_
 replace H:=H.keep [5,11] rfl
 replace S:=S.drew
 refine sD H fun K26 k26=>sr 2 rfl<|sg 4 1 106 110 false G G (fun hg2=>by
     have hq2:=hg2;try simp only [o1,o2,o3,o4,o5,o6,o7,o8,o9,oa] at hq2
     exact sy hg2<|sf rD rfl<|sy hg2<|sl S 0 aD G G G<|sy hg2<|sc rfl Tryz.func48 G G (cX _ _ _ _)<|sy hg2<|sr 1 rfl<|sz 4 G G G)<|so G G G<|sr 1 rfl<|sg 18 7 112 130 false G G (fun hg8=>by
     have hq8:=hg8;try simp only [o1,o2,o3,o4,o5,o6,o7,o8,o9,oa] at hq8
     exact sy hg8<|sf gI rfl<|sy hg8<|sl S 0 jB G G G<|sy hg8<|sL dF rfl<|sy hg8<|sr 1 rfl<|sy hg8<|sr 1 rfl<|sg 12 12 117 129 true G G (fun hg13=>by
          have hq13:=hg13;try simp only [o1,o2,o3,o4,o5,o6,o7,o8,o9,oa] at hq13
          exact sy hg13<|sf rD rfl<|sy hg13<|sl S 0 aD G G G<|sy hg13<|sf gI rfl<|sy hg13<|sl S 0 jB G G G<|sy hg13<|sf gI rfl<|sy hg13<|sl S 0 jB G G G<|sy hg13<|sL dF rfl<|sy hg13<|sd (aS G G (by unfold i64ok;omega))<|sy hg13<|sI dF dA G G ((hy.ul i hi).adr (by omega)) (by omega) (by omega)<|sy hg13<|sp gN rfl<|sy hg13<|slm aD rfl ((hy.ul i hi).rd S (by omega) (by omega))<|sy hg13<|sr 1 rfl<|sz 12 G G G)<|sy hg8<|sa G G G<|sz 7 G G G)<|so G G G<|sE ?_;clear H a;intro a H
 refine k26 _ ?_;clear k26 K26
 refine cond_ H rfl (fun hc4=>?_) (fun hc4=>?_)
 ·skip
  try simp only [o1,o2,o3,o4,o5,o6,o7,o8,o9,oa] at hc4
  replace H:=H.keep [] rfl
  refine sS H fun K27 k27=>sr 1 rfl<|sE ?_;clear H a;intro a H
  refine k27 _ ?_;clear k27 K27
  refine wp_ret ?_
  refine ret1 (fn:=Tryz.f87) rfl H rfl ?_
  rw [zU (fun h=>by
    have h2:=h.i;have h3:=uD h.wear;unfold untI at h2
    have h5:=hrw.1 h.wear
    rcases hc4 with (h9|h9)|h9
    · have h6:(refO (y.us.getD i Unt.zero).part (y.us.getD i Unt.zero).uses).2.1=true:=h9
      rw [h5] at h6;cases h6
    · omega
    · have h7:=Ie (l:=(y.us.getD i Unt.zero).uses) (by omega) h9.2;omega)];exact ⟨rfl,(S.sel [] G G)⟩
 try simp only [o1,o2,o3,o4,o5,o6,o7,o8,o9,oa] at hc4
 refine wp_skip ?_
 refine k25 _ _ ?_
 replace H:=H.keep [5] rfl
 refine sS H fun K28 k28=>sf rE rfl<|sl S 0 aD G G G<|sc rfl Tryz.func48 G G (cX _ _ _ _)<|sr 1 rfl<|sg 8 3 135 143 true G G (fun hg4=>by
     have hq4:=hg4;try simp only [o1,o2,o3,o4,o5,o6,o7,o8,o9,oa] at hq4
     exact sy hg4<|sf rF rfl<|sy hg4<|sl S 0 aD G G G<|sy hg4<|sf mK rfl<|sy hg4<|sf fB rfl<|sy hg4<|sl S 0 hY G G G<|sy hg4<|sL dG rfl<|sy hg4<|sd (aS G G (by unfold i64ok;omega))<|sy hg4<|sc rfl Tryz.func48 G G (cX _ _ _ _)<|sz 8 G G G)<|sa G G G<|sr 1 rfl<|sE ?_;clear H a;intro a H
 refine k28 _ ?_;clear k28 K28
 refine wp_ret ?_
 refine ret1 (fn:=Tryz.f87) rfl H rfl ?_
 refine ⟨congrArg Value.bool ?_,(S.sel [] G G)⟩
 rw [Bool.eq_iff_iff,jK]
 simp only [Bool.and_eq_true,decide_eq_true_eq]
 constructor
 · intro h9
   refine ⟨?_,?_,hrw.2 ?_⟩
   · show freeN _ _ _ _ _=true;rcases hc3 with ⟨⟨⟨⟨⟨h1,_⟩,_⟩,_⟩,_⟩,_⟩;exact h1
   · have h8:=Id (l:=(y.us.getD i Unt.zero).uses) (o:=(y.us.getD i Unt.zero).old) (by omega) (by omega)
     unfold untI;omega
   · rcases hc4 with ⟨⟨h1,_⟩,_⟩;exact h1
 · intro h9
   have h2:=h9.i
   unfold untI at h2
   omega
theorem gT (y:Yr) (w:World) (hy:YIn w noF y) (hyb:YBd y) :
    Calls Tryz.prog 47 [.agg [.int .i64 y.days,.int .i64 y.pl,.slice y.PA y.ps.length y.pc,.slice y.XA y.xs.length y.xc,.slice y.BA y.pe.length y.bc,.int .i64 y.limit,.bool y.help,.slice y.QA y.prs.length y.qc,.slice y.VA y.us.length y.vc,.int .i64 y.crew,.slice y.SA y.sps.length y.sc].toArray].toArray w (Ret (fun v w'=>v = .int .i64 (yearE y)∧St w noF [] w')):=by
 have hn3:=hyb.usn
 refine enter Tryz.func47 rfl Tryz.ntmps47 rfl (fun a H=>?_)
 have S:=St.start w
 refine seq_list fun K1 k1=>?_
 refine aO H rfl S G G ?_;clear H a S;intro b1 _ a hb1 hbw1 S H
 refine ls 1 H<|sr 1 rfl<|sE ?_;clear H a;intro a H
 refine k1 _ _ ?_;clear k1 K1
 refine seq_list fun K2 k2=>?_
 refine ls 2 H<|sf fN rfl<|sd ((aE eR gY rfl S (i:=0) G G))<|sE ?_;clear H a;intro a H
 refine aA H G G Tryz.func8 G G (lY y.pl y.ps y.PA y.pc y.xs y.XA y.xc _ (hy.ps.now S) hyb.psn (hy.xs.now S) hyb.xsn) ?_;clear H a
 rintro _ _ a ⟨rfl,S2⟩ H
 replace S:=S.call S2;clear S2
 refine ls 1 H<|sr 1 rfl<|sE ?_;clear H a;intro a H
 refine k2 _ _ ?_;clear k2 K2
 refine wp_seq_k fun K3 k3=>?_
 refine sS H fun K4 k4=>sr 2 rfl<|sE ?_;clear H a;intro a H
 refine k4 _ ?_;clear k4 K4
 refine condN H rfl (fun hc1=>?_) (fun hc1=>?_)
 ·skip
  replace H:=H.keep [3] rfl
  refine sS H fun K5 k5=>sr 2 rfl<|sE ?_;clear H a;intro a H
  refine k5 _ ?_;clear k5 K5
  refine wp_ret ?_
  refine ret1 (fn:=Tryz.f47) rfl H rfl ?_
  have e9:=tW (day:=[]) (l:=y.prs) hc1
  rw [nI (by rw [e9];exact hc1),e9];exact ⟨rfl,(S.sel [] G G)⟩
 refine wp_skip ?_
 refine k3 _ _ ?_
 refine seq_list fun K6 k6=>?_
 refine ls 4 H<|sf fN rfl<|sd ((aE eR gY rfl S (i:=0) G G))<|sf wM rfl<|sl S 0 Bp G G G<|sE ?_;clear H a;intro a H
 refine aA H G G Tryz.func27 G G (pJ y.pl y.ps y.PA y.pc y.xs y.XA y.xc ([]:List Hq) none 0 (fun _=>none) (fun _=>0) y.prs y.QA y.qc _ (hy.ps.now S) hyb.psn (hy.xs.now S) hyb.xsn InS.nil (by decide) (fun k hk=>absurd hk (Nat.not_lt_zero k)) (fun k hk=>absurd hk (Nat.not_lt_zero k)) (hy.prs.now S) hyb.prn) ?_;clear H a
 rintro _ _ a ⟨rfl,S2⟩ H
 replace S:=S.call S2;clear S2
 refine ls 1 H<|sr 1 rfl<|sE ?_;clear H a;intro a H
 refine k6 _ _ ?_;clear k6 K6
 refine wp_seq_k fun K7 k7=>?_
 replace H:=H.keep [1,3] rfl
 refine sS H fun K8 k8=>sr 2 rfl<|sE ?_;clear H a;intro a H
 refine k8 _ ?_;clear k8 K8
 refine condN H rfl (fun hc2=>?_) (fun hc2=>?_)
 ·skip
  refine sS H fun K9 k9=>sr 2 rfl<|sE ?_;clear H a;intro a H
  refine k9 _ ?_;clear k9 K9
  refine wp_ret ?_
  refine ret1 (fn:=Tryz.f47) rfl H rfl ?_
  exact ⟨congrArg _ (nI hc2).symm,(S.sel [] G G)⟩
 refine wp_skip ?_
 refine k7 _ _ ?_
 refine wp_seq_k fun K10 k10=>?_
 refine seq_list fun K11 k11=>?_
 refine ls 1 H<|sd ((aE gF jQ rfl S (i:=0) G G))<|sE ?_;clear H a;intro a H
 refine aA H G G Tryz.func86 G G (Ih y _ (hy.now S) hyb (by omega)) ?_;clear H a
 rintro _ _ a ⟨rfl,S2⟩ H
 replace S:=S.call S2;clear S2
 refine ls 1 H<|sr 1 rfl<|sE ?_;clear H a;intro a H
 refine k11 _ _ ?_;clear k11 K11
 refine cond_ H rfl (fun hc3=>?_) (fun hc3=>?_)
 ·skip
  try simp only [o1,o2,o3,o4,o5,o6,o7,o8,o9,oa] at hc3
  refine sS H fun K12 k12=>sr 1 rfl<|sE ?_;clear H a;intro a H
  refine k12 _ ?_;clear k12 K12
  refine wp_ret ?_
  refine ret1 (fn:=Tryz.f47) rfl H rfl ?_
  rw [oX (by omega) (fun h=>by rw [Ns h] at hc3;simp at hc3)];exact ⟨rfl,(S.sel [] G G)⟩
 try simp only [o1,o2,o3,o4,o5,o6,o7,o8,o9,oa] at hc3
 have hyi:=Sr.1 (by simpa using hc3)
 refine wp_skip ?_
 refine k10 _ _ ?_
 refine wp_seq_k fun K13 k13=>?_
 replace H:=H.keep [1] rfl
 refine sS H fun K14 k14=>sf dI rfl<|sl S 0 eH G G G<|sL fE rfl<|sr 1 rfl<|sE ?_;clear H a;intro a H
 refine k14 _ ?_;clear k14 K14
 refine condL H rfl (fun hc4=>?_) (fun hc4=>?_)
 ·skip
  refine sS H fun K15 k15=>sr 1 rfl<|sE ?_;clear H a;intro a H
  refine k15 _ ?_;clear k15 K15
  refine wp_ret ?_
  refine ret1 (fn:=Tryz.f47) rfl H rfl ?_
  rw [tK (by omega) hyi (by omega)];exact ⟨rfl,(S.sel [] G G)⟩
 refine wp_skip ?_
 refine k13 _ _ ?_
 refine wp_seq_k fun K16 k16=>?_
 refine sS H fun K17 k17=>sr 1 rfl<|sE ?_;clear H a;intro a H
 refine k17 _ ?_;clear k17 K17
 refine wp_block ?_
 refine loop_st (X:=Nat) (R0:=_) [1] H rfl (fun k=>[(4,.int .i64 (k:Int))]) (fun k=>[]) (fun g k=>k≤y.us.length∧g+k=y.us.length∧∀ q,q<k→untB y.ps y.us q=true) (y.us.length) 0 ?_ (S.sel [0] G G) (H.keep [4,1] rfl) ?_
 · exact ⟨by omega,by omega,fun q hq=>absurd hq (Nat.not_lt_zero q)⟩
 clear H S a
 intro g1 x1 a w1 hp S H K18 k18
 obtain ⟨k,rfl⟩:∃ y,y=x1:=⟨_,rfl⟩
 refine wp_seq_k fun K19 k19=>?_
 refine sS H fun K20 k20=>sr 1 rfl<|sf dI rfl<|sl S 0 eH G G G<|sL fE rfl<|sr 1 rfl<|sE ?_;clear H a;intro a H
 refine k20 _ ?_;clear k20 K20
 refine condL H rfl (fun hc5=>?_) (fun hc5=>?_)
 ·skip
  refine wp_skip ?_
  refine k19 _ _ ?_
  refine wp_seq_k fun K21 k21=>?_
  refine wp_block ?_
  refine seq_list fun K22 k22=>?_
  refine ls 2 H<|sd ((aE gF jQ rfl S (i:=0) G G))<|sr 1 rfl<|sE ?_;clear H a;intro a H
  refine aA H G G Tryz.func87 G G (Ii y k _ (hy.now S) hyb (by omega)) ?_;clear H a
  rintro _ _ a ⟨rfl,S2⟩ H
  replace S:=S.call S2;clear S2
  refine ls 1 H<|sr 1 rfl<|sE ?_;clear H a;intro a H
  refine k22 _ _ ?_;clear k22 K22
  refine cond_ H rfl (fun hc6=>?_) (fun hc6=>?_)
  ·skip
   try simp only [o1,o2,o3,o4,o5,o6,o7,o8,o9,oa] at hc6
   replace H:=H.keep [] rfl
   refine sS H fun K23 k23=>sr 1 rfl<|sE ?_;clear H a;intro a H
   refine k23 _ ?_;clear k23 K23
   refine wp_ret ?_
   refine ret1 (fn:=Tryz.f47) rfl H rfl ?_
   rw [tL (by omega) hyi (by omega) (show k<y.us.length by omega) (by simpa using hc6)];exact ⟨rfl,(S.sel [] G G)⟩
  try simp only [o1,o2,o3,o4,o5,o6,o7,o8,o9,oa] at hc6
  refine wp_skip ?_
  refine k21 _ _ ?_
  refine sO H<|sr 1 rfl<|sd (aK G G (by unfold i64ok;omega))<|sr 1 rfl<|sE ?_;clear H a;intro a H
  exact k18 (g1-1) (k+1) a _ (by omega) (⟨by omega,by omega,eP (f:=untB y.ps y.us) hp.2.2 (by simpa using hc6)⟩) (S.sel [0] G G) (H.keep [4,1] rfl)
 refine wp_exit ?_
 refine k16 _ _ ?_
 refine sS H fun K25 k25=>sr 1 rfl<|sE ?_;clear H a;intro a H
 refine k25 _ ?_;clear k25 K25
 refine wp_ret ?_
 refine ret1 (fn:=Tryz.f47) rfl H rfl ?_
 rw [zQ (by omega) hyi (by omega) (cC.2 fun q hq=>hp.2.2 q (by omega))];exact ⟨rfl,(S.sel [] G G)⟩
theorem Nv (y:Yr) (l:List Tsk) (LA:Option Addr) (lc:Nat) (w:World) (hy:YIn w noF y) (hyb:YBd y) (hl:InS w noF 3 LA l.length (lF l)) (hln:l.length≤9223372036854775807) :
    Calls Tryz.prog 16 [.agg [.int .i64 y.days,.int .i64 y.pl,.slice y.PA y.ps.length y.pc,.slice y.XA y.xs.length y.xc,.slice y.BA y.pe.length y.bc,.int .i64 y.limit,.bool y.help,.slice y.QA y.prs.length y.qc,.slice y.VA y.us.length y.vc,.int .i64 y.crew,.slice y.SA y.sps.length y.sc].toArray,.slice LA l.length lc].toArray w (Ret (fun v w'=>v = .int .i64 (taskE y l)∧St w noF [] w')):=by
 have hn3:=hyb.usn
 refine enter Tryz.func16 rfl Tryz.ntmps16 rfl (fun a H=>?_)
 have S:=St.start w
 refine seq_list fun K1 k1=>?_
 refine aO H rfl S G G ?_;clear H a S;intro b2 _ a hb2 hbw2 S H
 refine ls 1 H<|sr 1 rfl<|sE ?_;clear H a;intro a H
 refine k1 _ _ ?_;clear k1 K1
 refine seq_list fun K2 k2=>?_
 refine ls 1 H<|sd ((aE gF jQ rfl S (i:=0) G G))<|sE ?_;clear H a;intro a H
 refine aA H G G Tryz.func47 G G (gT y _ (hy.now S) hyb) ?_;clear H a
 rintro _ _ a ⟨rfl,S2⟩ H
 replace S:=S.call S2;clear S2
 refine ls 1 H<|sr 1 rfl<|sE ?_;clear H a;intro a H
 refine k2 _ _ ?_;clear k2 K2
 refine wp_seq_k fun K3 k3=>?_
 refine sS H fun K4 k4=>sr 2 rfl<|sE ?_;clear H a;intro a H
 refine k4 _ ?_;clear k4 K4
 refine condN H rfl (fun hc1=>?_) (fun hc1=>?_)
 ·skip
  refine sS H fun K5 k5=>sr 2 rfl<|sE ?_;clear H a;intro a H
  refine k5 _ ?_;clear k5 K5
  refine wp_ret ?_
  refine ret1 (fn:=Tryz.f16) rfl H rfl ?_
  exact ⟨congrArg _ (tM hc1).symm,(S.sel [] G G)⟩
 have hye:yearE y=0:=by omega
 have hyi:=(rL hye).yr
 unfold yrI at hyi
 refine wp_skip ?_
 refine k3 _ _ ?_
 refine wp_seq_k fun K6 k6=>?_
 replace H:=H.keep [1,2] rfl
 refine sS H fun K7 k7=>sr 1 rfl<|sL eW rfl<|sr 1 rfl<|sE ?_;clear H a;intro a H
 refine k7 _ ?_;clear k7 K7
 refine condL H rfl (fun hc2=>?_) (fun hc2=>?_)
 ·skip
  refine sS H fun K8 k8=>sr 1 rfl<|sE ?_;clear H a;intro a H
  refine k8 _ ?_;clear k8 K8
  refine wp_ret ?_
  refine ret1 (fn:=Tryz.f16) rfl H rfl ?_
  rw [tN hye (by omega)];exact ⟨rfl,(S.sel [] G G)⟩
 refine wp_skip ?_
 refine k6 _ _ ?_
 refine wp_seq_k fun K9 k9=>?_
 refine sS H fun K10 k10=>sr 1 rfl<|sE ?_;clear H a;intro a H
 refine k10 _ ?_;clear k10 K10
 refine wp_block ?_
 refine loop_st (X:=Nat) (R0:=_) [1,2] H rfl (fun k=>[(6,.int .i64 (k:Int))]) (fun k=>[]) (fun g k=>k≤l.length∧g+k=l.length∧∀ q,q<k→tskB y l q=true) (l.length) 0 ?_ (S.sel [0] G G) (H.keep [6,1,2] rfl) ?_
 · exact ⟨by omega,by omega,fun q hq=>absurd hq (Nat.not_lt_zero q)⟩
 clear H S a
 intro g1 x1 a w1 hp S H K11 k11
 obtain ⟨k,rfl⟩:∃ y,y=x1:=⟨_,rfl⟩
 refine wp_seq_k fun K12 k12=>?_
 refine sS H fun K13 k13=>sr 2 rfl<|sL eW rfl<|sr 1 rfl<|sE ?_;clear H a;intro a H
 refine k13 _ ?_;clear k13 K13
 refine condL H rfl (fun hc3=>?_) (fun hc3=>?_)
 ·skip
  refine wp_skip ?_
  refine k12 _ _ ?_
  refine wp_seq_k fun K14 k14=>?_
  refine wp_block ?_
  rcases chk5 (0≤(l.getD k Tsk.zero).day∧(l.getD k Tsk.zero).day≤y.days-1) (0≤(l.getD k Tsk.zero).unit∧(l.getD k Tsk.zero).unit≤(y.us.length:Int)-1) (1≤(l.getD k Tsk.zero).kind∧(l.getD k Tsk.zero).kind≤2) k with hB|hB|hB|hB|hB
  ·skip
   skip
   replace H:=H.keep [1,2,6] rfl
   replace S:=S.drew
   refine seq_wq [(0,true),(1,true),(2,true),(3,true),(4,true),(5,true),(6,true),(7,true),(8,false),(9,true),(10,true),(11,true),(12,true),(13,true),(14,true),(15,true),(16,true),(17,true),(18,true),(19,true),(20,true),(21,true),(22,true),(23,true),(24,true),(25,true),(26,true),(27,true),(28,true),(29,true),(30,true),(31,true),(32,true),(33,true),(34,true),(35,true),(36,true),(37,true),(38,true),(39,true),(40,true),(41,true),(42,true),(43,true),(44,true),(45,true),(46,true),(47,true),(48,true)] (by kernel_rfl) (by kernel_rfl) (S.sel [0] G G) fun K15 k15=>?_
   refine qF H<|qr 2 rfl<|qd rfl (fun _ S=>aZ eW eM G G (hl.adr (by omega)) (by omega))<|qd rfl (fun _ S=>(bE dO rfl))<|qd rfl (fun _ S=>aG aD rfl (hl.rd S (by omega) (by omega)))<|qd rfl (fun _ S=>(aC dH rfl))<|qd rfl (fun _ S=>aG aD rfl (boxM.rd S (i:=0) G G))<|qd rfl (fun _ S=>aS G G (by unfold i64ok;omega))<|qK ?_;clear H a;intro a H
   refine aV rfl ?_
   refine aA H G G Tryz.func48 G G (cX _ _ _ _) ?_;clear H a
   rintro _ _ a ⟨rfl,rfl⟩ H
   refine wpList_nil (And.intro (S.sel [0] G G) ?_)
   refine qF H<|qd rfl (fun _ S=>gC rfl (by omega))<|qr 1 rfl<|qK ?_;clear H a;intro a H
   refine aJ H G G G G G ?_;clear H a;intro a H
   refine aJ H G G G G G ?_;clear H a;intro a H
   refine aJ H G G G G G ?_;clear H a;intro a H
   refine aJ H G G G G G ?_;clear H a;intro a H
   refine aJ H G G G G G ?_;clear H a;intro a H
   refine aJ H G G G G G ?_;clear H a;intro a H
   refine aJ H G G G G G ?_;clear H a;intro a H
   refine aJ H G G G G G ?_;clear H a;intro a H
   refine aJ H G G G G G ?_;clear H a;intro a H
   refine aJ H G G G G G ?_;clear H a;intro a H
   refine aJ H G G G G G ?_;clear H a;intro a H
   refine qF H<|qd rfl (fun _ S=>(aT G G G))<|qr 1 rfl<|qK ?_;clear H a;intro a H
   refine aJ H G G G G G ?_;clear H a;intro a H
   refine aJ H G G G G G ?_;clear H a;intro a H
   refine aJ H G G G G G ?_;clear H a;intro a H
   refine aJ H G G G G G ?_;clear H a;intro a H
   refine aJ H G G G G G ?_;clear H a;intro a H
   refine aJ H G G G G G ?_;clear H a;intro a H
   refine aJ H G G G G G ?_;clear H a;intro a H
   refine qF H<|qd rfl (fun _ S=>(aT G G G))<|qr 1 rfl<|qK ?_;clear H a;intro a H
   refine aJ H G G G G G ?_;clear H a;intro a H
   refine aJ H G G G G G ?_;clear H a;intro a H
   refine aJ H G G G G G ?_;clear H a;intro a H
   refine bU H G G G G ?_;clear H a;intro a H
   refine bU H G G G G ?_;clear H a;intro a H
   refine bU H G G G G ?_;clear H a;intro a H
   refine bU H G G G G ?_;clear H a;intro a H
   refine bU H G G G G ?_;clear H a;intro a H
   refine bU H G G G G ?_;clear H a;intro a H
   refine bU H G G G G ?_;clear H a;intro a H
   refine bU H G G G G ?_;clear H a;intro a H
   refine bU H G G G G ?_;clear H a;intro a H
   refine bU H G G G G ?_;clear H a;intro a H
   refine bU H G G G G ?_;clear H a;intro a H
   refine aJ H G G G G G ?_;clear H a;intro a H
   refine qF H<|qd rfl (fun _ S=>(aT G G G))<|qK ?_;clear H a;intro a H
   refine bO ?_
   refine k15 _ _ ?_
   clear k15 K15
   refine cond_ H rfl (fun hc4=>?_) (fun hc4=>?_)
   ·skip
    skip
    replace H:=H.keep [] rfl
    refine sS H fun K16 k16=>sr 1 rfl<|sE ?_;clear H a;intro a H
    refine k16 _ ?_;clear k16 K16
    refine wp_ret ?_
    refine ret1 (fn:=Tryz.f16) rfl H rfl ?_
    rw [fZ hye (by omega) (show k<l.length by omega) (kM (by omega))];exact ⟨rfl,(S.sel [] G G)⟩
   skip
   cases hc4
  ·skip
   skip
   replace H:=H.keep [1,2,6] rfl
   replace S:=S.drew
   refine seq_wq [(0,true),(1,true),(2,true),(3,true),(4,true),(5,true),(6,true),(7,true),(8,false),(9,true),(10,true),(11,true),(12,true),(13,true),(14,true),(15,true),(16,true),(17,true),(18,true),(19,true),(20,false),(21,true),(22,true),(23,true),(24,true),(25,true),(26,true),(27,true),(28,true),(29,true),(30,true),(31,true),(32,true),(33,true),(34,true),(35,true),(36,true),(37,true),(38,true),(39,true),(40,true),(41,true),(42,true),(43,true),(44,true),(45,true),(46,true),(47,true),(48,true)] (by kernel_rfl) (by kernel_rfl) (S.sel [0] G G) fun K17 k17=>?_
   refine qF H<|qr 2 rfl<|qd rfl (fun _ S=>aZ eW eM G G (hl.adr (by omega)) (by omega))<|qd rfl (fun _ S=>(bE dO rfl))<|qd rfl (fun _ S=>aG aD rfl (hl.rd S (by omega) (by omega)))<|qd rfl (fun _ S=>(aC dH rfl))<|qd rfl (fun _ S=>aG aD rfl (boxM.rd S (i:=0) G G))<|qd rfl (fun _ S=>aS G G (by unfold i64ok;omega))<|qK ?_;clear H a;intro a H
   refine aV rfl ?_
   refine aA H G G Tryz.func48 G G (cX _ _ _ _) ?_;clear H a
   rintro _ _ a ⟨rfl,rfl⟩ H
   refine wpList_nil (And.intro (S.sel [0] G G) ?_)
   refine qF H<|qd rfl (fun _ S=>bW rfl (by omega))<|qr 1 rfl<|qK ?_;clear H a;intro a H
   refine aF H G G G G (fun _ S=>aL rfl) ?_;clear H a;intro a H
   refine aF H G G G G (fun _ S=>aL rfl) ?_;clear H a;intro a H
   refine aF H G G G G (fun _ S=>aZ eW eM G G (hl.adr (by omega)) (by omega)) ?_;clear H a;intro a H
   refine aF H G G G G (fun _ S=>(bE dZ rfl)) ?_;clear H a;intro a H
   refine aF H G G G G (fun _ S=>aG aD rfl (hl.rd S (by omega) (by omega))) ?_;clear H a;intro a H
   refine aF H G G G G (fun _ S=>(aC dI rfl)) ?_;clear H a;intro a H
   refine aF H G G G G (fun _ S=>aG eH rfl (boxM.rd S (i:=0) G G)) ?_;clear H a;intro a H
   refine aF H G G G G (fun _ S=>cO fE rfl) ?_;clear H a;intro a H
   refine aF H G G G G (fun _ S=>aS G G (by unfold i64ok;omega)) ?_;clear H a;intro a H
   refine aV rfl ?_
   refine aY H G G ?_
   refine aA H G G Tryz.func48 G G (cX _ _ _ _) ?_;clear H a
   rintro _ _ a ⟨rfl,rfl⟩ H
   refine wpList_nil (And.intro (S.sel [0] G G) ?_)
   refine aF H G G G G (fun _ S=>gC rfl (by omega)) ?_;clear H a;intro a H
   refine qF H<|qd rfl (fun _ S=>(aX G G G))<|qr 1 rfl<|qK ?_;clear H a;intro a H
   refine aJ H G G G G G ?_;clear H a;intro a H
   refine aJ H G G G G G ?_;clear H a;intro a H
   refine aJ H G G G G G ?_;clear H a;intro a H
   refine aJ H G G G G G ?_;clear H a;intro a H
   refine aJ H G G G G G ?_;clear H a;intro a H
   refine aJ H G G G G G ?_;clear H a;intro a H
   refine aJ H G G G G G ?_;clear H a;intro a H
   refine qF H<|qd rfl (fun _ S=>(aT G G G))<|qr 1 rfl<|qK ?_;clear H a;intro a H
   refine aJ H G G G G G ?_;clear H a;intro a H
   refine aJ H G G G G G ?_;clear H a;intro a H
   refine aJ H G G G G G ?_;clear H a;intro a H
   refine bU H G G G G ?_;clear H a;intro a H
   refine bU H G G G G ?_;clear H a;intro a H
   refine bU H G G G G ?_;clear H a;intro a H
   refine bU H G G G G ?_;clear H a;intro a H
   refine bU H G G G G ?_;clear H a;intro a H
   refine bU H G G G G ?_;clear H a;intro a H
   refine bU H G G G G ?_;clear H a;intro a H
   refine bU H G G G G ?_;clear H a;intro a H
   refine bU H G G G G ?_;clear H a;intro a H
   refine bU H G G G G ?_;clear H a;intro a H
   refine bU H G G G G ?_;clear H a;intro a H
   refine aJ H G G G G G ?_;clear H a;intro a H
   refine qF H<|qd rfl (fun _ S=>(aT G G G))<|qK ?_;clear H a;intro a H
   refine bO ?_
   refine k17 _ _ ?_
   clear k17 K17
   refine cond_ H rfl (fun hc5=>?_) (fun hc5=>?_)
   ·skip
    skip
    replace H:=H.keep [] rfl
    refine sS H fun K18 k18=>sr 1 rfl<|sE ?_;clear H a;intro a H
    refine k18 _ ?_;clear k18 K18
    refine wp_ret ?_
    refine ret1 (fn:=Tryz.f16) rfl H rfl ?_
    rw [fZ hye (by omega) (show k<l.length by omega) (kM (by omega))];exact ⟨rfl,(S.sel [] G G)⟩
   skip
   cases hc5
  ·skip
   skip
   replace H:=H.keep [1,2,6] rfl
   replace S:=S.drew
   refine seq_wq [(0,true),(1,true),(2,true),(3,true),(4,true),(5,true),(6,true),(7,true),(8,false),(9,true),(10,true),(11,true),(12,true),(13,true),(14,true),(15,true),(16,true),(17,true),(18,true),(19,true),(20,false),(21,true),(22,true),(23,true),(24,true),(25,true),(26,true),(27,true),(28,true),(29,false),(30,true),(31,true),(32,true),(33,true),(34,true),(35,true),(36,true),(37,true),(38,true),(39,true),(40,true),(41,true),(42,true),(43,true),(44,true),(45,true),(46,true),(47,true),(48,true)] (by kernel_rfl) (by kernel_rfl) (S.sel [0] G G) fun K19 k19=>?_
   refine qF H<|qr 2 rfl<|qd rfl (fun _ S=>aZ eW eM G G (hl.adr (by omega)) (by omega))<|qd rfl (fun _ S=>(bE dO rfl))<|qd rfl (fun _ S=>aG aD rfl (hl.rd S (by omega) (by omega)))<|qd rfl (fun _ S=>(aC dH rfl))<|qd rfl (fun _ S=>aG aD rfl (boxM.rd S (i:=0) G G))<|qd rfl (fun _ S=>aS G G (by unfold i64ok;omega))<|qK ?_;clear H a;intro a H
   refine aV rfl ?_
   refine aA H G G Tryz.func48 G G (cX _ _ _ _) ?_;clear H a
   rintro _ _ a ⟨rfl,rfl⟩ H
   refine wpList_nil (And.intro (S.sel [0] G G) ?_)
   refine qF H<|qd rfl (fun _ S=>bW rfl (by omega))<|qr 1 rfl<|qK ?_;clear H a;intro a H
   refine aF H G G G G (fun _ S=>aL rfl) ?_;clear H a;intro a H
   refine aF H G G G G (fun _ S=>aL rfl) ?_;clear H a;intro a H
   refine aF H G G G G (fun _ S=>aZ eW eM G G (hl.adr (by omega)) (by omega)) ?_;clear H a;intro a H
   refine aF H G G G G (fun _ S=>(bE dZ rfl)) ?_;clear H a;intro a H
   refine aF H G G G G (fun _ S=>aG aD rfl (hl.rd S (by omega) (by omega))) ?_;clear H a;intro a H
   refine aF H G G G G (fun _ S=>(aC dI rfl)) ?_;clear H a;intro a H
   refine aF H G G G G (fun _ S=>aG eH rfl (boxM.rd S (i:=0) G G)) ?_;clear H a;intro a H
   refine aF H G G G G (fun _ S=>cO fE rfl) ?_;clear H a;intro a H
   refine aF H G G G G (fun _ S=>aS G G (by unfold i64ok;omega)) ?_;clear H a;intro a H
   refine aV rfl ?_
   refine aY H G G ?_
   refine aA H G G Tryz.func48 G G (cX _ _ _ _) ?_;clear H a
   rintro _ _ a ⟨rfl,rfl⟩ H
   refine wpList_nil (And.intro (S.sel [0] G G) ?_)
   refine aF H G G G G (fun _ S=>bW rfl (by omega)) ?_;clear H a;intro a H
   refine qF H<|qd rfl (fun _ S=>(aX G G G))<|qr 1 rfl<|qK ?_;clear H a;intro a H
   refine aF H G G G G (fun _ S=>aL rfl) ?_;clear H a;intro a H
   refine aF H G G G G (fun _ S=>aL rfl) ?_;clear H a;intro a H
   refine aF H G G G G (fun _ S=>aZ eW eM G G (hl.adr (by omega)) (by omega)) ?_;clear H a;intro a H
   refine aF H G G G G (fun _ S=>(bE gJ rfl)) ?_;clear H a;intro a H
   refine aF H G G G G (fun _ S=>aG aD rfl (hl.rd S (by omega) (by omega))) ?_;clear H a;intro a H
   refine aV rfl ?_
   refine aY H G G ?_
   refine aA H G G Tryz.func48 G G (cX _ _ _ _) ?_;clear H a
   rintro _ _ a ⟨rfl,rfl⟩ H
   refine wpList_nil (And.intro (S.sel [0] G G) ?_)
   refine aF H G G G G (fun _ S=>gC rfl (by omega)) ?_;clear H a;intro a H
   refine qF H<|qd rfl (fun _ S=>(aX G G G))<|qr 1 rfl<|qK ?_;clear H a;intro a H
   refine aJ H G G G G G ?_;clear H a;intro a H
   refine aJ H G G G G G ?_;clear H a;intro a H
   refine aJ H G G G G G ?_;clear H a;intro a H
   refine bU H G G G G ?_;clear H a;intro a H
   refine bU H G G G G ?_;clear H a;intro a H
   refine bU H G G G G ?_;clear H a;intro a H
   refine bU H G G G G ?_;clear H a;intro a H
   refine bU H G G G G ?_;clear H a;intro a H
   refine bU H G G G G ?_;clear H a;intro a H
   refine bU H G G G G ?_;clear H a;intro a H
   refine bU H G G G G ?_;clear H a;intro a H
   refine bU H G G G G ?_;clear H a;intro a H
   refine bU H G G G G ?_;clear H a;intro a H
   refine bU H G G G G ?_;clear H a;intro a H
   refine aJ H G G G G G ?_;clear H a;intro a H
   refine qF H<|qd rfl (fun _ S=>(aT G G G))<|qK ?_;clear H a;intro a H
   refine bO ?_
   refine k19 _ _ ?_
   clear k19 K19
   refine cond_ H rfl (fun hc6=>?_) (fun hc6=>?_)
   ·skip
    skip
    replace H:=H.keep [] rfl
    refine sS H fun K20 k20=>sr 1 rfl<|sE ?_;clear H a;intro a H
    refine k20 _ ?_;clear k20 K20
    refine wp_ret ?_
    refine ret1 (fn:=Tryz.f16) rfl H rfl ?_
    rw [fZ hye (by omega) (show k<l.length by omega) (kM (by omega))];exact ⟨rfl,(S.sel [] G G)⟩
   skip
   cases hc6
  ·skip
   skip
   replace H:=H.keep [1,2,6] rfl
   replace S:=S.drew
   refine seq_wq [(0,true),(1,true),(2,true),(3,true),(4,true),(5,true),(6,true),(7,true),(8,false),(9,true),(10,true),(11,true),(12,true),(13,true),(14,true),(15,true),(16,true),(17,true),(18,true),(19,true),(20,false),(21,true),(22,true),(23,true),(24,true),(25,true),(26,true),(27,true),(28,true),(29,false),(30,true),(31,true),(32,true),(33,true),(34,true),(35,true),(36,true),(37,true),(38,true),(39,true),(40,true),(41,true),(42,true),(43,true),(44,true),(45,true),(46,true),(47,true),(48,true)] (by kernel_rfl) (by kernel_rfl) (S.sel [0] G G) fun K21 k21=>?_
   refine qF H<|qr 2 rfl<|qd rfl (fun _ S=>aZ eW eM G G (hl.adr (by omega)) (by omega))<|qd rfl (fun _ S=>(bE dO rfl))<|qd rfl (fun _ S=>aG aD rfl (hl.rd S (by omega) (by omega)))<|qd rfl (fun _ S=>(aC dH rfl))<|qd rfl (fun _ S=>aG aD rfl (boxM.rd S (i:=0) G G))<|qd rfl (fun _ S=>aS G G (by unfold i64ok;omega))<|qK ?_;clear H a;intro a H
   refine aV rfl ?_
   refine aA H G G Tryz.func48 G G (cX _ _ _ _) ?_;clear H a
   rintro _ _ a ⟨rfl,rfl⟩ H
   refine wpList_nil (And.intro (S.sel [0] G G) ?_)
   refine qF H<|qd rfl (fun _ S=>bW rfl (by omega))<|qr 1 rfl<|qK ?_;clear H a;intro a H
   refine aF H G G G G (fun _ S=>aL rfl) ?_;clear H a;intro a H
   refine aF H G G G G (fun _ S=>aL rfl) ?_;clear H a;intro a H
   refine aF H G G G G (fun _ S=>aZ eW eM G G (hl.adr (by omega)) (by omega)) ?_;clear H a;intro a H
   refine aF H G G G G (fun _ S=>(bE dZ rfl)) ?_;clear H a;intro a H
   refine aF H G G G G (fun _ S=>aG aD rfl (hl.rd S (by omega) (by omega))) ?_;clear H a;intro a H
   refine aF H G G G G (fun _ S=>(aC dI rfl)) ?_;clear H a;intro a H
   refine aF H G G G G (fun _ S=>aG eH rfl (boxM.rd S (i:=0) G G)) ?_;clear H a;intro a H
   refine aF H G G G G (fun _ S=>cO fE rfl) ?_;clear H a;intro a H
   refine aF H G G G G (fun _ S=>aS G G (by unfold i64ok;omega)) ?_;clear H a;intro a H
   refine aV rfl ?_
   refine aY H G G ?_
   refine aA H G G Tryz.func48 G G (cX _ _ _ _) ?_;clear H a
   rintro _ _ a ⟨rfl,rfl⟩ H
   refine wpList_nil (And.intro (S.sel [0] G G) ?_)
   refine aF H G G G G (fun _ S=>bW rfl (by omega)) ?_;clear H a;intro a H
   refine qF H<|qd rfl (fun _ S=>(aX G G G))<|qr 1 rfl<|qK ?_;clear H a;intro a H
   refine aF H G G G G (fun _ S=>aL rfl) ?_;clear H a;intro a H
   refine aF H G G G G (fun _ S=>aL rfl) ?_;clear H a;intro a H
   refine aF H G G G G (fun _ S=>aZ eW eM G G (hl.adr (by omega)) (by omega)) ?_;clear H a;intro a H
   refine aF H G G G G (fun _ S=>(bE gJ rfl)) ?_;clear H a;intro a H
   refine aF H G G G G (fun _ S=>aG aD rfl (hl.rd S (by omega) (by omega))) ?_;clear H a;intro a H
   refine aV rfl ?_
   refine aY H G G ?_
   refine aA H G G Tryz.func48 G G (cX _ _ _ _) ?_;clear H a
   rintro _ _ a ⟨rfl,rfl⟩ H
   refine wpList_nil (And.intro (S.sel [0] G G) ?_)
   refine aF H G G G G (fun _ S=>bW rfl (by omega)) ?_;clear H a;intro a H
   refine qF H<|qd rfl (fun _ S=>(aX G G G))<|qr 1 rfl<|qK ?_;clear H a;intro a H
   refine aF H G G G G (fun _ S=>aL rfl) ?_;clear H a;intro a H
   refine aF H G G G G (fun _ S=>pN G G (by omega)) ?_;clear H a;intro a H
   refine aF H G G G G (fun _ S=>aL rfl) ?_;clear H a;intro a H
   refine aJ H G G G G G ?_;clear H a;intro a H
   refine aJ H G G G G G ?_;clear H a;intro a H
   refine aJ H G G G G G ?_;clear H a;intro a H
   refine aJ H G G G G G ?_;clear H a;intro a H
   refine aJ H G G G G G ?_;clear H a;intro a H
   refine aJ H G G G G G ?_;clear H a;intro a H
   refine aJ H G G G G G ?_;clear H a;intro a H
   refine aJ H G G G G G ?_;clear H a;intro a H
   refine aJ H G G G G G ?_;clear H a;intro a H
   refine aJ H G G G G G ?_;clear H a;intro a H
   refine aJ H G G G G G ?_;clear H a;intro a H
   refine aF H G G G G (fun _ S=>(aT G G G)) ?_;clear H a;intro a H
   refine qF H<|qd rfl (fun _ S=>(aX G G G))<|qK ?_;clear H a;intro a H
   refine bO ?_
   refine k21 _ _ ?_
   clear k21 K21
   refine cond_ H rfl (fun hc7=>?_) (fun hc7=>?_)
   ·skip
    skip
    cases hc7
   skip
   refine wp_skip ?_
   refine k14 _ _ ?_
   replace H:=H.keep [1,2,6] rfl
   refine sO H<|sr 1 rfl<|sd (aK G G (by unfold i64ok;omega))<|sr 1 rfl<|sE ?_;clear H a;intro a H
   exact k11 (g1-1) (k+1) a _ (by omega) (by first|exact ⟨by omega,by omega,eP (f:=tskB y l) hp.2.2 (mQ hB)⟩|exact ⟨by omega,by omega,eP (f:=tskB y l) hp.2.2 (mR hB hc8)⟩) (S.sel [0] G G) (H.keep [6,1,2] rfl)
  skip
  replace H:=H.keep [1,2,6] rfl
  replace S:=S.drew
  refine seq_wq [(0,true),(1,true),(2,true),(3,true),(4,true),(5,true),(6,true),(7,true),(8,false),(9,true),(10,true),(11,true),(12,true),(13,true),(14,true),(15,true),(16,true),(17,true),(18,true),(19,true),(20,false),(21,true),(22,true),(23,true),(24,true),(25,true),(26,true),(27,true),(28,true),(29,false),(30,true),(31,true),(32,true),(33,true),(34,true),(35,true),(36,true),(37,true),(38,true),(39,true),(40,true),(41,true),(42,true),(43,true),(44,true),(45,false),(46,true),(47,true),(48,true)] (by kernel_rfl) (by kernel_rfl) (S.sel [0] G G) fun K23 k23=>?_
  refine qF H<|qr 2 rfl<|qd rfl (fun _ S=>aZ eW eM G G (hl.adr (by omega)) (by omega))<|qd rfl (fun _ S=>(bE dO rfl))<|qd rfl (fun _ S=>aG aD rfl (hl.rd S (by omega) (by omega)))<|qd rfl (fun _ S=>(aC dH rfl))<|qd rfl (fun _ S=>aG aD rfl (boxM.rd S (i:=0) G G))<|qd rfl (fun _ S=>aS G G (by unfold i64ok;omega))<|qK ?_;clear H a;intro a H
  refine aV rfl ?_
  refine aA H G G Tryz.func48 G G (cX _ _ _ _) ?_;clear H a
  rintro _ _ a ⟨rfl,rfl⟩ H
  refine wpList_nil (And.intro (S.sel [0] G G) ?_)
  refine qF H<|qd rfl (fun _ S=>bW rfl (by omega))<|qr 1 rfl<|qK ?_;clear H a;intro a H
  refine aF H G G G G (fun _ S=>aL rfl) ?_;clear H a;intro a H
  refine aF H G G G G (fun _ S=>aL rfl) ?_;clear H a;intro a H
  refine aF H G G G G (fun _ S=>aZ eW eM G G (hl.adr (by omega)) (by omega)) ?_;clear H a;intro a H
  refine aF H G G G G (fun _ S=>(bE dZ rfl)) ?_;clear H a;intro a H
  refine aF H G G G G (fun _ S=>aG aD rfl (hl.rd S (by omega) (by omega))) ?_;clear H a;intro a H
  refine aF H G G G G (fun _ S=>(aC dI rfl)) ?_;clear H a;intro a H
  refine aF H G G G G (fun _ S=>aG eH rfl (boxM.rd S (i:=0) G G)) ?_;clear H a;intro a H
  refine aF H G G G G (fun _ S=>cO fE rfl) ?_;clear H a;intro a H
  refine aF H G G G G (fun _ S=>aS G G (by unfold i64ok;omega)) ?_;clear H a;intro a H
  refine aV rfl ?_
  refine aY H G G ?_
  refine aA H G G Tryz.func48 G G (cX _ _ _ _) ?_;clear H a
  rintro _ _ a ⟨rfl,rfl⟩ H
  refine wpList_nil (And.intro (S.sel [0] G G) ?_)
  refine aF H G G G G (fun _ S=>bW rfl (by omega)) ?_;clear H a;intro a H
  refine qF H<|qd rfl (fun _ S=>(aX G G G))<|qr 1 rfl<|qK ?_;clear H a;intro a H
  refine aF H G G G G (fun _ S=>aL rfl) ?_;clear H a;intro a H
  refine aF H G G G G (fun _ S=>aL rfl) ?_;clear H a;intro a H
  refine aF H G G G G (fun _ S=>aZ eW eM G G (hl.adr (by omega)) (by omega)) ?_;clear H a;intro a H
  refine aF H G G G G (fun _ S=>(bE gJ rfl)) ?_;clear H a;intro a H
  refine aF H G G G G (fun _ S=>aG aD rfl (hl.rd S (by omega) (by omega))) ?_;clear H a;intro a H
  refine aV rfl ?_
  refine aY H G G ?_
  refine aA H G G Tryz.func48 G G (cX _ _ _ _) ?_;clear H a
  rintro _ _ a ⟨rfl,rfl⟩ H
  refine wpList_nil (And.intro (S.sel [0] G G) ?_)
  refine aF H G G G G (fun _ S=>bW rfl (by omega)) ?_;clear H a;intro a H
  refine qF H<|qd rfl (fun _ S=>(aX G G G))<|qr 1 rfl<|qK ?_;clear H a;intro a H
  refine aF H G G G G (fun _ S=>aL rfl) ?_;clear H a;intro a H
  refine aF H G G G G (fun _ S=>pM G G (by omega)) ?_;clear H a;intro a H
  refine aF H G G G G (fun _ S=>aL rfl) ?_;clear H a;intro a H
  refine aF H G G G G (fun _ S=>aL rfl) ?_;clear H a;intro a H
  refine aF H G G G G (fun _ S=>aL rfl) ?_;clear H a;intro a H
  refine aF H G G G G (fun _ S=>aS G G (by unfold i64ok;omega)) ?_;clear H a;intro a H
  refine aF H G G G G (fun _ S=>bK eW eM G G (hl.adr (by omega)) (by omega) (by omega)) ?_;clear H a;intro a H
  refine aF H G G G G (fun _ S=>(aU pV eM rfl S hl (by omega) (by omega))) ?_;clear H a;intro a H
  refine aF H G G G G (fun _ S=>aL rfl) ?_;clear H a;intro a H
  refine aF H G G G G (fun _ S=>aL rfl) ?_;clear H a;intro a H
  refine aF H G G G G (fun _ S=>aZ eW eM G G (hl.adr (by omega)) (by omega)) ?_;clear H a;intro a H
  refine aF H G G G G (fun _ S=>(aU pV eM rfl S hl (by omega) (by omega))) ?_;clear H a;intro a H
  refine aV rfl ?_
  refine aY H G G ?_
  refine aA H G G Tryz.func49 G G (Ig (l.getD ((k:Int)-1).toNat Tsk.zero) (l.getD k Tsk.zero) _) ?_;clear H a
  rintro _ _ a ⟨rfl,S2⟩ H
  replace S:=S.call S2;clear S2
  refine wpList_nil (And.intro (S.sel [0] G G) ?_)
  refine aF H G G G G (fun _ S=>cS rfl) ?_;clear H a;intro a H
  refine aF H G G G G (fun _ S=>(iZ G G G)) ?_;clear H a;intro a H
  refine qF H<|qd rfl (fun _ S=>(aX G G G))<|qK ?_;clear H a;intro a H
  refine bO ?_
  refine k23 _ _ ?_
  clear k23 K23
  refine cond_ H rfl (fun hc8=>?_) (fun hc8=>?_)
  ·skip
   try simp only [o1,o2,o3,o4,o5,o6,o7,o8,o9,oa] at hc8
   replace hc8:befB (l.getD ((k:Int)-1).toNat Tsk.zero) (l.getD k Tsk.zero)=false:=by simpa using hc8
   replace H:=H.keep [] rfl
   refine sS H fun K24 k24=>sr 1 rfl<|sE ?_;clear H a;intro a H
   refine k24 _ ?_;clear k24 K24
   refine wp_ret ?_
   refine ret1 (fn:=Tryz.f16) rfl H rfl ?_
   rw [fZ hye (by omega) (show k<l.length by omega) (An hB hc8)];exact ⟨rfl,(S.sel [] G G)⟩
  try simp only [o1,o2,o3,o4,o5,o6,o7,o8,o9,oa] at hc8
  replace hc8:befB (l.getD ((k:Int)-1).toNat Tsk.zero) (l.getD k Tsk.zero)=true:=by simpa using hc8
  refine wp_skip ?_
  refine k14 _ _ ?_
  refine sO H<|sr 1 rfl<|sd (aK G G (by unfold i64ok;omega))<|sr 1 rfl<|sE ?_;clear H a;intro a H
  exact k11 (g1-1) (k+1) a _ (by omega) (by first|exact ⟨by omega,by omega,eP (f:=tskB y l) hp.2.2 (mQ hB)⟩|exact ⟨by omega,by omega,eP (f:=tskB y l) hp.2.2 (mR hB hc8)⟩) (S.sel [0] G G) (H.keep [6,1,2] rfl)
 refine wp_exit ?_
 refine k9 _ _ ?_
 refine sS H fun K26 k26=>sr 1 rfl<|sE ?_;clear H a;intro a H
 refine k26 _ ?_;clear k26 K26
 refine wp_ret ?_
 refine ret1 (fn:=Tryz.f16) rfl H rfl ?_
 rw [zR hye (by omega) (cC.2 fun q hq=>hp.2.2 q (by omega))];exact ⟨rfl,(S.sel [] G G)⟩
end
section
def crwV (pl:Int) (ps:List Psg) (xs:List Int) (pe:List Int) (T0:Int):Bool:=if 26<ps.length∨12<pe.length then true else if iQ pl ps xs 0 pe T0≠0 then false else (decide (12<ps.length)||decide (60<sumI pe pe.length))||decide (14<T0)
section
variable {pl T0:Int} {ps:List Psg} {xs pe:List Int}
theorem Nw (h:26<ps.length∨12<pe.length):crwV pl ps xs pe T0=true:=by unfold crwV;rw [if_pos h]
theorem Su (h:¬ (26<ps.length∨12<pe.length)) (h2:¬ iQ pl ps xs 0 pe T0=0):crwV pl ps xs pe T0=false:=by unfold crwV;rw [if_neg h,if_pos h2]
theorem Wv (h:¬ (26<ps.length∨12<pe.length)) (h2:iQ pl ps xs 0 pe T0=0):crwV pl ps xs pe T0=((decide (12<ps.length)||decide (60<sumI pe pe.length))||decide (14<T0)):=by unfold crwV;rw [if_neg h,if_neg (fun h9=>h9 h2)]
end
theorem lng4 (A B:Prop) (c:Bool) [Decidable A] [Decidable B]:¬ A∨(A∧c=true)∨(A∧c=false∧B)∨(A∧c=false∧¬ B):=by
  by_cases hA:A <;> by_cases hB:B <;> cases c <;> simp [hA,hB]
theorem nO (pl:Int) (ps:List Psg) (PA:Option Addr) (pc:Nat) (xs:List Int) (XA:Option Addr) (xc:Nat) (pe:List Int) (BA:Option Addr) (bc:Nat) (T0:Int) (w:World) (hps:InS w noF 7 PA ps.length (pcell ps)) (hpn:ps.length≤9223372036854775807) (hxs:InS w noF 1 XA xs.length (icl xs)) (hxn:xs.length≤9223372036854775807) (hpe:InS w noF 1 BA pe.length (icl pe)) (hpen:pe.length≤9223372036854775807) :
    Calls Tryz.prog 24 [.agg [.int .i64 pl,.slice PA ps.length pc,.slice XA xs.length xc].toArray,.slice BA pe.length bc,.int .i64 T0].toArray w (Ret (fun u w'=>u = .bool (crwV pl ps xs pe T0)∧St w noF [] w')):=by
 refine enter Tryz.func24 rfl Tryz.ntmps24 rfl (fun a H=>?_)
 have S:=St.start w
 refine seq_list fun K1 k1=>?_
 refine aO H rfl S G G ?_;clear H a S;intro b3 _ a hb3 hbw3 S H
 refine ls 1 H<|sr 1 rfl<|sE ?_;clear H a;intro a H
 refine k1 _ _ ?_;clear k1 K1
 refine wp_seq_k fun K2 k2=>?_
 replace H:=H.keep [1,2,3] rfl
 refine sS H fun K3 k3=>sf fM rfl<|sl S 0 iP G G G<|sL jD rfl<|sr 2 rfl<|sg 3 4 13 16 false G G (fun hg5=>sy hg5<|sr 1 rfl<|sy hg5<|sL aW rfl<|sy hg5<|sr 1 rfl<|sz 3 G G G)<|so G G G<|sE ?_;clear H a;intro a H
 refine k3 _ ?_;clear k3 K3
 refine cond_ H rfl (fun hc1=>?_) (fun hc1=>?_)
 ·skip
  try simp only [o1,o2,o3,o4,o5,o6,o7,o8,o9,oa] at hc1
  replace H:=H.keep [] rfl
  refine sS H fun K4 k4=>sr 1 rfl<|sE ?_;clear H a;intro a H
  refine k4 _ ?_;clear k4 K4
  refine wp_ret ?_
  refine ret1 (fn:=Tryz.f24) rfl H rfl ?_
  exact ⟨by rw [Nw (by omega)],(S.sel [] G G)⟩
 try simp only [o1,o2,o3,o4,o5,o6,o7,o8,o9,oa] at hc1
 refine wp_skip ?_
 refine k2 _ _ ?_
 refine wp_seq_k fun K5 k5=>?_
 refine seq_list fun K6 k6=>?_
 refine ls 3 H<|sd ((aE eR gY rfl S (i:=0) G G))<|sr 2 rfl<|sE ?_;clear H a;intro a H
 refine aA H G G Tryz.func25 G G (lZ pl ps PA pc xs XA xc 0 pe BA bc T0 _ (hps.now S) hpn (hxs.now S) hxn (hpe.now S) hpen) ?_;clear H a
 rintro _ _ a ⟨rfl,S2⟩ H
 replace S:=S.call S2;clear S2
 refine ls 1 H<|sr 1 rfl<|sE ?_;clear H a;intro a H
 refine k6 _ _ ?_;clear k6 K6
 refine condN H rfl (fun hc2=>?_) (fun hc2=>?_)
 ·skip
  refine sS H fun K7 k7=>sr 1 rfl<|sE ?_;clear H a;intro a H
  refine k7 _ ?_;clear k7 K7
  refine wp_ret ?_
  refine ret1 (fn:=Tryz.f24) rfl H rfl ?_
  exact ⟨by rw [Su (by omega) hc2],(S.sel [] G G)⟩
 obtain ⟨hst,hou,hcr,hti⟩:=uZ (show iQ pl ps xs 0 pe T0=0 by omega)
 obtain ⟨hpp,hpl'⟩:=zI hcr
 refine wp_skip ?_
 refine k5 _ _ ?_
 refine sS H fun K8 k8=>sr 1 rfl<|sE ?_;clear H a;intro a H
 refine k8 _ ?_;clear k8 K8
 refine wp_seq_k fun K9 k9=>?_
 refine sS H fun K10 k10=>sr 1 rfl<|sE ?_;clear H a;intro a H
 refine k10 _ ?_;clear k10 K10
 refine wp_block ?_
 refine loop_st (X:=Nat) (R0:=_) [1,2,3] H rfl (fun k=>[(7,.int .i64 (sumI pe k)),(8,.int .i64 (k:Int))]) (fun k=>[]) (fun g k=>k≤pe.length∧g+k=pe.length) (pe.length) 0 ?_ (S.sel [0] G G) (H.keep [7,8,1,2,3] rfl) ?_
 · exact ⟨by omega,by omega⟩
 clear H S a
 intro g1 x1 a w1 hp S H K11 k11
 obtain ⟨k,rfl⟩:∃ y,y=x1:=⟨_,rfl⟩
 refine wp_seq_k fun K12 k12=>?_
 refine sS H fun K13 k13=>sr 2 rfl<|sL aW rfl<|sr 1 rfl<|sE ?_;clear H a;intro a H
 refine k13 _ ?_;clear k13 K13
 refine condL H rfl (fun hc3=>?_) (fun hc3=>?_)
 ·skip
  refine wp_skip ?_
  refine k12 _ _ ?_
  refine wp_seq_k fun K14 k14=>?_
  refine wp_block ?_
  have hsb:=Wu hpp (by omega) (k:=k) (by omega);have hsk:=hpp k (by omega)
  replace H:=H.keep [1,2,3,7,8] rfl
  refine sO H<|sr 3 rfl<|si aW bC G G (hpe.adr (by omega)) (by omega)<|slm aD rfl (hpe.rd S (by omega) (by omega))<|sd (aK G G (by unfold i64ok;omega))<|sr 1 rfl<|sE ?_;clear H a;intro a H
  refine k14 _ _ ?_
  replace H:=H.keep [1,2,3,7,8] rfl
  refine sO H<|sr 1 rfl<|sd (aK G G (by unfold i64ok;omega))<|sr 1 rfl<|sE ?_;clear H a;intro a H
  exact k11 (g1-1) (k+1) a _ (by omega) (⟨by omega,by omega⟩) (S.sel [0] G G) (H.keep [7,8,1,2,3] rfl)
 refine wp_exit ?_
 refine k9 _ _ ?_
 replace H:=H.keep [2,3,7] rfl
 refine sS H fun K17 k17=>sf fM rfl<|sl S 0 iP G G G<|sL jD rfl<|sr 2 rfl<|sg 2 4 39 41 false G G (fun hg5=>sy hg5<|sr 1 rfl<|sy hg5<|sr 1 rfl<|sz 2 G G G)<|so G G G<|sr 1 rfl<|sg 2 8 43 45 false G G (fun hg9=>sy hg9<|sr 1 rfl<|sy hg9<|sr 1 rfl<|sz 2 G G G)<|so G G G<|sr 1 rfl<|sE ?_;clear H a;intro a H
 refine k17 _ ?_;clear k17 K17
 refine wp_ret ?_
 refine ret1 (fn:=Tryz.f24) rfl H rfl ?_
 obtain rfl:k=pe.length:=by omega
 exact ⟨by rw [Wv (by omega) (by omega)];congr 1;simp only [Bool.or_assoc];congr 1;simp only [decide_eq_decide];omega,(S.sel [] G G)⟩
theorem Cw (y:Yr) (w:World) (hy:YIn w noF y) (hyb:YBd y) :
    Calls Tryz.prog 15 [.agg [.int .i64 y.days,.int .i64 y.pl,.slice y.PA y.ps.length y.pc,.slice y.XA y.xs.length y.xc,.slice y.BA y.pe.length y.bc,.int .i64 y.limit,.bool y.help,.slice y.QA y.prs.length y.qc,.slice y.VA y.us.length y.vc,.int .i64 y.crew,.slice y.SA y.sps.length y.sc].toArray].toArray w (Ret (fun u w'=>∃ b,u = .bool b∧(b=false→(y.ps.length≤26∧y.us.length≤8)∧(yearE y=0→y.days≤6∧y.us.length≤3∧crwV y.pl y.ps y.xs y.pe y.limit=false))∧St w noF [] w')):=by
 have hn1:=hyb.psn;have hn2:=hyb.prn;have hn3:=hyb.usn;have hn4:=hyb.spn
 refine enter Tryz.func15 rfl Tryz.ntmps15 rfl (fun a H=>?_)
 have S:=St.start w
 refine seq_list fun K1 k1=>?_
 refine aO H rfl S G G ?_;clear H a S;intro b1 _ a hb1 hbw1 S H
 refine ls 1 H<|sr 1 rfl<|sE ?_;clear H a;intro a H
 refine k1 _ _ ?_;clear k1 K1
 refine wp_seq_k fun K2 k2=>?_
 replace H:=H.keep [1] rfl
 refine sS H fun K3 k3=>sf fN rfl<|sf fM rfl<|sl S 0 iP G G G<|sL jD rfl<|sr 2 rfl<|sg 4 5 8 12 false G G (fun hg6=>sy hg6<|sf wM rfl<|sy hg6<|sl S 0 Bp G G G<|sy hg6<|sL oF rfl<|sy hg6<|sr 1 rfl<|sz 4 G G G)<|so G G G<|sr 1 rfl<|sg 4 11 14 18 false G G (fun hg12=>sy hg12<|sf dI rfl<|sy hg12<|sl S 0 eH G G G<|sy hg12<|sL fE rfl<|sy hg12<|sr 1 rfl<|sz 4 G G G)<|so G G G<|sr 1 rfl<|sg 4 17 20 24 false G G (fun hg18=>sy hg18<|sf mJ rfl<|sy hg18<|sl S 0 pT G G G<|sy hg18<|sL sH rfl<|sy hg18<|sr 1 rfl<|sz 4 G G G)<|so G G G<|sE ?_;clear H a;intro a H
 refine k3 _ ?_;clear k3 K3
 refine cond_ H rfl (fun hc1=>?_) (fun hc1=>?_)
 ·skip
  try simp only [o1,o2,o3,o4,o5,o6,o7,o8,o9,oa] at hc1
  replace H:=H.keep [] rfl
  refine sS H fun K4 k4=>sr 1 rfl<|sE ?_;clear H a;intro a H
  refine k4 _ ?_;clear k4 K4
  refine wp_ret ?_
  refine ret1 (fn:=Tryz.f15) rfl H rfl ?_
  exact ⟨_,rfl,(fun h=>by cases h),(S.sel [] G G)⟩
 try simp only [o1,o2,o3,o4,o5,o6,o7,o8,o9,oa] at hc1
 refine wp_skip ?_
 refine k2 _ _ ?_
 rcases lng4 (yearE y=0) (6<y.days) (crwV y.pl y.ps y.xs y.pe y.limit) with hB|hB|hB|hB
 ·skip
  skip
  replace H:=H.keep [1] rfl
  refine seq_list fun K5 k5=>?_
  refine ls 1 H<|sd ((aE gF jQ rfl S (i:=0) G G))<|sE ?_;clear H a;intro a H
  refine aA H G G Tryz.func47 G G (gT y _ (hy.now S) hyb) ?_;clear H a
  rintro _ _ a ⟨rfl,S2⟩ H
  replace S:=S.call S2;clear S2
  refine ls 10 H<|sd ((iJ G G).to (congrArg Value.bool (decide_eq_false hB)))<|sr 1 rfl<|sn G G G<|sn G G G<|sn G G G<|sn G G G<|sn G G G<|sn G G G<|sn G G G<|sn G G G<|sE ?_;clear H a;intro a H
  refine kR H G G G ?_;clear H a;intro a H
  refine kR H G G G ?_;clear H a;intro a H
  refine kR H G G G ?_;clear H a;intro a H
  refine ls 2 H<|sn G G G<|sn G G G<|sE ?_;clear H a;intro a H
  refine kR H G G G ?_;clear H a;intro a H
  refine kR H G G G ?_;clear H a;intro a H
  refine kR H G G G ?_;clear H a;intro a H
  refine kR H G G G ?_;clear H a;intro a H
  refine ls 3 H<|sn G G G<|sd ((aT G G G))<|sr 1 rfl<|sE ?_;clear H a;intro a H
  refine k5 _ _ ?_;clear k5 K5
  refine wp_ret ?_
  refine ret1 (fn:=Tryz.f15) rfl H rfl ?_
  first|exact ⟨_,rfl,(fun _=>⟨⟨by omega,by omega⟩,fun h=>absurd h hB⟩),(S.sel [] G G)⟩|exact ⟨_,rfl,(fun h=>by cases h),(S.sel [] G G)⟩|exact ⟨_,rfl,(fun h=>⟨⟨by omega,by omega⟩,fun h9=>⟨by omega,by have:=of_decide_eq_false h;omega,hB.2.1⟩⟩),(S.sel [] G G)⟩
 ·skip
  skip
  replace H:=H.keep [1] rfl
  refine seq_list fun K6 k6=>?_
  refine ls 1 H<|sd ((aE gF jQ rfl S (i:=0) G G))<|sE ?_;clear H a;intro a H
  refine aA H G G Tryz.func47 G G (gT y _ (hy.now S) hyb) ?_;clear H a
  rintro _ _ a ⟨rfl,S2⟩ H
  replace S:=S.call S2;clear S2
  refine ls 8 H<|sd ((iJ G G).to (congrArg Value.bool (decide_eq_true hB.1)))<|sr 1 rfl<|sy rfl<|sf fN rfl<|sy rfl<|sd ((aE eR gY rfl S (i:=0) G G))<|sy rfl<|sf mI rfl<|sy rfl<|sl S 0 bR G G G<|sy rfl<|sf oH rfl<|sy rfl<|sl S 0 aD G G G<|sE ?_;clear H a;intro a H
  refine aY H G G ?_
  refine aA H G G Tryz.func24 G G (nO y.pl y.ps y.PA y.pc y.xs y.XA y.xc y.pe y.BA y.bc y.limit _ (hy.ps.now S) hyb.psn (hy.xs.now S) hyb.xsn (hy.pe.now S) hyb.pen) ?_;clear H a
  rintro _ _ a ⟨rfl,S2⟩ H
  replace S:=S.call S2;clear S2
  rw [hB.2] at H
  refine ls 13 H<|sy rfl<|sr 1 rfl<|sn G G G<|sn G G G<|sn G G G<|sy rfl<|sd ((aT G G G))<|sy rfl<|sr 1 rfl<|sn G G G<|sn G G G<|sn G G G<|sn G G G<|sy rfl<|sd ((aT G G G))<|sa G G G<|sr 1 rfl<|sE ?_;clear H a;intro a H
  refine k6 _ _ ?_;clear k6 K6
  refine wp_ret ?_
  refine ret1 (fn:=Tryz.f15) rfl H rfl ?_
  first|exact ⟨_,rfl,(fun _=>⟨⟨by omega,by omega⟩,fun h=>absurd h hB⟩),(S.sel [] G G)⟩|exact ⟨_,rfl,(fun h=>by cases h),(S.sel [] G G)⟩|exact ⟨_,rfl,(fun h=>⟨⟨by omega,by omega⟩,fun h9=>⟨by omega,by have:=of_decide_eq_false h;omega,hB.2.1⟩⟩),(S.sel [] G G)⟩
 ·skip
  skip
  replace H:=H.keep [1] rfl
  refine seq_list fun K7 k7=>?_
  refine ls 1 H<|sd ((aE gF jQ rfl S (i:=0) G G))<|sE ?_;clear H a;intro a H
  refine aA H G G Tryz.func47 G G (gT y _ (hy.now S) hyb) ?_;clear H a
  rintro _ _ a ⟨rfl,S2⟩ H
  replace S:=S.call S2;clear S2
  refine ls 8 H<|sd ((iJ G G).to (congrArg Value.bool (decide_eq_true hB.1)))<|sr 1 rfl<|sy rfl<|sf fN rfl<|sy rfl<|sd ((aE eR gY rfl S (i:=0) G G))<|sy rfl<|sf mI rfl<|sy rfl<|sl S 0 bR G G G<|sy rfl<|sf oH rfl<|sy rfl<|sl S 0 aD G G G<|sE ?_;clear H a;intro a H
  refine aY H G G ?_
  refine aA H G G Tryz.func24 G G (nO y.pl y.ps y.PA y.pc y.xs y.XA y.xc y.pe y.BA y.bc y.limit _ (hy.ps.now S) hyb.psn (hy.xs.now S) hyb.xsn (hy.pe.now S) hyb.pen) ?_;clear H a
  rintro _ _ a ⟨rfl,S2⟩ H
  replace S:=S.call S2;clear S2
  rw [hB.2.1] at H
  refine ls 13 H<|sy rfl<|sr 1 rfl<|sy rfl<|sf dH rfl<|sy rfl<|sl S 0 aD G G G<|sy rfl<|sd (pM G G (by omega))<|sy rfl<|so G G G<|sy rfl<|sr 1 rfl<|sn G G G<|sn G G G<|sn G G G<|sn G G G<|sy rfl<|sd ((aT G G G))<|sa G G G<|sr 1 rfl<|sE ?_;clear H a;intro a H
  refine k7 _ _ ?_;clear k7 K7
  refine wp_ret ?_
  refine ret1 (fn:=Tryz.f15) rfl H rfl ?_
  first|exact ⟨_,rfl,(fun _=>⟨⟨by omega,by omega⟩,fun h=>absurd h hB⟩),(S.sel [] G G)⟩|exact ⟨_,rfl,(fun h=>by cases h),(S.sel [] G G)⟩|exact ⟨_,rfl,(fun h=>⟨⟨by omega,by omega⟩,fun h9=>⟨by omega,by have:=of_decide_eq_false h;omega,hB.2.1⟩⟩),(S.sel [] G G)⟩
 skip
 replace H:=H.keep [1] rfl
 refine seq_list fun K8 k8=>?_
 refine ls 1 H<|sd ((aE gF jQ rfl S (i:=0) G G))<|sE ?_;clear H a;intro a H
 refine aA H G G Tryz.func47 G G (gT y _ (hy.now S) hyb) ?_;clear H a
 rintro _ _ a ⟨rfl,S2⟩ H
 replace S:=S.call S2;clear S2
 refine ls 8 H<|sd ((iJ G G).to (congrArg Value.bool (decide_eq_true hB.1)))<|sr 1 rfl<|sy rfl<|sf fN rfl<|sy rfl<|sd ((aE eR gY rfl S (i:=0) G G))<|sy rfl<|sf mI rfl<|sy rfl<|sl S 0 bR G G G<|sy rfl<|sf oH rfl<|sy rfl<|sl S 0 aD G G G<|sE ?_;clear H a;intro a H
 refine aY H G G ?_
 refine aA H G G Tryz.func24 G G (nO y.pl y.ps y.PA y.pc y.xs y.XA y.xc y.pe y.BA y.bc y.limit _ (hy.ps.now S) hyb.psn (hy.xs.now S) hyb.xsn (hy.pe.now S) hyb.pen) ?_;clear H a
 rintro _ _ a ⟨rfl,S2⟩ H
 replace S:=S.call S2;clear S2
 rw [hB.2.1] at H
 refine ls 13 H<|sy rfl<|sr 1 rfl<|sy rfl<|sf dH rfl<|sy rfl<|sl S 0 aD G G G<|sy rfl<|sd (pN G G (by omega))<|sy rfl<|so G G G<|sy rfl<|sr 1 rfl<|sy rfl<|sf dI rfl<|sy rfl<|sl S 0 eH G G G<|sy rfl<|sL fE rfl<|sy rfl<|sr 1 rfl<|sy rfl<|so G G G<|sa G G G<|sr 1 rfl<|sE ?_;clear H a;intro a H
 refine k8 _ _ ?_;clear k8 K8
 refine wp_ret ?_
 refine ret1 (fn:=Tryz.f15) rfl H rfl ?_
 first|exact ⟨_,rfl,(fun _=>⟨⟨by omega,by omega⟩,fun h=>absurd h hB⟩),(S.sel [] G G)⟩|exact ⟨_,rfl,(fun h=>by cases h),(S.sel [] G G)⟩|exact ⟨_,rfl,(fun h=>⟨⟨by omega,by omega⟩,fun h9=>⟨by omega,by have:=of_decide_eq_false h;omega,hB.2.1⟩⟩),(S.sel [] G G)⟩
end
section
theorem Sv {y:Yr} {l:List Tsk} {w w':World} {v:Value} (hte:taskE y l=0) (h:(taskE y l≠0∧v = .tuple #[.slice none 0 0,.int .i64 (taskE y l)]∧St w noF [] w')∨(taskE y l=0∧∃ A c,v = .tuple #[.slice A y.days.toNat c,.int .i64 0]∧St w noF [ownM 3 1 A y.days.toNat c (setsV y l y.us.length)] w')):∃ A c,v = .tuple #[.slice A y.days.toNat c,.int .i64 0]∧St w noF [ownM 3 1 A y.days.toNat c (setsV y l y.us.length)] w':=by
  rcases h with ⟨h0,_⟩|⟨_,h⟩
  · exact absurd hte h0
  · exact h
section
variable {y:Yr} {l:List Tsk} {u:Int} {i:Nat}
end
end
section
structure Wr where
  kind:Int
  of:List Int
def Wr.zero:Wr:=⟨0,[]⟩
def fY (ws:List Wr) (OA:Nat→Option Addr) (oc:Nat→Nat) (k:Nat):Nat→Value
  | 0 => .int .i64 (ws.getD k Wr.zero).kind
  | _ => .slice (OA k) (ws.getD k Wr.zero).of.length (oc k)
def landI (a b:Int):Int:=((a.toNat &&& b.toNat:Nat):Int)
section
variable {P:Program} {L:List (Nat×Value)} {w:World} {d:Option Nat} {ty:TypeId} {pos:String} {af:Array Edge} {g:Option (Nat×Bool)}
theorem Ij {x y:Operand} {xt yt:TypeId} {m k:Int} (hx:ev L x=some (.int .i64 m)) (hy:ev L y=some (.int .i64 k)) (hm:0≤m∧m≤1000000) (hk:0≤k∧k≤1000000) :
    Does P L ⟨d,.binOp .and xt x y yt,ty,pos,af,g⟩ w (.int .i64 (landI m k)):=fun ρ hρ=>by
  obtain ⟨m,rfl⟩:∃ n:Nat,m=n:=⟨m.toNat,by omega⟩
  obtain ⟨k,rfl⟩:∃ n:Nat,k=n:=⟨k.toNat,by omega⟩
  have e0:((BitVec.ofInt 64 (m:Int) &&& BitVec.ofInt 64 (k:Int)).toNat)=m &&& k:=by
    rw [BitVec.toNat_and,BitVec.ofInt_natCast,BitVec.ofInt_natCast,BitVec.toNat_ofNat,BitVec.toNat_ofNat,Nat.mod_eq_of_lt (by omega),Nat.mod_eq_of_lt (by omega)]
  have hle:m &&& k≤m:=Nat.and_le_left
  have e1:IntKind.i64.wrap ((BitVec.ofInt 64 (m:Int) &&& BitVec.ofInt 64 (k:Int)).toNat:Int)=((m &&& k:Nat):Int):=by
    rw [e0];exact i64ok.eq ⟨by omega,by omega⟩
  have e:Op.intBits .and .i64 (m:Int) (k:Int)=pure (.int .i64 (landI m k)):=by
    unfold landI
    rw [Int.toNat_natCast,Int.toNat_natCast]
    exact congrArg (fun z=>(pure (Value.int .i64 z):Sem Value)) e1
  simp [execOp,hρ _ _ hx,hρ _ _ hy,eqGuard,binOp,e]
end
def condB (sw:List Int) (hz cl op s:Int):Bool:=decide (op/2^s.toNat%2=0)&&(decide (cl/2^s.toNat%2=1)||decide (landI (sw.getD s.toNat 0) hz=0))
def wireB (sw:List Int) (ws:List Wr) (hz cl op:Int):Nat→Nat→Bool
  | 0,_=>false
  | n+1,i=>if (ws.getD i Wr.zero).kind=1 then condB sw hz cl op ((ws.getD i Wr.zero).of.getD 0 0)
    else if (ws.getD i Wr.zero).kind=3 then (ws.getD i Wr.zero).of.any fun k=>wireB sw ws hz cl op n k.toNat
    else !((ws.getD i Wr.zero).of.any fun k=>!wireB sw ws hz cl op n k.toNat)
def setB (n hz:Int):Bool:=decide (0≤n)&&decide (n<1*2^hz.toNat)
def lowA (l:List Int) (lo:Int) (q:Nat):Int:=if q=0 then lo else l.getD (q-1) 0+1
def ascP (l:List Int) (lo hi:Int) (q:Nat):Bool:=decide (lowA l lo q≤l.getD q 0∧l.getD q 0<hi)
def ascB (l:List Int) (lo hi:Int):Bool:=(List.range l.length).all (ascP l lo hi)
def wrOk (nsw nws:Nat) (ws:List Wr) (i:Nat):Bool:=
  if (ws.getD i Wr.zero).kind=1 then decide ((ws.getD i Wr.zero).of.length=1)&&ascB (ws.getD i Wr.zero).of 0 nsw
  else if (ws.getD i Wr.zero).kind=2∨(ws.getD i Wr.zero).kind=3 then decide (1≤(ws.getD i Wr.zero).of.length∧(ws.getD i Wr.zero).of.length≤8)&&ascB (ws.getD i Wr.zero).of ((i:Int)+1) nws else false
def cntO (l:List Int) (k:Nat):Nat→Int:=sm fun q=>if l.getD q 0=(k:Int) then 1 else 0
def heldW (w:Wr) (k:Nat):Int:=if w.kind=1 then 0 else cntO w.of k w.of.length
def heldN (ws:List Wr) (k:Nat):Nat→Int:=sm fun i=>heldW (ws.getD i Wr.zero) k
def cirSz (hz:Int) (sw:List Int) (ws:List Wr):Bool:=(decide (1≤hz)&&decide (hz≤8))&&((decide (1≤(sw.length:Int))&&decide ((sw.length:Int)≤12))&&(decide (1≤(ws.length:Int))&&decide ((ws.length:Int)≤24)))
def cirOk (hz:Int) (sw:List Int) (ws:List Wr):Bool:=(cirSz hz sw ws&&!(sw.any fun n=>!setB n hz))&&((List.range ws.length).all (wrOk sw.length ws.length ws)&&(decide (heldN ws 0 ws.length=0)&&!((List.range (ws.length-1)).any fun q=>!decide (heldN ws (q+1) ws.length=1))))
def circE (hz:Int) (sw:List Int) (ws:List Wr):Int:=if cirOk hz sw ws=true then 0 else 30
section
variable {hz lo hi:Int} {sw l:List Int} {ws:List Wr} {k i:Nat}
theorem Sw (h:∀ q,q<l.length→ascP l lo hi q=true):ascB l lo hi=true:=List.all_eq_true.2 fun q hq=>h q (List.mem_range.1 hq)
theorem Sx (hk:k<l.length) (h:ascP l lo hi k=false):ascB l lo hi=false:=by
  cases hb:ascB l lo hi with
  | false=>rfl
  | true=>
    have:=List.all_eq_true.1 hb k (List.mem_range.2 hk)
    rw [this] at h;cases h
theorem Cx (h:ascB l lo hi=true) (hk:k<l.length):lowA l lo k≤l.getD k 0∧l.getD k 0<hi:=by
  have:=List.all_eq_true.1 h k (List.mem_range.2 hk)
  unfold ascP at this
  exact of_decide_eq_true this
theorem qG (h:ascB l lo hi=true) (hk:k<l.length):lo≤l.getD k 0∧l.getD k 0<hi:=by
  have key:∀ q,q<l.length→lo≤l.getD q 0:=by
    intro q
    induction q with
    | zero=>intro hq;have:=(Cx h hq).1;unfold lowA at this;simpa using this
    | succ q ih=>
      intro hq
      have h1:=ih (by omega)
      have h2:=(Cx h hq).1
      unfold lowA at h2
      rw [if_neg (by omega)] at h2
      simp only [Nat.add_sub_cancel] at h2
      omega
  exact ⟨key k hk,(Cx h hk).2⟩
theorem Ex (h:circE hz sw ws=0):cirOk hz sw ws=true:=by unfold circE at h;split at h;assumption;cases h
theorem Ik (h:cirOk hz sw ws=true):circE hz sw ws=0:=by unfold circE;rw [if_pos h]
theorem mA (h:cirOk hz sw ws=false):circE hz sw ws=30:=by unfold circE;rw [if_neg (by rw [h];simp)]
structure CirV (hz:Int) (sw:List Int) (ws:List Wr):Prop where
  hzb:1≤hz∧hz≤8
  nsw:1≤sw.length∧sw.length≤12
  nws:1≤ws.length∧ws.length≤24
  swb:∀ k,k<sw.length→0≤sw.getD k 0∧sw.getD k 0≤255
  one:∀ i,i<ws.length→(ws.getD i Wr.zero).kind=1→(ws.getD i Wr.zero).of.length=1∧0≤(ws.getD i Wr.zero).of.getD 0 0∧(ws.getD i Wr.zero).of.getD 0 0<sw.length
  more:∀ i,i<ws.length→(ws.getD i Wr.zero).kind≠1→(ws.getD i Wr.zero).of.length≤8∧∀ q,q<(ws.getD i Wr.zero).of.length→(i:Int)+1≤(ws.getD i Wr.zero).of.getD q 0∧(ws.getD i Wr.zero).of.getD q 0<ws.length
theorem uG (h:cirOk hz sw ws=true):CirV hz sw ws:=by
  unfold cirOk cirSz at h
  simp only [Bool.and_eq_true,decide_eq_true_eq,Bool.not_eq_true'] at h
  obtain ⟨⟨⟨h1,h2,h3⟩,h4⟩,h5,_⟩:=h
  have hset:∀ k,k<sw.length→setB (sw.getD k 0) hz=true:=fun k hk=>by
    cases hb:setB (sw.getD k 0) hz with
    | true=>rfl
    | false=>
      have:(sw.any fun n=>!setB n hz)=true:=List.any_eq_true.2 ⟨sw.getD k 0,by rw [List.getD_eq_getElem?_getD,List.getElem?_eq_getElem hk];exact List.getElem_mem hk,by rw [hb];rfl⟩
      rw [this] at h4;cases h4
  have hw:∀ i,i<ws.length→wrOk sw.length ws.length ws i=true:=fun i hi=>List.all_eq_true.1 h5 i (List.mem_range.2 hi)
  have hpw:(2:Int)^hz.toNat≤256:=by
    have h9:hz.toNat≤8:=by omega
    have h8:2^hz.toNat≤256:=Nat.le_trans (Nat.pow_le_pow_right (by omega) h9) (by decide)
    have e:(2:Int)^hz.toNat=((2^hz.toNat:Nat):Int):=(Int.natCast_pow 2 hz.toNat).symm
    rw [e]
    omega
  refine ⟨h1,⟨by omega,by omega⟩,⟨by omega,by omega⟩,fun k hk=>?_,fun i hi hk=>?_,fun i hi hk=>?_⟩
  · have:=hset k hk
    unfold setB at this
    simp only [Bool.and_eq_true,decide_eq_true_eq] at this
    omega
  · have:=hw i hi
    unfold wrOk at this
    rw [if_pos hk] at this
    simp only [Bool.and_eq_true,decide_eq_true_eq] at this
    have h9:=qG this.2 (k:=0) (by omega)
    exact ⟨this.1,h9.1,h9.2⟩
  · have:=hw i hi
    unfold wrOk at this
    rw [if_neg hk] at this
    split at this
    · simp only [Bool.and_eq_true,decide_eq_true_eq] at this
      exact ⟨this.1.2,fun q hq=>qG this.2 hq⟩
    · cases this
theorem Sy {p:Int→Bool} (hk:k<l.length) (h:p (l.getD k 0)=true):l.any p=true:=by
  rw [List.getD_eq_getElem?_getD,List.getElem?_eq_getElem hk] at h
  exact List.any_eq_true.2 ⟨_,List.getElem_mem hk,h⟩
theorem Il {p:Int→Bool} (hk:k<l.length) (h:(l.take k).any p=false) (h2:p (l.getD k 0)=false):(l.take (k+1)).any p=false:=by
  rw [List.getD_eq_getElem?_getD,List.getElem?_eq_getElem hk] at h2
  rw [List.take_succ_eq_append_getElem hk,List.any_append,h]
  simpa using h2
end
end
section
theorem St.back {w0 w w':World} {F0:Nat→Prop} {m:Mem} (S:St w0 F0 [m] w) (S':St w (fps [m]) [m] w'):St w0 F0 [m] w':=St.callR (M:=[m]) (R:=[]) S S'
theorem uH {P:Program} {f:Nat} {vs:Array Value} {w:World} {R R':Value→World→Prop} (h:Calls P f vs w (Ret R)) (k:∀ v w',R v w'→R' v w'):Calls P f vs w (Ret R'):=Calls.mono h fun e w' he=>by
  cases e with
  | returned v=>exact k v w' he
  | _=>exact he
theorem uP (l : List Int) (A : Option Addr) (cp : Nat) (f : Nat) (fn : Func) (fs cs : List Value) (p : Int → Bool) (m : Mem) (w : World) (F : Nat → Prop) (S : St w F [m] w) (hl : InS w F 1 A l.length (icl l)) (hn : l.length ≤ 9223372036854775807) (hf : Tryz.prog.funcs[f]? = some fn) (hfb : fn.body.isNone = false) (hfn : (fn.name == "runtime.NumGoroutine") = false) (hcall : ∀ (k : Nat) (w' : World), k < l.length → St w F [m] w' → Calls Tryz.prog f (fs ++ [Value.int .i64 (l.getD k 0)] ++ cs).toArray w' (Ret fun v w'' => v = .bool (p (l.getD k 0)) ∧ St w' (fps [m]) [m] w'')) :
    Calls Tryz.prog 85 [.slice A l.length cp,.func (.func f) fs.toArray cs.toArray].toArray w (Ret (fun u w'=>∃ n:Int,u = .int .i64 n∧decide (0≤n)=l.any p∧St w F [m] w')):=by
 refine enter Tryz.func85 rfl Tryz.ntmps85 rfl (fun a H=>?_)
 skip
 refine sS H fun K1 k1=>sr 1 rfl<|sE ?_;clear H a;intro a H
 refine k1 _ ?_;clear k1 K1
 refine wp_seq_k fun K2 k2=>?_
 refine sS H fun K3 k3=>sr 1 rfl<|sL aW rfl<|sr 1 rfl<|sE ?_;clear H a;intro a H
 refine k3 _ ?_;clear k3 K3
 refine wp_block ?_
 refine loop_st (X:=Nat) (R0:=_) [0,1,7] H rfl (fun k=>[(8,.int .i64 (k:Int))]) (fun k=>[m]) (fun g k=>k≤l.length∧g+k=l.length∧(l.take k).any p=false) (l.length) 0 ?_ (S.sel [0] G G) (H.keep [8,0,1,7] rfl) ?_
 · exact ⟨by omega,by omega,by simp⟩
 clear H S a
 intro g1 x1 a w1 hp S H K4 k4
 obtain ⟨k,rfl⟩:∃ y,y=x1:=⟨_,rfl⟩
 refine sS H fun K5 k5=>sr 1 rfl<|sE ?_;clear H a;intro a H
 refine k5 _ ?_;clear k5 K5
 refine wp_seq_k fun K6 k6=>?_
 refine condL H rfl (fun hc1=>?_) (fun hc1=>?_)
 ·skip
  refine wp_skip ?_
  refine k6 _ _ ?_
  refine wp_seq_k fun K7 k7=>?_
  refine wp_block ?_
  refine sS H fun K8 k8=>sr 2 rfl<|sE ?_;clear H a;intro a H
  refine k8 _ ?_;clear k8 K8
  refine seq_list fun K9 k9=>?_
  refine ls 5 H<|sr 3 rfl<|si aW bC G G (hl.adr (by omega)) (by omega)<|slm aD rfl (hl.rd S (by omega) (by omega))<|sE ?_;clear H a;intro a H
  have S1:=(S.sel [0] G G)
  refine fS (fs:=fs) (cs:=cs) (vs:=[.int .i64 (l.getD k 0)]) H G G G hf hfb hfn (hcall k _ (by omega) S1) ?_;clear H a
  rintro _ _ a ⟨rfl,S2⟩ H
  replace S:=(S.sel [0] G G).callR (M:=[_]) S2;clear S1 S2
  refine k9 _ _ ?_;clear k9 K9
  refine cond_ H rfl (fun hc2=>?_) (fun hc2=>?_)
  ·skip
   try simp only [o1,o2,o3,o4,o5,o6,o7,o8,o9,oa] at hc2
   replace H:=H.keep [5] rfl
   refine sS H fun K10 k10=>sr 2 rfl<|sE ?_;clear H a;intro a H
   refine k10 _ ?_;clear k10 K10
   refine wp_ret ?_
   refine ret1 (fn:=Tryz.f85) rfl H rfl ?_
   exact ⟨_,rfl,by rw [Sy (k:=k) (by omega) (by simpa using hc2)];simp,(S.sel [0] G G)⟩
  try simp only [o1,o2,o3,o4,o5,o6,o7,o8,o9,oa] at hc2
  refine wp_skip ?_
  refine k7 _ _ ?_
  refine sO H<|sd (aK G G (by unfold i64ok;omega))<|sr 1 rfl<|sE ?_;clear H a;intro a H
  exact k4 (g1-1) (k+1) a _ (by omega) (⟨by omega,by omega,Il (by omega) hp.2.2 (by simpa using hc2)⟩) (S.sel [0] G G) (H.keep [8,0,1,7] rfl)
 refine wp_exit ?_
 refine k2 _ _ ?_
 refine sS H fun K12 k12=>sr 1 rfl<|sE ?_;clear H a;intro a H
 refine k12 _ ?_;clear k12 K12
 refine wp_ret ?_
 refine ret1 (fn:=Tryz.f85) rfl H rfl ?_
 refine ⟨_,rfl,?_,(S.sel [0] G G)⟩;rw [List.take_of_length_le (by omega)] at hp;rw [hp.2.2];rfl
theorem fD (l : List Int) (A : Option Addr) (cp : Nat) (f : Nat) (fn : Func) (fs cs : List Value) (p : Int → Bool) (m : Mem) (w : World) (F : Nat → Prop) (S : St w F [m] w) (hl : InS w F 1 A l.length (icl l)) (hn : l.length ≤ 9223372036854775807) (hf : Tryz.prog.funcs[f]? = some fn) (hfb : fn.body.isNone = false) (hfn : (fn.name == "runtime.NumGoroutine") = false) (hcall : ∀ (k : Nat) (w' : World), k < l.length → St w F [m] w' → Calls Tryz.prog f (fs ++ [Value.int .i64 (l.getD k 0)] ++ cs).toArray w' (Ret fun v w'' => v = .bool (p (l.getD k 0)) ∧ St w' (fps [m]) [m] w'')) :
    Calls Tryz.prog 43 [.slice A l.length cp,.func (.func f) fs.toArray cs.toArray].toArray w (Ret (fun u w'=>u = .bool (l.any p)∧St w F [m] w')):=by
 refine enter Tryz.func43 rfl Tryz.ntmps43 rfl (fun a H=>?_)
 skip
 refine sS H fun K1 k1=>sr 1 rfl<|sE ?_;clear H a;intro a H
 refine k1 _ ?_;clear k1 K1
 refine seq_list fun K2 k2=>?_
 refine ls 2 H<|sr 2 rfl<|sE ?_;clear H a;intro a H
 have S1:=(S.sel [0] G G)
 refine aA H G G Tryz.func85 G G (uP l A cp f fn fs cs p m _ _ S1.startR (hl.nowR S1) hn hf hfb hfn (fun k w' hk S'=>hcall k w' hk (St.back S1 S'))) ?_;clear H a
 rintro _ _ a ⟨n9,rfl,hn9,S2⟩ H
 replace S:=(S.sel [0] G G).callR (M:=[_]) S2;clear S1 S2
 refine ls 2 H<|sr 2 rfl<|sE ?_;clear H a;intro a H
 refine k2 _ _ ?_;clear k2 K2
 refine wp_ret ?_
 refine ret1 (fn:=Tryz.f43) rfl H rfl ?_
 exact ⟨congrArg Value.bool hn9,(S.sel [0] G G)⟩
theorem xS (hz:Int) (sw:List Int) (SA:Option Addr) (sc:Nat) (ws:List Wr) (QA:Option Addr) (qc:Nat) (OA:Nat→Option Addr) (oc:Nat→Nat) (ha cl op:Int) (x:Int) (w:World) (F:Nat→Prop) (hsw:InS w noF 1 SA sw.length (icl sw)) (V:CirV hz sw ws) (hha:0≤ha∧ha≤4095) (hcl:0≤cl∧cl≤4095) (hop:0≤op∧op≤4095) (hx:0≤x∧x<sw.length) :
    Calls Tryz.prog 154 [.agg [.int .i64 hz,.slice SA sw.length sc,.slice QA ws.length qc,.int .i64 ha,.int .i64 cl,.int .i64 op].toArray,.int .i64 x].toArray w (Ret (fun u w'=>u = .bool (condB sw ha cl op x)∧St w noF [] w')):=by
 have hn12:=V.nsw
 have hsb:=V.swb x.toNat (by omega)
 refine enter Tryz.func154 rfl Tryz.ntmps154 rfl (fun a H=>?_)
 have S:=St.start w
 refine seq_list fun K1 k1=>?_
 refine aO H rfl S G G ?_;clear H a S;intro b2 _ a hb2 hbw2 S H
 refine ls 1 H<|sr 1 rfl<|sE ?_;clear H a;intro a H
 refine k1 _ _ ?_;clear k1 K1
 replace H:=H.keep [1,2] rfl
 replace S:=S.drew
 refine sD H fun K2 k2=>sf Jv rfl<|sl S 0 aD G G G<|sr 1 rfl<|sd (gD G G (by omega) (by omega))<|sd (eZ G G)<|sr 2 rfl<|sg 18 6 11 29 true G G (fun hg7=>by
     have hq7:=hg7;try simp only [o1,o2,o3,o4,o5,o6,o7,o8,o9,oa] at hq7
     exact sy hg7<|sf Ju rfl<|sy hg7<|sl S 0 aD G G G<|sy hg7<|sr 1 rfl<|sy hg7<|sd (gD G G (by omega) (by omega))<|sy hg7<|sd (eZ G G)<|sy hg7<|sr 1 rfl<|sy hg7<|sr 1 rfl<|sg 10 13 18 28 false G G (fun hg14=>by
          have hq14:=hg14;try simp only [o1,o2,o3,o4,o5,o6,o7,o8,o9,oa] at hq14
          exact sy hg14<|sf zG rfl<|sy hg14<|sf iM rfl<|sy hg14<|sl S 0 bR G G G<|sy hg14<|sr 1 rfl<|sy hg14<|sI aW bC G G (hsw.adr (by omega)) (by omega) (by omega)<|sy hg14<|slm aD rfl (hsw.rd S (by omega) (by omega))<|sy hg14<|sf Jt rfl<|sy hg14<|sl S 0 aD G G G<|sy hg14<|sd (Ij G G (by omega) (by omega))<|sy hg14<|sr 1 rfl<|sz 10 G G G)<|sy hg7<|so G G G<|sz 9 G G G)<|sa G G G<|sr 1 rfl<|sE ?_;clear H a;intro a H
 refine k2 _ ?_;clear k2 K2
 refine wp_ret ?_
 refine ret1 (fn:=Tryz.f154) rfl H rfl ?_
 exact ⟨rfl,(S.sel [] G G)⟩
theorem Im (hz:Int) (sw:List Int) (SA:Option Addr) (sc:Nat) (ws:List Wr) (QA:Option Addr) (qc:Nat) (OA:Nat→Option Addr) (oc:Nat→Nat) (ha cl op:Int) (n sb:Nat) (x:Int) (w:World) (F:Nat→Prop) (S:St w F [boxM sb 236 [.int .i64 hz,.slice SA sw.length sc,.slice QA ws.length qc,.int .i64 ha,.int .i64 cl,.int .i64 op]] w) (hsw:InS w F 1 SA sw.length (icl sw)) (hws:InS w F 2 QA ws.length (fY ws OA oc)) (hof:∀ k,k<ws.length→InS w F 1 (OA k) (ws.getD k Wr.zero).of.length (icl (ws.getD k Wr.zero).of)) (hx:0≤x∧x<ws.length) (hxn:ws.length-x.toNat≤n) (ih:∀ (x:Int) (w:World),0≤x∧x<ws.length→ws.length-x.toNat≤n→InS w noF 1 SA sw.length (icl sw)→InS w noF 2 QA ws.length (fY ws OA oc)→(∀ k,k<ws.length→InS w noF 1 (OA k) (ws.getD k Wr.zero).of.length (icl (ws.getD k Wr.zero).of))→Calls Tryz.prog 122 [.agg [.int .i64 hz,.slice SA sw.length sc,.slice QA ws.length qc,.int .i64 ha,.int .i64 cl,.int .i64 op].toArray,.int .i64 x].toArray w (Ret fun u w'=>u = .bool (wireB sw ws ha cl op n x.toNat)∧St w noF [] w')) :
    Calls Tryz.prog 155 [.int .i64 x,.pointer (some ⟨sb,0,none⟩)].toArray w (Ret (fun u w'=>u = .bool (!wireB sw ws ha cl op n x.toNat)∧St w F [boxM sb 236 [.int .i64 hz,.slice SA sw.length sc,.slice QA ws.length qc,.int .i64 ha,.int .i64 cl,.int .i64 op]] w')):=by
 refine enter Tryz.func155 rfl Tryz.ntmps155 rfl (fun a H=>?_)
 skip
 refine sS H fun K1 k1=>sr 1 rfl<|sE ?_;clear H a;intro a H
 refine k1 _ ?_;clear k1 K1
 refine seq_list fun K2 k2=>?_
 refine ls 2 H<|sd ((aE wK Br rfl S (i:=0) G G))<|sr 1 rfl<|sE ?_;clear H a;intro a H
 refine aA H G G Tryz.func122 G G (ih x _ hx hxn (hsw.now S) (hws.now S) (fun k hk=>(hof k hk).now S)) ?_;clear H a
 rintro _ _ a ⟨rfl,S2⟩ H
 replace S:=S.call S2;clear S2
 refine ls 2 H<|sr 2 rfl<|sE ?_;clear H a;intro a H
 refine k2 _ _ ?_;clear k2 K2
 refine wp_ret ?_
 refine ret1 (fn:=Tryz.f155) rfl H rfl ?_
 exact ⟨rfl,(S.sel [0] G G)⟩
theorem Ta (hz:Int) (sw:List Int) (SA:Option Addr) (sc:Nat) (ws:List Wr) (QA:Option Addr) (qc:Nat) (OA:Nat→Option Addr) (oc:Nat→Nat) (ha cl op:Int) (n:Nat) (y:Int) (sb:Nat) (w:World) (F:Nat→Prop) (S:St w F [boxM sb 236 [.int .i64 hz,.slice SA sw.length sc,.slice QA ws.length qc,.int .i64 ha,.int .i64 cl,.int .i64 op]] w) (hsw:InS w F 1 SA sw.length (icl sw)) (hws:InS w F 2 QA ws.length (fY ws OA oc)) (hof:∀ k,k<ws.length→InS w F 1 (OA k) (ws.getD k Wr.zero).of.length (icl (ws.getD k Wr.zero).of)) (V:CirV hz sw ws) (hy:0≤y∧y<ws.length) (hyn:ws.length-y.toNat≤n+1) (hc1:¬ (ws.getD y.toNat Wr.zero).kind=1) (ih:∀ (x:Int) (w:World),0≤x∧x<ws.length→ws.length-x.toNat≤n→InS w noF 1 SA sw.length (icl sw)→InS w noF 2 QA ws.length (fY ws OA oc)→(∀ k,k<ws.length→InS w noF 1 (OA k) (ws.getD k Wr.zero).of.length (icl (ws.getD k Wr.zero).of))→Calls Tryz.prog 122 [.agg [.int .i64 hz,.slice SA sw.length sc,.slice QA ws.length qc,.int .i64 ha,.int .i64 cl,.int .i64 op].toArray,.int .i64 x].toArray w (Ret fun u w'=>u = .bool (wireB sw ws ha cl op n x.toNat)∧St w noF [] w')):Calls Tryz.prog 43 #[.slice (OA y.toNat) (ws.getD y.toNat Wr.zero).of.length (oc y.toNat),.func (.func 122) #[.agg [.int .i64 hz,.slice SA sw.length sc,.slice QA ws.length qc,.int .i64 ha,.int .i64 cl,.int .i64 op].toArray] #[]] w (Ret fun u w'=>u = .bool ((ws.getD y.toNat Wr.zero).of.any (fun k=>wireB sw ws ha cl op n k.toNat))∧St w F [boxM sb 236 [.int .i64 hz,.slice SA sw.length sc,.slice QA ws.length qc,.int .i64 ha,.int .i64 cl,.int .i64 op]] w'):=by
  have hmo:=V.more y.toNat (by omega)
  have hln:=(hmo hc1).1
  have hnw:=V.nws
  have hh:=fD (ws.getD y.toNat Wr.zero).of (OA y.toNat) (oc y.toNat) 122 _ [.agg [.int .i64 hz,.slice SA sw.length sc,.slice QA ws.length qc,.int .i64 ha,.int .i64 cl,.int .i64 op].toArray] [] (fun k=>wireB sw ws ha cl op n k.toNat) _ w F S (hof y.toNat (by omega)) (by omega) Tryz.func122 G G (fun k w' hk S'=>by
    have h9:=(hmo hc1).2 k hk
    have S9:=S'
    exact uH (ih ((ws.getD y.toNat Wr.zero).of.getD k 0) w' (by omega) (by omega) (hsw.now S9) (hws.now S9) (fun q hq=>(hof q hq).now S9)) fun v w'' h=>⟨h.1,S'.startR.call h.2⟩)
  exact hh
theorem Tb (hz:Int) (sw:List Int) (SA:Option Addr) (sc:Nat) (ws:List Wr) (QA:Option Addr) (qc:Nat) (OA:Nat→Option Addr) (oc:Nat→Nat) (ha cl op:Int) (n:Nat) (y:Int) (sb:Nat) (w:World) (F:Nat→Prop) (S:St w F [boxM sb 236 [.int .i64 hz,.slice SA sw.length sc,.slice QA ws.length qc,.int .i64 ha,.int .i64 cl,.int .i64 op]] w) (hsw:InS w F 1 SA sw.length (icl sw)) (hws:InS w F 2 QA ws.length (fY ws OA oc)) (hof:∀ k,k<ws.length→InS w F 1 (OA k) (ws.getD k Wr.zero).of.length (icl (ws.getD k Wr.zero).of)) (V:CirV hz sw ws) (hy:0≤y∧y<ws.length) (hyn:ws.length-y.toNat≤n+1) (hc1:¬ (ws.getD y.toNat Wr.zero).kind=1) (ih:∀ (x:Int) (w:World),0≤x∧x<ws.length→ws.length-x.toNat≤n→InS w noF 1 SA sw.length (icl sw)→InS w noF 2 QA ws.length (fY ws OA oc)→(∀ k,k<ws.length→InS w noF 1 (OA k) (ws.getD k Wr.zero).of.length (icl (ws.getD k Wr.zero).of))→Calls Tryz.prog 122 [.agg [.int .i64 hz,.slice SA sw.length sc,.slice QA ws.length qc,.int .i64 ha,.int .i64 cl,.int .i64 op].toArray,.int .i64 x].toArray w (Ret fun u w'=>u = .bool (wireB sw ws ha cl op n x.toNat)∧St w noF [] w')):Calls Tryz.prog 43 #[.slice (OA y.toNat) (ws.getD y.toNat Wr.zero).of.length (oc y.toNat),.func (.func 155) #[] #[.pointer (some ⟨sb,0,none⟩)]] w (Ret fun u w'=>u = .bool ((ws.getD y.toNat Wr.zero).of.any (fun k=>!wireB sw ws ha cl op n k.toNat))∧St w F [boxM sb 236 [.int .i64 hz,.slice SA sw.length sc,.slice QA ws.length qc,.int .i64 ha,.int .i64 cl,.int .i64 op]] w'):=by
  have hmo:=V.more y.toNat (by omega)
  have hln:=(hmo hc1).1
  have hnw:=V.nws
  have hh:=fD (ws.getD y.toNat Wr.zero).of (OA y.toNat) (oc y.toNat) 155 _ [] [.pointer (some ⟨sb,0,none⟩)] (fun k=>!wireB sw ws ha cl op n k.toNat) _ w F S (hof y.toNat (by omega)) (by omega) Tryz.func155 G G (fun k w' hk S'=>by
    have h9:=(hmo hc1).2 k hk
    have S9:=S'
    exact Im hz sw SA sc ws QA qc OA oc ha cl op n sb ((ws.getD y.toNat Wr.zero).of.getD k 0) w' _ S'.startR (hsw.nowR S9) (hws.nowR S9) (fun q hq=>(hof q hq).nowR S9) (by omega) (by omega) ih)
  exact hh
theorem uQ (hz:Int) (sw:List Int) (SA:Option Addr) (sc:Nat) (ws:List Wr) (QA:Option Addr) (qc:Nat) (OA:Nat→Option Addr) (oc:Nat→Nat) (ha cl op:Int) (n:Nat) (y:Int) (w:World) (hsw:InS w noF 1 SA sw.length (icl sw)) (hws:InS w noF 2 QA ws.length (fY ws OA oc)) (hof:∀ k,k<ws.length→InS w noF 1 (OA k) (ws.getD k Wr.zero).of.length (icl (ws.getD k Wr.zero).of)) (V:CirV hz sw ws) (hha:0≤ha∧ha≤4095) (hcl:0≤cl∧cl≤4095) (hop:0≤op∧op≤4095) (hy:0≤y∧y<ws.length) (hyn:ws.length-y.toNat≤n+1) (ih:∀ (x:Int) (w:World),0≤x∧x<ws.length→ws.length-x.toNat≤n→InS w noF 1 SA sw.length (icl sw)→InS w noF 2 QA ws.length (fY ws OA oc)→(∀ k,k<ws.length→InS w noF 1 (OA k) (ws.getD k Wr.zero).of.length (icl (ws.getD k Wr.zero).of))→Calls Tryz.prog 122 [.agg [.int .i64 hz,.slice SA sw.length sc,.slice QA ws.length qc,.int .i64 ha,.int .i64 cl,.int .i64 op].toArray,.int .i64 x].toArray w (Ret fun u w'=>u = .bool (wireB sw ws ha cl op n x.toNat)∧St w noF [] w')) :
    Calls Tryz.prog 122 [.agg [.int .i64 hz,.slice SA sw.length sc,.slice QA ws.length qc,.int .i64 ha,.int .i64 cl,.int .i64 op].toArray,.int .i64 y].toArray w (Ret (fun u w'=>u = .bool (wireB sw ws ha cl op (n+1) y.toNat)∧St w noF [] w')):=by
 have hnw:=V.nws
 have hmo:=V.more y.toNat (by omega)
 have hon:=V.one y.toNat (by omega)
 refine enter Tryz.func122 rfl Tryz.ntmps122 rfl (fun a H=>?_)
 have S:=St.start w
 refine seq_list fun K1 k1=>?_
 refine aO H rfl S G G ?_;clear H a S;intro b2 _ a hb2 hbw2 S H
 refine ls 1 H<|sr 1 rfl<|sE ?_;clear H a;intro a H
 refine k1 _ _ ?_;clear k1 K1
 replace H:=H.keep [1,2] rfl
 refine seq_list fun K2 k2=>?_
 refine ls 6 H<|sf zG rfl<|sf jF rfl<|sl S 0 kV G G G<|sr 1 rfl<|sI kZ nE G G (hws.adr (by omega)) (by omega) (by omega)<|sd ((aU Dr nE rfl S hws (by omega) (by omega)))<|sE ?_;clear H a;intro a H
 refine aI H rfl S wV ?_;clear H a S;intro b5 _ a hb5 hbw5 S H
 refine aB H S (i:=0) G G G G nE G G ?_
 clear H a S;intro _ a S H
 refine k2 _ _ ?_;clear k2 K2
 refine wp_seq_k fun K3 k3=>?_
 replace H:=H.keep [2,5] rfl
 refine sS H fun K4 k4=>sf zB rfl<|sl S 0 aD G G G<|sE ?_;clear H a;intro a H
 refine k4 _ ?_;clear k4 K4
 refine wp_block ?_
 refine sS H fun K5 k5=>sr 2 rfl<|sE ?_;clear H a;intro a H
 refine k5 _ ?_;clear k5 K5
 refine condE H rfl (fun hc1=>?_) (fun hc1=>?_)
 ·skip
  replace H:=H.keep [2,5] rfl
  replace S:=S.drew
  refine seq_wq [(0,true),(1,true),(2,true),(3,true),(4,true),(5,false),(6,true)] (by kernel_rfl) (by kernel_rfl) (S.sel [0,1] G G) fun K6 k6=>?_
  refine qF H<|qd rfl (fun _ S=>(aE wK Br rfl S (i:=1) G G))<|qd rfl (fun _ S=>(aC eI rfl))<|qd rfl (fun _ S=>aG bR rfl (boxM.rd S (i:=0) G G))<|qd rfl (fun _ S=>bK aW bC G G ((hof y.toNat (by omega)).adr (by omega)) (by omega) (by omega))<|qd rfl (fun _ S=>aG aD rfl ((hof y.toNat (by omega)).rd S (by omega) (by omega)))<|qK ?_;clear H a;intro a H
  refine aV rfl ?_
  refine aA H G G Tryz.func154 G G (xS hz sw SA sc ws QA qc OA oc ha cl op ((ws.getD y.toNat Wr.zero).of.getD 0 0) _ noF (hsw.now S) V hha hcl hop (by have:=hon hc1;omega)) ?_;clear H a
  rintro _ _ a ⟨rfl,S2⟩ H
  replace S:=S.call S2;clear S2
  refine wpList_nil (And.intro (S.sel [0,1] G G) ?_)
  refine qF H<|qr 1 rfl<|qK ?_;clear H a;intro a H
  refine bO ?_
  refine k6 _ _ ?_
  clear k6 K6
  refine wp_ret ?_
  refine ret1 (fn:=Tryz.f122) rfl H rfl ?_
  refine ⟨congrArg Value.bool ?_,(S.sel [] G G)⟩
  rw [wireB,if_pos hc1]
 refine sS H fun K7 k7=>sr 2 rfl<|sE ?_;clear H a;intro a H
 refine k7 _ ?_;clear k7 K7
 refine condE H rfl (fun hc2=>?_) (fun hc2=>?_)
 ·skip
  replace H:=H.keep [2,5] rfl
  refine seq_list fun K8 k8=>?_
  refine ls 4 H<|sf eI rfl<|sl S 0 bR G G G<|sd ((aE wK Br rfl S (i:=1) G G))<|sr 1 rfl<|sE ?_;clear H a;intro a H
  have S1:=(S.sel [1] G G)
  refine aA H G G Tryz.func43 G G (Ta hz sw SA sc ws QA qc OA oc ha cl op n y b2 _ _ S1.startR ((hsw.nowR S1)) (hws.nowR S1) (fun k hk=>(hof k hk).nowR S1) V hy hyn hc1 ih) ?_;clear H a
  rintro _ _ a ⟨rfl,S2⟩ H
  replace S:=(S.sel [1,0] G G).callR (M:=[_]) S2;clear S1 S2
  refine ls 1 H<|sr 1 rfl<|sE ?_;clear H a;intro a H
  refine k8 _ _ ?_;clear k8 K8
  refine wp_ret ?_
  refine ret1 (fn:=Tryz.f122) rfl H rfl ?_
  refine ⟨congrArg Value.bool ?_,(S.sel [] G G)⟩
  rw [wireB,if_neg hc1,if_pos hc2]
 skip
 refine wp_skip ?_
 refine k3 _ _ ?_
 replace H:=H.keep [2,5] rfl
 refine seq_list fun K9 k9=>?_
 refine ls 3 H<|sf eI rfl<|sl S 0 bR G G G<|sr 1 rfl<|sE ?_;clear H a;intro a H
 have S1:=(S.sel [1] G G)
 refine aA H G G Tryz.func43 G G (Tb hz sw SA sc ws QA qc OA oc ha cl op n y b2 _ _ S1.startR ((hsw.nowR S1)) (hws.nowR S1) (fun k hk=>(hof k hk).nowR S1) V hy hyn hc1 ih) ?_;clear H a
 rintro _ _ a ⟨rfl,S2⟩ H
 replace S:=(S.sel [1,0] G G).callR (M:=[_]) S2;clear S1 S2
 refine ls 2 H<|sr 2 rfl<|sE ?_;clear H a;intro a H
 refine k9 _ _ ?_;clear k9 K9
 refine wp_ret ?_
 refine ret1 (fn:=Tryz.f122) rfl H rfl ?_
 refine ⟨congrArg Value.bool ?_,(S.sel [] G G)⟩
 rw [wireB,if_neg hc1,if_neg hc2]
theorem Nx (hz:Int) (sw:List Int) (SA:Option Addr) (sc:Nat) (ws:List Wr) (QA:Option Addr) (qc:Nat) (OA:Nat→Option Addr) (oc:Nat→Nat) (ha cl op:Int) (V:CirV hz sw ws) (hha:0≤ha∧ha≤4095) (hcl:0≤cl∧cl≤4095) (hop:0≤op∧op≤4095):∀ n:Nat,∀ (x:Int) (w:World),0≤x∧x<ws.length→ws.length-x.toNat≤n→InS w noF 1 SA sw.length (icl sw)→InS w noF 2 QA ws.length (fY ws OA oc)→(∀ k,k<ws.length→InS w noF 1 (OA k) (ws.getD k Wr.zero).of.length (icl (ws.getD k Wr.zero).of))→Calls Tryz.prog 122 [.agg [.int .i64 hz,.slice SA sw.length sc,.slice QA ws.length qc,.int .i64 ha,.int .i64 cl,.int .i64 op].toArray,.int .i64 x].toArray w (Ret fun u w'=>u = .bool (wireB sw ws ha cl op n x.toNat)∧St w noF [] w'):=by
  intro n
  induction n with
  | zero=>intro x w hx hxn;omega
  | succ n ih=>intro x w hx hxn h1 h2 h3;exact uQ hz sw SA sc ws QA qc OA oc ha cl op n x w h1 h2 h3 V hha hcl hop hx hxn ih
end
section
theorem Aq {l:List Int} {x:Int} {v:Value} (hv:v = .int .i64 x):∀ k j,k<l.length+1→j<1→capp l.length (icl l) (fun k' j=>([[v]].getD k' []).getD j undef) k j=icl (l++[x]) k j:=by
  subst hv
  intro k j hk hj
  unfold capp icl
  by_cases h:k<l.length
  · rw [if_pos h]
    simp only [List.getD_eq_getElem?_getD,List.getElem?_append_left h]
  · rw [if_neg h]
    obtain rfl:k=l.length:=by omega
    obtain rfl:j=0:=by omega
    simp
theorem pwc {h:Nat} (hh:h<12):0≤(1:Int)*2^(h:Int).toNat∧(1:Int)*2^(h:Int).toNat≤2048:=by
  rw [Int.toNat_natCast,Int.one_mul]
  have h8:2^h≤2048:=Nat.le_trans (Nat.pow_le_pow_right (by omega) (show h≤11 by omega)) (by decide)
  have e:(2:Int)^h=((2^h:Nat):Int):=(Int.natCast_pow 2 h).symm
  rw [e]
  exact ⟨Int.natCast_nonneg _,Int.ofNat_le.2 h8⟩
def wkN (hz:Int) (sw:List Int) (ws:List Wr) (cl:Int):Nat→List Int
  | 0=>[]
  | h+1=>if wireB sw ws (1*2^(h:Int).toNat) cl 0 ws.length (Int.toNat 0)=true then wkN hz sw ws cl h++[(h:Int)] else wkN hz sw ws cl h
theorem rN {hz cl:Int} {sw:List Int} {ws:List Wr}:∀ h,(wkN hz sw ws cl h).length≤h:=fun h=>by
  induction h with
  | zero=>exact Nat.le_refl _
  | succ h ih=>rw [wkN];split <;> (try rw [List.length_append,List.length_singleton]) <;> omega
def critN (hz:Int) (sw:List Int) (ws:List Wr):Nat→List Int
  | 0=>[]
  | s+1=>if 0<(wkN hz sw ws (1*2^(s:Int).toNat) hz.toNat).length then critN hz sw ws s++[(s:Int)] else critN hz sw ws s
theorem vR {hz:Int} {sw:List Int} {ws:List Wr}:∀ h,(critN hz sw ws h).length≤h:=fun h=>by
  induction h with
  | zero=>exact Nat.le_refl _
  | succ h ih=>rw [critN];split <;> (try rw [List.length_append,List.length_singleton]) <;> omega
theorem Ar (hz:Int) (sw:List Int) (SA:Option Addr) (sc:Nat) (ws:List Wr) (QA:Option Addr) (qc:Nat) (OA:Nat→Option Addr) (oc:Nat→Nat) (cl:Int) (w:World) (hsw:InS w noF 1 SA sw.length (icl sw)) (hws:InS w noF 2 QA ws.length (fY ws OA oc)) (hof:∀ k,k<ws.length→InS w noF 1 (OA k) (ws.getD k Wr.zero).of.length (icl (ws.getD k Wr.zero).of)) (V:CirV hz sw ws) (hcl:0≤cl∧cl≤4095) :
    Calls Tryz.prog 79 [.agg [.int .i64 hz,.slice SA sw.length sc,.slice QA ws.length qc].toArray,.int .i64 cl].toArray w (Ret (fun u w'=>∃ A' c',u = .slice A' (wkN hz sw ws cl hz.toNat).length c'∧St w noF [ownM 3 1 A' (wkN hz sw ws cl hz.toNat).length c' (icl (wkN hz sw ws cl hz.toNat))] w')):=by
 have hzb:=V.hzb
 have hnw:=V.nws
 refine enter Tryz.func79 rfl Tryz.ntmps79 rfl (fun a H=>?_)
 have S:=St.start w
 refine seq_list fun K1 k1=>?_
 refine aO H rfl S G G ?_;clear H a S;intro b2 _ a hb2 hbw2 S H
 refine ls 1 H<|sr 1 rfl<|sE ?_;clear H a;intro a H
 refine k1 _ _ ?_;clear k1 K1
 refine wp_seq_k fun K2 k2=>?_
 refine sS H fun K3 k3=>sf oK rfl<|sl S 0 aD G G G<|sr 1 rfl<|sE ?_;clear H a;intro a H
 refine k3 _ ?_;clear k3 K3
 refine wp_block ?_
 replace S:=S.newNil 3 1 (icl [])
 refine loop_st (X:=Nat×List Int×Option Addr×Nat) (R0:=_) [1,2,7] H rfl (fun ⟨h,L9,A9,c9⟩=>[(4,.slice A9 L9.length c9),(8,.int .i64 (h:Int))]) (fun ⟨h,L9,A9,c9⟩=>[ownM 3 1 A9 L9.length c9 (icl L9)]) (fun g ⟨h,L9,A9,c9⟩=>(h:Int)≤hz∧(g:Int)+h=hz∧L9=wkN hz sw ws cl h) (hz.toNat) (0,[],none,0) ?_ (S.sel [0,1] G G) (H.keep [4,8,1,2,7] rfl) ?_
 · exact ⟨by omega,by omega,rfl⟩
 clear H S a
 intro g1 x1 a w1 hp S H K4 k4
 obtain ⟨h,L9,A9,c9⟩:=x1
 dsimp only at hp S H
 refine sS H fun K5 k5=>sr 1 rfl<|sE ?_;clear H a;intro a H
 refine k5 _ ?_;clear k5 K5
 refine wp_seq_k fun K6 k6=>?_
 refine condL H rfl (fun hc1=>?_) (fun hc1=>?_)
 ·skip
  refine wp_skip ?_
  refine k6 _ _ ?_
  refine wp_seq_k fun K7 k7=>?_
  refine wp_block ?_
  refine sS H fun K8 k8=>sr 2 rfl<|sE ?_;clear H a;intro a H
  refine k8 _ ?_;clear k8 K8
  have hsh:=pwc (h:=h) (by omega)
  have hL9:L9.length≤h:=by rw [hp.2.2];exact rN h
  replace S:=S.drew
  refine seq_wq [(0,true),(1,true),(2,true),(3,true),(4,true),(5,false)] (by kernel_rfl) (by kernel_rfl) (S.sel [0,1] G G) fun K9 k9=>?_
  refine qF H<|qd rfl (fun _ S=>(aE dN cK rfl S (i:=1) G G))<|qr 1 rfl<|qd rfl (fun _ S=>dE G G (by omega) (by omega) (by unfold i64ok;omega))<|qr 1 rfl<|qd rfl (fun _ S=>aR Ve G G)<|qK ?_;clear H a;intro a H
  refine aV rfl ?_
  refine aA H G G Tryz.func122 G G (Nx hz sw SA sc ws QA qc OA oc (1*2^(h:Int).toNat) cl 0 V (by omega) hcl (by omega) ws.length 0 _ (by omega) (by omega) (hsw.now S) (hws.now S) (fun k hk=>(hof k hk).now S)) ?_;clear H a
  rintro _ _ a ⟨rfl,S2⟩ H
  replace S:=S.call S2;clear S2
  refine wpList_nil (And.intro (S.sel [0,1] G G) ?_)
  refine bO ?_
  refine k9 _ _ ?_
  clear k9 K9
  refine cond_ H rfl (fun hc2=>?_) (fun hc2=>?_)
  ·skip
   try simp only [o1,o2,o3,o4,o5,o6,o7,o8,o9,oa] at hc2
   replace H:=H.keep [1,2,4,5,7,8] rfl
   refine one_list ?_
   refine ls 2 H<|sr 2 rfl<|sE ?_;clear H a;intro a H
   refine bB H rfl S aW bC fG G G G G G G G G G ?_;clear H a S;intro A1 _ a hA1 S H
   refine cB H rfl S aW bC fG nF G G (i:=1) G G G (ownM.inS S (i:=0) rfl) (jL (one rfl)) (by omega) (by omega) ?_;clear H a S;intro A2 c2 _ a S H
   replace S:=S.recell (i:=1) rfl (cell':=icl (L9++[(h:Int)])) (Aq rfl)
   rw [show L9.length+1=(L9++[(h:Int)]).length by simp] at H S
   refine ls 1 H<|sr 1 rfl<|sE ?_;clear H a;intro a H
   refine k7 _ _ ?_
   refine sO H<|sd (aK G G (by unfold i64ok;omega))<|sr 1 rfl<|sE ?_;clear H a;intro a H
   exact k4 (g1-1) (h+1,_,_,_) a _ (by omega) (⟨by omega,by omega,by rw [wkN];first|rw [if_pos hc2,←hp.2.2]|rw [if_neg (by simpa using hc2),←hp.2.2]⟩) (S.sel [1,2] G G) (H.keep [4,8,1,2,7] rfl)
  try simp only [o1,o2,o3,o4,o5,o6,o7,o8,o9,oa] at hc2
  refine wp_skip ?_
  refine k7 _ _ ?_
  refine sO H<|sd (aK G G (by unfold i64ok;omega))<|sr 1 rfl<|sE ?_;clear H a;intro a H
  exact k4 (g1-1) (h+1,_,_,_) a _ (by omega) (⟨by omega,by omega,by rw [wkN];first|rw [if_pos hc2,←hp.2.2]|rw [if_neg (by simpa using hc2),←hp.2.2]⟩) (S.sel [0,1] G G) (H.keep [4,8,1,2,7] rfl)
 refine wp_exit ?_
 refine k2 _ _ ?_
 replace H:=H.keep [4] rfl
 refine sS H fun K13 k13=>sr 2 rfl<|sE ?_;clear H a;intro a H
 refine k13 _ ?_;clear k13 K13
 refine wp_ret ?_
 refine ret1 (fn:=Tryz.f79) rfl H rfl ?_
 have hh9:h=hz.toNat:=by omega
 rw [hh9] at hp
 rw [←hp.2.2]
 exact ⟨_,_,rfl,(S.sel [0] G G)⟩
end
section
theorem lowA_next {l:List Int} {lo:Int} {k:Nat}:lowA l lo (k+1)=l.getD k 0+1:=by unfold lowA;rw [if_neg (by omega)];rfl
theorem pwh {hz:Int} (h:0≤hz∧hz≤12):0≤(1:Int)*2^hz.toNat∧(1:Int)*2^hz.toNat≤4096:=by
  rw [Int.one_mul]
  have h8:2^hz.toNat≤4096:=Nat.le_trans (Nat.pow_le_pow_right (by omega) (show hz.toNat≤12 by omega)) (by decide)
  have e:(2:Int)^hz.toNat=((2^hz.toNat:Nat):Int):=(Int.natCast_pow 2 hz.toNat).symm
  rw [e]
  exact ⟨Int.natCast_nonneg _,Int.ofNat_le.2 h8⟩
def bcl (l:List Bool):Nat→Nat→Value:=fun k _ => .bool (l.getD k false)
theorem In {l:List Bool} {k:Nat} (hk:k<l.length) (h:(l.take k).all (fun b=>b)=true) (h2:l.getD k false=true):(l.take (k+1)).all (fun b=>b)=true:=by
  rw [List.getD_eq_getElem?_getD,List.getElem?_eq_getElem hk] at h2
  rw [List.take_succ_eq_append_getElem hk,List.all_append,h]
  simpa using h2
theorem Tc {l:List Bool} {k:Nat} (hk:k<l.length) (h:l.getD k false=false):l.all (fun b=>b)=false:=by
  rw [List.getD_eq_getElem?_getD,List.getElem?_eq_getElem hk] at h
  cases hb:l.all (fun b=>b) with
  | false=>rfl
  | true=>have:=List.all_eq_true.1 hb _ (List.getElem_mem hk);simp at h;rw [h] at this;cases this
theorem Io (n many:Int) (w:World) (hm:0≤many∧many≤12) :
    Calls Tryz.prog 151 [.int .i64 n,.int .i64 many].toArray w (Ret (fun u w'=>u = .bool (setB n many)∧St w noF [] w')):=by
 have hpw:=pwh hm
 refine enter Tryz.func151 rfl Tryz.ntmps151 rfl (fun a H=>?_)
 have S:=St.start w
 refine sS H fun K1 k1=>sr 1 rfl<|sE ?_;clear H a;intro a H
 refine k1 _ ?_;clear k1 K1
 replace H:=H.keep [0,1] rfl
 refine sS H fun K2 k2=>sr 3 rfl<|sg 4 2 7 11 true G G (fun hg3=>sy hg3<|sr 1 rfl<|sy hg3<|sr 1 rfl<|sy hg3<|sd (dE G G (by omega) (by omega) (by unfold i64ok;omega))<|sy hg3<|sr 1 rfl<|sz 4 G G G)<|sa G G G<|sr 1 rfl<|sE ?_;clear H a;intro a H
 refine k2 _ ?_;clear k2 K2
 refine wp_ret ?_
 refine ret1 (fn:=Tryz.f151) rfl H rfl ?_
 exact ⟨rfl,(S.sel [] G G)⟩
theorem Cy (n:Int) (w:World) :
    Calls Tryz.prog 153 [.int .i64 n].toArray w (Ret (fun u w'=>u = .bool (!decide (n=1))∧St w noF [] w')):=by
 refine enter Tryz.func153 rfl Tryz.ntmps153 rfl (fun a H=>?_)
 have S:=St.start w
 refine sS H fun K1 k1=>sr 1 rfl<|sE ?_;clear H a;intro a H
 refine k1 _ ?_;clear k1 K1
 refine sS H fun K2 k2=>sr 3 rfl<|sE ?_;clear H a;intro a H
 refine k2 _ ?_;clear k2 K2
 refine wp_ret ?_
 refine ret1 (fn:=Tryz.f153) rfl H rfl ?_
 exact ⟨rfl,(S.sel [] G G)⟩
theorem jY (l:List Int) (A:Option Addr) (cp:Nat) (lo hi:Int) (w:World) (hl:InS w noF 1 A l.length (icl l)) (hn:l.length≤9223372036854775807) (hlo:0≤lo∧lo≤1000) (hhi:0≤hi∧hi≤1000) :
    Calls Tryz.prog 152 [.slice A l.length cp,.int .i64 lo,.int .i64 hi].toArray w (Ret (fun u w'=>u = .bool (ascB l lo hi)∧St w noF [] w')):=by
 refine enter Tryz.func152 rfl Tryz.ntmps152 rfl (fun a H=>?_)
 have S:=St.start w
 refine sS H fun K1 k1=>sr 1 rfl<|sE ?_;clear H a;intro a H
 refine k1 _ ?_;clear k1 K1
 refine wp_seq_k fun K2 k2=>?_
 refine sS H fun K3 k3=>sr 1 rfl<|sL aW rfl<|sr 1 rfl<|sE ?_;clear H a;intro a H
 refine k3 _ ?_;clear k3 K3
 refine wp_block ?_
 refine loop_st (X:=Nat×Int) (R0:=_) [2,9,10] H rfl (fun ⟨k,lw⟩=>[(1,.int .i64 lw),(11,.int .i64 (k:Int))]) (fun ⟨k,lw⟩=>[]) (fun g ⟨k,lw⟩=>k≤l.length∧g+k=l.length∧(0≤lw∧lw≤1000)∧lw=lowA l lo k∧∀ q,q<k→ascP l lo hi q=true) (l.length) (0,lo) ?_ (S.sel [] G G) (H.keep [1,11,2,9,10] rfl) ?_
 · exact ⟨by omega,by omega,by omega,rfl,fun q hq=>absurd hq (Nat.not_lt_zero q)⟩
 clear H S a
 intro g1 x1 a w1 hp S H K4 k4
 obtain ⟨k,lw⟩:=x1
 dsimp only at hp S H
 refine sS H fun K5 k5=>sr 1 rfl<|sE ?_;clear H a;intro a H
 refine k5 _ ?_;clear k5 K5
 refine wp_seq_k fun K6 k6=>?_
 refine condL H rfl (fun hc1=>?_) (fun hc1=>?_)
 ·skip
  refine wp_skip ?_
  refine k6 _ _ ?_
  refine wp_seq_k fun K7 k7=>?_
  refine wp_block ?_
  refine sS H fun K8 k8=>si aW bC G G (hl.adr (by omega)) (by omega)<|slm aD rfl (hl.rd S (by omega) (by omega))<|sr 1 rfl<|sE ?_;clear H a;intro a H
  refine k8 _ ?_;clear k8 K8
  refine wp_seq_k fun K9 k9=>?_
  replace H:=H.keep [1,2,8,9,10,11] rfl
  refine sS H fun K10 k10=>sr 4 rfl<|sg 3 3 18 21 false G G (fun hg4=>sy hg4<|sr 1 rfl<|sy hg4<|sr 1 rfl<|sy hg4<|sr 1 rfl<|sz 3 G G G)<|so G G G<|sE ?_;clear H a;intro a H
  refine k10 _ ?_;clear k10 K10
  refine cond_ H rfl (fun hc2=>?_) (fun hc2=>?_)
  ·skip
   try simp only [o1,o2,o3,o4,o5,o6,o7,o8,o9,oa] at hc2
   have hcx:=hc2
   refine sS H fun K11 k11=>sr 1 rfl<|sE ?_;clear H a;intro a H
   refine k11 _ ?_;clear k11 K11
   refine wp_ret ?_
   refine ret1 (fn:=Tryz.f152) rfl H rfl ?_
   rw [Sx (k:=k) (by omega) (by unfold ascP;rw [←hp.2.2.2.1];exact decide_eq_false (by simp at hcx;omega))];exact ⟨rfl,(S.sel [] G G)⟩
  try simp only [o1,o2,o3,o4,o5,o6,o7,o8,o9,oa] at hc2
  have hcx:=hc2
  refine wp_skip ?_
  refine k9 _ _ ?_
  simp at hcx
  replace H:=H.keep [2,8,9,10,11] rfl
  refine sO H<|sr 1 rfl<|sd (aK G G (by unfold i64ok;omega))<|sr 1 rfl<|sE ?_;clear H a;intro a H
  refine k7 _ _ ?_
  refine sO H<|sd (aK G G (by unfold i64ok;omega))<|sr 1 rfl<|sE ?_;clear H a;intro a H
  exact k4 (g1-1) (k+1,_) a _ (by omega) (⟨by omega,by omega,by omega,lowA_next.symm,fun q hq=>if h9:q<k then hp.2.2.2.2 q h9 else by
        obtain rfl:q=k:=by omega
        unfold ascP;rw [←hp.2.2.2.1];exact decide_eq_true (by omega)⟩) (S.sel [] G G) (H.keep [1,11,2,9,10] rfl)
 refine wp_exit ?_
 refine k2 _ _ ?_
 refine sS H fun K14 k14=>sr 1 rfl<|sE ?_;clear H a;intro a H
 refine k14 _ ?_;clear k14 K14
 refine wp_ret ?_
 refine ret1 (fn:=Tryz.f152) rfl H rfl ?_
 rw [Sw (fun q hq=>hp.2.2.2.2 q (by omega))];exact ⟨rfl,(S.sel [] G G)⟩
theorem Cz (l:List Bool) (A:Option Addr) (cp:Nat) (w:World) (hl:InS w noF 1 A l.length (bcl l)) (hn:l.length≤9223372036854775807) :
    Calls Tryz.prog 180 [.slice A l.length cp,.bool false].toArray w (Ret (fun u w'=>∃ n:Int,u = .int .i64 n∧decide (0≤n)=!(l.all fun b=>b)∧St w noF [] w')):=by
 refine enter Tryz.func180 rfl Tryz.ntmps180 rfl (fun a H=>?_)
 have S:=St.start w
 refine sS H fun K1 k1=>sr 1 rfl<|sE ?_;clear H a;intro a H
 refine k1 _ ?_;clear k1 K1
 refine wp_seq_k fun K2 k2=>?_
 refine sS H fun K3 k3=>sr 1 rfl<|sL Bs rfl<|sr 1 rfl<|sE ?_;clear H a;intro a H
 refine k3 _ ?_;clear k3 K3
 refine wp_block ?_
 refine loop_st (X:=Nat) (R0:=_) [0,1,7] H rfl (fun k=>[(8,.int .i64 (k:Int))]) (fun k=>[]) (fun g k=>k≤l.length∧g+k=l.length∧(l.take k).all (fun b=>b)=true) (l.length) 0 ?_ (S.sel [] G G) (H.keep [8,0,1,7] rfl) ?_
 · exact ⟨by omega,by omega,rfl⟩
 clear H S a
 intro g1 x1 a w1 hp S H K4 k4
 obtain ⟨k,rfl⟩:∃ y,y=x1:=⟨_,rfl⟩
 refine sS H fun K5 k5=>sr 1 rfl<|sE ?_;clear H a;intro a H
 refine k5 _ ?_;clear k5 K5
 refine wp_seq_k fun K6 k6=>?_
 refine condL H rfl (fun hc1=>?_) (fun hc1=>?_)
 ·skip
  refine wp_skip ?_
  refine k6 _ _ ?_
  refine wp_seq_k fun K7 k7=>?_
  refine wp_block ?_
  refine sS H fun K8 k8=>sr 2 rfl<|sE ?_;clear H a;intro a H
  refine k8 _ ?_;clear k8 K8
  refine sS H fun K9 k9=>sr 3 rfl<|si Bs wH G G (hl.adr (by omega)) (by omega)<|slm iL rfl (hl.rd S (by omega) (by omega))<|sd (Fo Tryz.underlying4 G G)<|sE ?_;clear H a;intro a H
  refine k9 _ ?_;clear k9 K9
  refine cond_ H rfl (fun hc2=>?_) (fun hc2=>?_)
  ·skip
   try simp only [o1,o2,o3,o4,o5,o6,o7,o8,o9,oa] at hc2
   replace H:=H.keep [5] rfl
   refine sS H fun K10 k10=>sr 2 rfl<|sE ?_;clear H a;intro a H
   refine k10 _ ?_;clear k10 K10
   refine wp_ret ?_
   refine ret1 (fn:=Tryz.f180) rfl H rfl ?_
   exact ⟨_,rfl,by rw [Tc (k:=k) (by omega) (by simpa using hc2)];exact decide_eq_true (by omega),(S.sel [] G G)⟩
  try simp only [o1,o2,o3,o4,o5,o6,o7,o8,o9,oa] at hc2
  refine wp_skip ?_
  refine k7 _ _ ?_
  refine sO H<|sd (aK G G (by unfold i64ok;omega))<|sr 1 rfl<|sE ?_;clear H a;intro a H
  exact k4 (g1-1) (k+1) a _ (by omega) (⟨by omega,by omega,In (by omega) hp.2.2 (by simpa using hc2)⟩) (S.sel [] G G) (H.keep [8,0,1,7] rfl)
 refine wp_exit ?_
 refine k2 _ _ ?_
 refine sS H fun K12 k12=>sr 1 rfl<|sE ?_;clear H a;intro a H
 refine k12 _ ?_;clear k12 K12
 refine wp_ret ?_
 refine ret1 (fn:=Tryz.f180) rfl H rfl ?_
 exact ⟨_,rfl,by rw [←List.take_of_length_le (l:=l) (i:=k) (by omega),hp.2.2];rfl,(S.sel [] G G)⟩
theorem uR (l:List Bool) (A:Option Addr) (cp:Nat) (w:World) (hl:InS w noF 1 A l.length (bcl l)) (hn:l.length≤9223372036854775807) :
    Calls Tryz.prog 149 [.slice A l.length cp,.bool false].toArray w (Ret (fun u w'=>u = .bool (!(l.all fun b=>b))∧St w noF [] w')):=by
 refine enter Tryz.func149 rfl Tryz.ntmps149 rfl (fun a H=>?_)
 have S:=St.start w
 refine sS H fun K1 k1=>sr 1 rfl<|sE ?_;clear H a;intro a H
 refine k1 _ ?_;clear k1 K1
 refine seq_list fun K2 k2=>?_
 refine ls 2 H<|sr 2 rfl<|sE ?_;clear H a;intro a H
 refine aA H G G Tryz.func180 G G (Cz l A cp _ (hl.now S) hn) ?_;clear H a
 rintro _ _ a ⟨n,rfl,hn2,S2⟩ H
 replace S:=S.call S2;clear S2
 refine ls 2 H<|sr 2 rfl<|sE ?_;clear H a;intro a H
 refine k2 _ _ ?_;clear k2 K2
 refine wp_ret ?_
 refine ret1 (fn:=Tryz.f149) rfl H rfl ?_
 exact ⟨congrArg Value.bool hn2,(S.sel [] G G)⟩
end
section
theorem Ww {b0 b1 b2:Bool} {v0 v1 v2:Value} (h0:v0 = .bool b0) (h1:v1 = .bool b1) (h2:v2 = .bool b2):∀ k j,k<3→j<1→([[v0],[v1],[v2]].getD k []).getD j undef=bcl [b0,b1,b2] k j:=by
  subst h0;subst h1;subst h2
  intro k j hk hj
  obtain rfl:j=0:=by omega
  rcases (show k=0∨k=1∨k=2 by omega) with rfl|rfl|rfl <;> rfl
theorem Da (hz:Int) (sw:List Int) (SA:Option Addr) (sc:Nat) (ws:List Wr) (QA:Option Addr) (qc cb:Nat) (n:Int) (w:World) (F:Nat→Prop) (S:St w F [boxM cb 121 [.int .i64 hz,.slice SA sw.length sc,.slice QA ws.length qc]] w) (hhz:0≤hz∧hz≤12) :
    Calls Tryz.prog 150 [.int .i64 n,.pointer (some ⟨cb,0,none⟩)].toArray w (Ret (fun u w'=>u = .bool (!setB n hz)∧St w F [boxM cb 121 [.int .i64 hz,.slice SA sw.length sc,.slice QA ws.length qc]] w')):=by
 refine enter Tryz.func150 rfl Tryz.ntmps150 rfl (fun a H=>?_)
 skip
 refine sS H fun K1 k1=>sr 1 rfl<|sE ?_;clear H a;intro a H
 refine k1 _ ?_;clear k1 K1
 refine seq_list fun K2 k2=>?_
 refine ls 3 H<|sr 1 rfl<|sf oK rfl<|sl S 0 aD G G G<|sE ?_;clear H a;intro a H
 refine aA H G G Tryz.func151 G G (Io n hz _ hhz) ?_;clear H a
 rintro _ _ a ⟨rfl,S2⟩ H
 replace S:=S.call S2;clear S2
 refine ls 2 H<|sr 2 rfl<|sE ?_;clear H a;intro a H
 refine k2 _ _ ?_;clear k2 K2
 refine wp_ret ?_
 refine ret1 (fn:=Tryz.f150) rfl H rfl ?_
 exact ⟨rfl,(S.sel [0] G G)⟩
theorem Td (hz:Int) (sw:List Int) (SA:Option Addr) (sc:Nat) (ws:List Wr) (QA:Option Addr) (qc cb:Nat) (w:World) (F:Nat→Prop) (S:St w F [boxM cb 121 [.int .i64 hz,.slice SA sw.length sc,.slice QA ws.length qc]] w) (hsw:InS w F 1 SA sw.length (icl sw)) (hn:sw.length≤9223372036854775807) (hhz:0≤hz∧hz≤12):Calls Tryz.prog 43 #[.slice SA sw.length sc,.func (.func 150) #[] #[.pointer (some ⟨cb,0,none⟩)]] w (Ret fun u w'=>u = .bool (sw.any fun n=>!setB n hz)∧St w F [boxM cb 121 [.int .i64 hz,.slice SA sw.length sc,.slice QA ws.length qc]] w'):=by
  have hh:=fD sw SA sc 150 _ [] [.pointer (some ⟨cb,0,none⟩)] (fun n=>!setB n hz) _ w F S hsw hn Tryz.func150 G G (fun k w' hk S'=>Da hz sw SA sc ws QA qc cb (sw.getD k 0) w' _ S'.startR hhz)
  exact hh
theorem Te (l:List Int) (A:Option Addr) (cp:Nat) (w:World) (hl:InS w noF 1 A l.length (icl l)) (hn:l.length≤9223372036854775807):Calls Tryz.prog 43 #[.slice A l.length cp,.func (.func 153) #[] #[]] w (Ret fun u w'=>u = .bool (l.any fun n=>!decide (n=1))∧St w noF [] w'):=by
  have S0:=(St.start w).newNil 3 1 (icl [])
  have hh:=fD l A cp 153 _ [] [] (fun n=>!decide (n=1)) _ w noF S0 hl hn Tryz.func153 G G (fun k w' hk S'=>uH (Cy (l.getD k 0) w') fun v w'' h=>⟨h.1,S'.startR.call h.2⟩)
  exact uH hh fun v w'' h=>⟨h.1,h.2.sel [] rfl rfl⟩
end
section
theorem Wx {hz:Int} {sw:List Int} {ws:List Wr}:([(decide (1≤hz)&&decide (hz≤8)),(decide (1≤(sw.length:Int))&&decide ((sw.length:Int)≤12)),(decide (1≤(ws.length:Int))&&decide ((ws.length:Int)≤24))].all fun b=>b)=cirSz hz sw ws:=by unfold cirSz;simp only [List.all_cons,List.all_nil,Bool.and_true]
section
variable {hz:Int} {sw:List Int} {ws:List Wr} {i:Nat}
theorem Ny (h:cirSz hz sw ws=false):circE hz sw ws=30:=mA (by unfold cirOk;rw [h];rfl)
theorem Nz (h:(sw.any fun n=>!setB n hz)=true):circE hz sw ws=30:=mA (by unfold cirOk;rw [h];simp)
theorem pK (hi:i<ws.length) (h:wrOk sw.length ws.length ws i=false):circE hz sw ws=30:=mA (by
  unfold cirOk
  cases hb:(List.range ws.length).all (wrOk sw.length ws.length ws) with
  | false=>simp
  | true=>rw [List.all_eq_true.1 hb i (List.mem_range.2 hi)] at h;cases h)
theorem Oa (h:¬ heldN ws 0 ws.length=0):circE hz sw ws=30:=mA (by unfold cirOk;rw [decide_eq_false h];simp)
theorem Ob (h:((List.range (ws.length-1)).any fun q=>!decide (heldN ws (q+1) ws.length=1))=true):circE hz sw ws=30:=mA (by unfold cirOk;rw [h];simp)
theorem Oc (h1:cirSz hz sw ws=true) (h2:(sw.any fun n=>!setB n hz)=false) (h3:∀ i,i<ws.length→wrOk sw.length ws.length ws i=true) (h4:heldN ws 0 ws.length=0) (h5:((List.range (ws.length-1)).any fun q=>!decide (heldN ws (q+1) ws.length=1))=false):circE hz sw ws=0:=Ik (by
  unfold cirOk
  rw [h1,h2,decide_eq_true h4,h5,List.all_eq_true.2 (fun i hi=>h3 i (List.mem_range.1 hi))];rfl)
theorem Ui (h:cirSz hz sw ws=true):(1≤hz∧hz≤8)∧(1≤sw.length∧sw.length≤12)∧(1≤ws.length∧ws.length≤24):=by
  unfold cirSz at h
  simp only [Bool.and_eq_true,decide_eq_true_eq] at h
  omega
theorem xT {l:List Int} {k:Nat}:∀ q,0≤cntO l k q∧cntO l k q≤q:=fun q=>by
  induction q with
  | zero=>exact ⟨Int.le_refl _,Int.le_refl _⟩
  | succ q ih=>
    have e:cntO l k (q+1)=cntO l k q+(if l.getD q 0=(k:Int) then 1 else 0):=rfl
    rw [e];split <;> omega
theorem nP {k i:Nat}:heldN ws k (i+1)=heldN ws k i+heldW (ws.getD i Wr.zero) k:=rfl
theorem Ey (k:Nat):∀ i,(∀ q,q<i→wrOk sw.length ws.length ws q=true)→0≤heldN ws k i∧heldN ws k i≤8*i:=fun i=>by
  induction i with
  | zero=>intro _;exact ⟨Int.le_refl _,Int.le_refl _⟩
  | succ i ih=>
    intro h
    have h1:=ih fun q hq=>h q (by omega)
    have h2:=h i (by omega)
    rw [nP]
    unfold heldW
    split
    · omega
    · next hk=>
      unfold wrOk at h2
      rw [if_neg hk] at h2
      split at h2
      · simp only [Bool.and_eq_true,decide_eq_true_eq] at h2
        have:=xT (l:=(ws.getD i Wr.zero).of) (k:=k) (ws.getD i Wr.zero).of.length
        omega
      · cases h2
end
section
variable {sw l:List Int} {ws:List Wr} {i k j q:Nat}
theorem Db (hk:(ws.getD i Wr.zero).kind=1) (h1:(ws.getD i Wr.zero).of.length=1) (h:ascB (ws.getD i Wr.zero).of 0 sw.length=true):wrOk sw.length ws.length ws i=true:=by
  unfold wrOk;rw [if_pos hk,h,decide_eq_true h1];rfl
theorem Dc (hk:(ws.getD i Wr.zero).kind=1) (h:¬ ((ws.getD i Wr.zero).of.length:Int)=1∨ascB (ws.getD i Wr.zero).of 0 sw.length=false):wrOk sw.length ws.length ws i=false:=by
  unfold wrOk;rw [if_pos hk]
  rcases h with h|h
  · rw [decide_eq_false (by omega)];rfl
  · rw [h];simp
theorem mS (h1:¬ (ws.getD i Wr.zero).kind=1) (hk:(ws.getD i Wr.zero).kind=2∨(ws.getD i Wr.zero).kind=3) (h2:1≤(ws.getD i Wr.zero).of.length∧(ws.getD i Wr.zero).of.length≤8) (h:ascB (ws.getD i Wr.zero).of ((i:Int)+1) ws.length=true):wrOk sw.length ws.length ws i=true:=by
  unfold wrOk;rw [if_neg h1,if_pos hk,h,decide_eq_true h2];rfl
theorem qV (h1:¬ (ws.getD i Wr.zero).kind=1) (hk:(ws.getD i Wr.zero).kind=2∨(ws.getD i Wr.zero).kind=3) (h:(((ws.getD i Wr.zero).of.length:Int)<1∨8<((ws.getD i Wr.zero).of.length:Int))∨ascB (ws.getD i Wr.zero).of ((i:Int)+1) ws.length=false):wrOk sw.length ws.length ws i=false:=by
  unfold wrOk;rw [if_neg h1,if_pos hk]
  rcases h with h|h
  · rw [decide_eq_false (by omega)];rfl
  · rw [h];simp
theorem Tf (h1:¬ (ws.getD i Wr.zero).kind=1) (h2:¬ (ws.getD i Wr.zero).kind=2) (h3:¬ (ws.getD i Wr.zero).kind=3):wrOk sw.length ws.length ws i=false:=by
  unfold wrOk;rw [if_neg h1,if_neg (fun h=>h.elim h2 h3)]
theorem uI (h1:(ws.getD i Wr.zero).kind=1):heldN ws k i=heldN ws k (i+1):=by rw [nP];unfold heldW;rw [if_pos h1,Int.add_zero]
theorem qH (h1:¬ (ws.getD i Wr.zero).kind=1) (hq:q=(ws.getD i Wr.zero).of.length):heldN ws k i+cntO (ws.getD i Wr.zero).of k q=heldN ws k (i+1):=by rw [nP];unfold heldW;rw [if_neg h1,hq]
theorem As (hx:0≤l.getD q 0) (hj:j<1):cput (fun k _ => .int .i64 (heldN ws k i+cntO l k q)) (l.getD q 0).toNat 0 (.int .i64 (heldN ws (l.getD q 0).toNat i+cntO l (l.getD q 0).toNat q+1)) k j = .int .i64 (heldN ws k i+cntO l k (q+1)):=by
  have e:cntO l k (q+1)=cntO l k q+(if l.getD q 0=(k:Int) then 1 else 0):=rfl
  unfold cput
  rw [e]
  by_cases h:k=(l.getD q 0).toNat
  · rw [if_pos ⟨h,by omega⟩,if_pos (by omega),←h,Int.add_assoc]
  · rw [if_neg (fun h9=>h h9.1),if_neg (by omega),Int.add_zero]
end
theorem mT {ws:List Wr}:((List.range (ws.length-1)).map fun q=>heldN ws (q+1) ws.length).length=ws.length-1:=by rw [List.length_map,List.length_range]
theorem vS {ws:List Wr}:(((List.range (ws.length-1)).map fun q=>heldN ws (q+1) ws.length).any fun n=>!decide (n=1))=(List.range (ws.length-1)).any fun q=>!decide (heldN ws (q+1) ws.length=1):=by rw [List.any_map];rfl
theorem Od {ws:List Wr} {q:Nat} (h:q<ws.length-1):((List.range (ws.length-1)).map fun q=>heldN ws (q+1) ws.length).getD q 0=heldN ws (q+1) ws.length:=by
  rw [List.getD_eq_getElem?_getD,List.getElem?_eq_getElem (by rw [mT];exact h),Option.getD_some,List.getElem_map,List.getElem_range]
theorem Oe {ws:List Wr} {w:World} {A:Option Addr} (h:InS w noF 1 A ws.length (fun k _ => .int .i64 (heldN ws k ws.length))) (hw:1≤ws.length):InS w noF 1 (cutA A ws.length 1 1) ((List.range (ws.length-1)).map fun q=>heldN ws (q+1) ws.length).length (icl ((List.range (ws.length-1)).map fun q=>heldN ws (q+1) ws.length)):=by
  rw [mT]
  refine (h.cut (lo:=1) (hi:=ws.length) hw (Nat.le_refl _) (Nat.le_refl _)).congr fun k j hk hj=>?_
  unfold icl
  rw [Od hk,Nat.add_comm 1 k]
theorem Ip (hz:Int) (sw:List Int) (SA:Option Addr) (sc:Nat) (ws:List Wr) (QA:Option Addr) (qc:Nat) (OA:Nat→Option Addr) (oc:Nat→Nat) (w:World) (hsw:InS w noF 1 SA sw.length (icl sw)) (hws:InS w noF 2 QA ws.length (fY ws OA oc)) (hof:∀ k,k<ws.length→InS w noF 1 (OA k) (ws.getD k Wr.zero).of.length (icl (ws.getD k Wr.zero).of)) (hsn:sw.length≤9223372036854775807) (hwn:ws.length≤9223372036854775807) (hofn:∀ k,k<ws.length→(ws.getD k Wr.zero).of.length≤9223372036854775807) :
    Calls Tryz.prog 120 [.agg [.int .i64 hz,.slice SA sw.length sc,.slice QA ws.length qc].toArray].toArray w (Ret (fun u w'=>u = .int .i64 (circE hz sw ws)∧St w noF [] w')):=by
 refine enter Tryz.func120 rfl Tryz.ntmps120 rfl (fun a H=>?_)
 have S:=St.start w
 refine seq_list fun K1 k1=>?_
 refine aO H rfl S G G ?_;clear H a S;intro b1 _ a hb1 hbw1 S H
 refine ls 1 H<|sr 1 rfl<|sE ?_;clear H a;intro a H
 refine k1 _ _ ?_;clear k1 K1
 replace H:=H.keep [1] rfl
 refine seq_list fun K2 k2=>?_
 refine ls 28 H<|sf oK rfl<|sl S 0 aD G G G<|sr 2 rfl<|sg 3 3 12 15 true G G (fun hg4=>sy hg4<|sf oK rfl<|sy hg4<|sl S 0 aD G G G<|sy hg4<|sr 1 rfl<|sz 3 G G G)<|sa G G G<|sf iM rfl<|sl S 0 bR G G G<|sL aW rfl<|sr 2 rfl<|sg 4 12 21 25 true G G (fun hg13=>sy hg13<|sf iM rfl<|sy hg13<|sl S 0 bR G G G<|sy hg13<|sL aW rfl<|sy hg13<|sr 1 rfl<|sz 4 G G G)<|sa G G G<|sf jF rfl<|sl S 0 kV G G G<|sL kZ rfl<|sr 2 rfl<|sg 4 22 31 35 true G G (fun hg23=>sy hg23<|sf jF rfl<|sy hg23<|sl S 0 kV G G G<|sy hg23<|sL kZ rfl<|sy hg23<|sr 1 rfl<|sz 4 G G G)<|sa G G G<|sE ?_;clear H a;intro a H
 refine bB H rfl S Bs wH Zj G G G G G G G G G ?_;clear H a S;intro A1 _ a hA1 S H
 replace S:=S.recell (i:=0) rfl (cell':=bcl [(decide (1≤hz)&&decide (hz≤8)),(decide (1≤(sw.length:Int))&&decide ((sw.length:Int)≤12)),(decide (1≤(ws.length:Int))&&decide ((ws.length:Int)≤24))]) (Ww G G G)
 refine ls 1 H<|sr 1 rfl<|sE ?_;clear H a;intro a H
 refine k2 _ _ ?_;clear k2 K2
 refine wp_seq_k fun K3 k3=>?_
 replace H:=H.keep [1,3] rfl
 refine seq_list fun K4 k4=>?_
 refine ls 1 H<|sr 1 rfl<|sE ?_;clear H a;intro a H
 refine aA H G G Tryz.func149 G G (uR [(decide (1≤hz)&&decide (hz≤8)),(decide (1≤(sw.length:Int))&&decide ((sw.length:Int)≤12)),(decide (1≤(ws.length:Int))&&decide ((ws.length:Int)≤24))] _ _ _ (ownM.inS S (i:=0) rfl) (by simp)) ?_;clear H a
 rintro _ _ a ⟨rfl,S2⟩ H
 replace S:=S.call S2;clear S2
 rw [Wx] at H
 refine ls 1 H<|sr 1 rfl<|sE ?_;clear H a;intro a H
 apply cI (i:=2) (g:=40) (t:=44) (b:=false) 4 H S G G (by kernel_rfl) (by kernel_rfl) G G
 case h1=>
  intro hg3
  refine ls 3 H<|sy hg3<|sf iM rfl<|sy hg3<|sl S 1 bR G G G<|sy hg3<|sr 1 rfl<|sE ?_;intro a H
  refine dB H G G (by assumption) ?_
  have S1:=(S.sel [1] G G)
  refine aA H G G Tryz.func43 G G (Td hz sw SA sc ws QA qc b1 _ _ S1.startR (hsw.nowR S1) hsn (by have:=Ui (hz:=hz) (sw:=sw) (ws:=ws) (by simpa using hg3);omega)) ?_
  rintro _ _ a ⟨rfl,S2⟩ H
  replace S:=(S.sel [1,0] G G).callR (M:=[_]) S2;clear S1 S2
  exact wpList_nil ⟨H.strip 4 G G,(S.sel [1,0] G G)⟩
 clear H a S;intro a _ H S
 refine ls 1 H<|so G G G<|sE ?_;clear H a;intro a H
 refine k4 _ _ ?_;clear k4 K4
 refine cond_ H rfl (fun hc1=>?_) (fun hc1=>?_)
 ·skip
  try simp only [o1,o2,o3,o4,o5,o6,o7,o8,o9,oa] at hc1
  refine sS H fun K5 k5=>sr 1 rfl<|sE ?_;clear H a;intro a H
  refine k5 _ ?_;clear k5 K5
  refine wp_ret ?_
  refine ret1 (fn:=Tryz.f120) rfl H rfl ?_
  rw [show circE hz sw ws=30 from hc1.elim Ny Nz];exact ⟨rfl,(S.sel [] G G)⟩
 try simp only [o1,o2,o3,o4,o5,o6,o7,o8,o9,oa] at hc1
 refine wp_skip ?_
 refine k3 _ _ ?_
 obtain ⟨hS1,hS2,hS3⟩:=Ui hc1.1
 replace H:=H.keep [1] rfl
 refine seq_list fun K6 k6=>?_
 refine ls 3 H<|sf jF rfl<|sl S 1 kV G G G<|sL kZ rfl<|sE ?_;clear H a;intro a H
 refine kB (n:=ws.length) H rfl S aW bC fG nF rfl (by decide) G G (by omega) (by omega) ?_;clear H a S;intro A2 _ a hA2 S H
 generalize A2=AH at S H
 replace S:=S.recell (i:=0) rfl (cell':=fun k _ => .int .i64 (heldN ws k 0)) (fun k j _ hj=>by
   obtain rfl:j=0:=by omega
   rfl)
 refine ls 1 H<|sr 1 rfl<|sE ?_;clear H a;intro a H
 refine k6 _ _ ?_;clear k6 K6
 refine wp_seq_k fun K7 k7=>?_
 refine sS H fun K8 k8=>sf jF rfl<|sl S 2 kV G G G<|sL kZ rfl<|sr 1 rfl<|sE ?_;clear H a;intro a H
 refine k8 _ ?_;clear k8 K8
 refine wp_block ?_
 refine loop_st (X:=Nat) (R0:=_) [1,4,51,52] H rfl (fun i=>[(53,.int .i64 (i:Int))]) (fun i=>[ownM 3 1 AH ws.length ws.length (fun k _ => .int .i64 (heldN ws k i))]) (fun g i=>i≤ws.length∧g+i=ws.length∧∀ q,q<i→wrOk sw.length ws.length ws q=true) (ws.length) 0 ?_ (S.sel [0,1,2] G G) (H.keep [53,1,4,51,52] rfl) ?_
 · exact ⟨by omega,by omega,fun q hq=>absurd hq (Nat.not_lt_zero q)⟩
 clear H S a
 intro g1 x1 a w1 hp S H K9 k9
 obtain ⟨i,rfl⟩:∃ y,y=x1:=⟨_,rfl⟩
 obtain ⟨hi1,hi2,hwk⟩:=hp
 refine sS H fun K10 k10=>sr 1 rfl<|sE ?_;clear H a;intro a H
 refine k10 _ ?_;clear k10 K10
 refine wp_seq_k fun K11 k11=>?_
 refine condL H rfl (fun hc2=>?_) (fun hc2=>?_)
 ·skip
  refine wp_skip ?_
  refine k11 _ _ ?_
  refine wp_seq_k fun K12 k12=>?_
  refine wp_block ?_
  refine seq_list fun K13 k13=>?_
  refine ls 3 H<|sr 1 rfl<|si kZ nE G G (hws.adr (by omega)) (by omega)<|sd ((aU Dr nE rfl S hws (by omega) (by omega)))<|sE ?_;clear H a;intro a H
  refine aI H rfl S wV ?_;clear H a S;intro b6 _ a hb6 hbw6 S H
  refine ls 1 H<|sr 1 rfl<|sE ?_;clear H a;intro a H
  refine aB H S (i:=0) G G G G nE G G ?_
  clear H a S;intro _ a S H
  refine k13 _ _ ?_;clear k13 K13
  refine sS H fun K14 k14=>sf zB rfl<|sl S 0 aD G G G<|sE ?_;clear H a;intro a H
  refine k14 _ ?_;clear k14 K14
  refine wp_block ?_
  replace H:=H.keep [1,4,5,6,51,52,53,59] rfl
  refine sS H fun K15 k15=>sr 2 rfl<|sE ?_;clear H a;intro a H
  refine k15 _ ?_;clear k15 K15
  refine condE H rfl (fun hc3=>?_) (fun hc3=>?_)
  ·skip
   replace H:=H.keep [1,4,6,51,52,53] rfl
   refine seq_list fun K16 k16=>?_
   refine ls 5 H<|sf eI rfl<|sl S 0 bR G G G<|sL aW rfl<|sr 2 rfl<|sE ?_;clear H a;intro a H
   apply cI (i:=4) (g:=66) (t:=73) (b:=false) 7 H S G G (by kernel_rfl) (by kernel_rfl) G G
   case h1=>
    intro hg5
    refine ls 5 H<|sy hg5<|sf eI rfl<|sy hg5<|sl S 0 bR G G G<|sy hg5<|sf iM rfl<|sy hg5<|sl S 3 bR G G G<|sy hg5<|sL aW rfl<|sE ?_;intro a H
    refine dB H G G (by assumption) ?_
    refine aA H G G Tryz.func152 G G (jY (ws.getD i Wr.zero).of (OA i) (oc i) _ _ _ ((hof i (by omega)).now S) (hofn i (by omega)) (by omega) (by omega)) ?_
    rintro _ _ a ⟨rfl,S2⟩ H
    replace S:=S.call S2;clear S2
    refine ls 1 H<|sy hg5<|sr 1 rfl<|sE ?_;intro a H
    exact wpList_nil ⟨H.strip 7 G G,(S.sel [0,1,2,3] G G)⟩
   clear H a S;intro a _ H S
   refine ls 1 H<|so G G G<|sE ?_;clear H a;intro a H
   refine k16 _ _ ?_;clear k16 K16
   refine cond_ H rfl (fun hc4=>?_) (fun hc4=>?_)
   ·skip
    try simp only [o1,o2,o3,o4,o5,o6,o7,o8,o9,oa] at hc4
    replace H:=H.keep [] rfl
    refine sS H fun K17 k17=>sr 1 rfl<|sE ?_;clear H a;intro a H
    refine k17 _ ?_;clear k17 K17
    refine wp_ret ?_
    refine ret1 (fn:=Tryz.f120) rfl H rfl ?_
    rw [pK (by omega) (Dc hc3 hc4)];exact ⟨rfl,(S.sel [] G G)⟩
   try simp only [o1,o2,o3,o4,o5,o6,o7,o8,o9,oa] at hc4
   refine wp_skip ?_
   refine k12 _ _ ?_
   replace S:=S.recell (i:=1) rfl (cell':=fun k _ => .int .i64 (heldN ws k (i+1))) (fun k j _ _=>congrArg (Value.int .i64) (by first|exact uI hc3|exact qH hc3 (by omega)))
   refine sO H<|sd (aK G G (by unfold i64ok;omega))<|sr 1 rfl<|sE ?_;clear H a;intro a H
   exact k9 (g1-1) (i+1) a _ (by omega) (⟨by omega,by omega,fun q hq=>if h9:q<i then hwk q h9 else by
         obtain rfl:q=i:=by omega
         first|exact Db hc3 (by omega) hc4.2|exact mS hc3 (.inl hc5) (by omega) hc7.2|exact mS hc3 (.inr hc9) (by omega) hc10.2⟩) (S.sel [1,2,3] G G) (H.keep [53,1,4,51,52] rfl)
  refine wp_seq_k fun K19 k19=>?_
  refine sS H fun K20 k20=>sr 2 rfl<|sE ?_;clear H a;intro a H
  refine k20 _ ?_;clear k20 K20
  refine condE H rfl (fun hc5=>?_) (fun hc5=>?_)
  ·skip
   refine wp_skip ?_
   refine k19 _ _ ?_
   refine cond_ H rfl (fun hc6=>?_) (fun hc6=>?_)
   ·skip
    try simp only [o1,o2,o3,o4,o5,o6,o7,o8,o9,oa] at hc6
    refine wp_seq_k fun K21 k21=>?_
    replace H:=H.keep [1,4,5,6,51,52,53] rfl
    refine seq_list fun K22 k22=>?_
    refine ls 11 H<|sf eI rfl<|sl S 0 bR G G G<|sL aW rfl<|sr 2 rfl<|sg 4 4 82 86 false G G (fun hg5=>sy hg5<|sf eI rfl<|sy hg5<|sl S 0 bR G G G<|sy hg5<|sL aW rfl<|sy hg5<|sr 1 rfl<|sz 4 G G G)<|so G G G<|sr 1 rfl<|sE ?_;clear H a;intro a H
    apply cI (i:=10) (g:=88) (t:=97) (b:=false) 9 H S G G (by kernel_rfl) (by kernel_rfl) G G
    case h1=>
     intro hg11
     refine ls 7 H<|sy hg11<|sf eI rfl<|sy hg11<|sl S 0 bR G G G<|sy hg11<|sr 1 rfl<|sy hg11<|sd (aK G G (by unfold i64ok;omega))<|sy hg11<|sf jF rfl<|sy hg11<|sl S 3 kV G G G<|sy hg11<|sL kZ rfl<|sE ?_;intro a H
     refine dB H G G (by assumption) ?_
     refine aA H G G Tryz.func152 G G (jY (ws.getD i Wr.zero).of (OA i) (oc i) _ _ _ ((hof i (by omega)).now S) (hofn i (by omega)) (by omega) (by omega)) ?_
     rintro _ _ a ⟨rfl,S2⟩ H
     replace S:=S.call S2;clear S2
     refine ls 1 H<|sy hg11<|sr 1 rfl<|sE ?_;intro a H
     exact wpList_nil ⟨H.strip 9 G G,(S.sel [0,1,2,3] G G)⟩
    clear H a S;intro a _ H S
    refine ls 1 H<|so G G G<|sE ?_;clear H a;intro a H
    refine k22 _ _ ?_;clear k22 K22
    refine cond_ H rfl (fun hc7=>?_) (fun hc7=>?_)
    ·skip
     try simp only [o1,o2,o3,o4,o5,o6,o7,o8,o9,oa] at hc7
     replace H:=H.keep [] rfl
     refine sS H fun K23 k23=>sr 1 rfl<|sE ?_;clear H a;intro a H
     refine k23 _ ?_;clear k23 K23
     refine wp_ret ?_
     refine ret1 (fn:=Tryz.f120) rfl H rfl ?_
     rw [pK (by omega) (qV hc3 (.inl hc5) hc7)];exact ⟨rfl,(S.sel [] G G)⟩
    try simp only [o1,o2,o3,o4,o5,o6,o7,o8,o9,oa] at hc7
    refine wp_skip ?_
    refine k21 _ _ ?_
    refine sS H fun K24 k24=>sf eI rfl<|sl S 0 bR G G G<|sL aW rfl<|sr 1 rfl<|sE ?_;clear H a;intro a H
    refine k24 _ ?_;clear k24 K24
    refine wp_block ?_
    replace S:=S.recell (i:=1) rfl (cell':=fun k _ => .int .i64 (heldN ws k i+cntO (ws.getD i Wr.zero).of k 0)) (fun k j _ hj=>congrArg (Value.int .i64) (Int.add_zero _).symm)
    refine loop_st (X:=Nat) (R0:=_) [1,4,51,52,53,100,101] H rfl (fun q=>[(102,.int .i64 (q:Int))]) (fun q=>[ownM 3 1 AH ws.length ws.length (fun k _ => .int .i64 (heldN ws k i+cntO (ws.getD i Wr.zero).of k q))]) (fun g q=>q≤(ws.getD i Wr.zero).of.length∧g+q=(ws.getD i Wr.zero).of.length) ((ws.getD i Wr.zero).of.length) 0 ?_ (S.sel [1,0,2,3] G G) (H.keep [102,1,4,51,52,53,100,101] rfl) ?_
    · exact ⟨by omega,by omega⟩
    clear H S a
    intro g2 x2 a w2 hp S H K25 k25
    obtain ⟨q,rfl⟩:∃ y,y=x2:=⟨_,rfl⟩
    refine sS H fun K26 k26=>sr 1 rfl<|sE ?_;clear H a;intro a H
    refine k26 _ ?_;clear k26 K26
    refine wp_seq_k fun K27 k27=>?_
    refine condL H rfl (fun hc8=>?_) (fun hc8=>?_)
    ·skip
     refine wp_skip ?_
     refine k27 _ _ ?_
     refine wp_seq_k fun K28 k28=>?_
     refine wp_block ?_
     refine sS H fun K29 k29=>si aW bC G G ((hof i (by omega)).adr (by omega)) (by omega)<|slm aD rfl ((hof i (by omega)).rd S (by omega) (by omega))<|sr 1 rfl<|sE ?_;clear H a;intro a H
     refine k29 _ ?_;clear k29 K29
     have hhb:=Ey (sw:=sw) (ws:=ws) ((ws.getD i Wr.zero).of.getD q 0).toNat i hwk
     have hcb:=xT (l:=(ws.getD i Wr.zero).of) (k:=((ws.getD i Wr.zero).of.getD q 0).toNat) q
     have hxb:(i:Int)+1≤(ws.getD i Wr.zero).of.getD q 0∧(ws.getD i Wr.zero).of.getD q 0<(ws.length:Int):=by first|exact qG hc7.2 (k:=q) (by omega)|exact qG hc10.2 (k:=q) (by omega)
     replace H:=H.keep [1,4,8,51,52,53,100,101,102] rfl
     refine one_list ?_
     refine ls 6 H<|sr 2 rfl<|sI aW bC G G (ownM.adr S (i:=0) rfl (by omega)) (by omega) (by omega)<|slm aD rfl (ownM.rd S (i:=0) rfl (by omega) (by omega))<|sd (aK G G (by unfold i64ok;omega))<|sI aW bC G G (ownM.adr S (i:=0) rfl (by omega)) (by omega) (by omega)<|sE ?_;clear H a;intro a H
     refine cQ H S (i:=0) G G G (by omega) (by omega) bC rfl ?_
     clear H a S;intro _ a S H
     replace S:=S.recell (i:=0) rfl (cell':=fun k _ => .int .i64 (heldN ws k i+cntO (ws.getD i Wr.zero).of k (q+1))) (fun k j _ hj=>As (by omega) hj)
     refine k28 _ _ ?_
     refine sO H<|sd (aK G G (by unfold i64ok;omega))<|sr 1 rfl<|sE ?_;clear H a;intro a H
     exact k25 (g2-1) (q+1) a _ (by omega) (⟨by omega,by omega⟩) (S.sel [0,1,2,3] G G) (H.keep [102,1,4,51,52,53,100,101] rfl)
    refine wp_exit ?_
    refine k12 _ _ ?_
    replace S:=S.recell (i:=0) rfl (cell':=fun k _ => .int .i64 (heldN ws k (i+1))) (fun k j _ _=>congrArg (Value.int .i64) (by first|exact uI hc3|exact qH hc3 (by omega)))
    replace H:=H.keep [1,4,51,52,53] rfl
    refine sO H<|sd (aK G G (by unfold i64ok;omega))<|sr 1 rfl<|sE ?_;clear H a;intro a H
    exact k9 (g1-1) (i+1) a _ (by omega) (⟨by omega,by omega,fun q hq=>if h9:q<i then hwk q h9 else by
          obtain rfl:q=i:=by omega
          first|exact Db hc3 (by omega) hc4.2|exact mS hc3 (.inl hc5) (by omega) hc7.2|exact mS hc3 (.inr hc9) (by omega) hc10.2⟩) (S.sel [0,2,3] G G) (H.keep [53,1,4,51,52] rfl)
   try simp only [o1,o2,o3,o4,o5,o6,o7,o8,o9,oa] at hc6
   refine sS H fun K33 k33=>sr 1 rfl<|sE ?_;clear H a;intro a H
   refine k33 _ ?_;clear k33 K33
   refine wp_ret ?_
   refine ret1 (fn:=Tryz.f120) rfl H rfl ?_
   exact absurd hc5 hc6
  refine sO H<|sr 2 rfl<|sE ?_;clear H a;intro a H
  refine k19 _ _ ?_
  refine condE H rfl (fun hc9=>?_) (fun hc9=>?_)
  ·skip
   refine wp_seq_k fun K35 k35=>?_
   replace H:=H.keep [1,4,5,6,51,52,53] rfl
   refine seq_list fun K36 k36=>?_
   refine ls 11 H<|sf eI rfl<|sl S 0 bR G G G<|sL aW rfl<|sr 2 rfl<|sg 4 4 82 86 false G G (fun hg5=>sy hg5<|sf eI rfl<|sy hg5<|sl S 0 bR G G G<|sy hg5<|sL aW rfl<|sy hg5<|sr 1 rfl<|sz 4 G G G)<|so G G G<|sr 1 rfl<|sE ?_;clear H a;intro a H
   apply cI (i:=10) (g:=88) (t:=97) (b:=false) 9 H S G G (by kernel_rfl) (by kernel_rfl) G G
   case h1=>
    intro hg11
    refine ls 7 H<|sy hg11<|sf eI rfl<|sy hg11<|sl S 0 bR G G G<|sy hg11<|sr 1 rfl<|sy hg11<|sd (aK G G (by unfold i64ok;omega))<|sy hg11<|sf jF rfl<|sy hg11<|sl S 3 kV G G G<|sy hg11<|sL kZ rfl<|sE ?_;intro a H
    refine dB H G G (by assumption) ?_
    refine aA H G G Tryz.func152 G G (jY (ws.getD i Wr.zero).of (OA i) (oc i) _ _ _ ((hof i (by omega)).now S) (hofn i (by omega)) (by omega) (by omega)) ?_
    rintro _ _ a ⟨rfl,S2⟩ H
    replace S:=S.call S2;clear S2
    refine ls 1 H<|sy hg11<|sr 1 rfl<|sE ?_;intro a H
    exact wpList_nil ⟨H.strip 9 G G,(S.sel [0,1,2,3] G G)⟩
   clear H a S;intro a _ H S
   refine ls 1 H<|so G G G<|sE ?_;clear H a;intro a H
   refine k36 _ _ ?_;clear k36 K36
   refine cond_ H rfl (fun hc10=>?_) (fun hc10=>?_)
   ·skip
    try simp only [o1,o2,o3,o4,o5,o6,o7,o8,o9,oa] at hc10
    replace H:=H.keep [] rfl
    refine sS H fun K37 k37=>sr 1 rfl<|sE ?_;clear H a;intro a H
    refine k37 _ ?_;clear k37 K37
    refine wp_ret ?_
    refine ret1 (fn:=Tryz.f120) rfl H rfl ?_
    rw [pK (by omega) (qV hc3 (.inr hc9) hc10)];exact ⟨rfl,(S.sel [] G G)⟩
   try simp only [o1,o2,o3,o4,o5,o6,o7,o8,o9,oa] at hc10
   refine wp_skip ?_
   refine k35 _ _ ?_
   refine sS H fun K38 k38=>sf eI rfl<|sl S 0 bR G G G<|sL aW rfl<|sr 1 rfl<|sE ?_;clear H a;intro a H
   refine k38 _ ?_;clear k38 K38
   refine wp_block ?_
   replace S:=S.recell (i:=1) rfl (cell':=fun k _ => .int .i64 (heldN ws k i+cntO (ws.getD i Wr.zero).of k 0)) (fun k j _ hj=>congrArg (Value.int .i64) (Int.add_zero _).symm)
   refine loop_st (X:=Nat) (R0:=_) [1,4,51,52,53,100,101] H rfl (fun q=>[(102,.int .i64 (q:Int))]) (fun q=>[ownM 3 1 AH ws.length ws.length (fun k _ => .int .i64 (heldN ws k i+cntO (ws.getD i Wr.zero).of k q))]) (fun g q=>q≤(ws.getD i Wr.zero).of.length∧g+q=(ws.getD i Wr.zero).of.length) ((ws.getD i Wr.zero).of.length) 0 ?_ (S.sel [1,0,2,3] G G) (H.keep [102,1,4,51,52,53,100,101] rfl) ?_
   · exact ⟨by omega,by omega⟩
   clear H S a
   intro g3 x3 a w3 hp S H K39 k39
   obtain ⟨q,rfl⟩:∃ y,y=x3:=⟨_,rfl⟩
   refine sS H fun K40 k40=>sr 1 rfl<|sE ?_;clear H a;intro a H
   refine k40 _ ?_;clear k40 K40
   refine wp_seq_k fun K41 k41=>?_
   refine condL H rfl (fun hc11=>?_) (fun hc11=>?_)
   ·skip
    refine wp_skip ?_
    refine k41 _ _ ?_
    refine wp_seq_k fun K42 k42=>?_
    refine wp_block ?_
    refine sS H fun K43 k43=>si aW bC G G ((hof i (by omega)).adr (by omega)) (by omega)<|slm aD rfl ((hof i (by omega)).rd S (by omega) (by omega))<|sr 1 rfl<|sE ?_;clear H a;intro a H
    refine k43 _ ?_;clear k43 K43
    have hhb:=Ey (sw:=sw) (ws:=ws) ((ws.getD i Wr.zero).of.getD q 0).toNat i hwk
    have hcb:=xT (l:=(ws.getD i Wr.zero).of) (k:=((ws.getD i Wr.zero).of.getD q 0).toNat) q
    have hxb:(i:Int)+1≤(ws.getD i Wr.zero).of.getD q 0∧(ws.getD i Wr.zero).of.getD q 0<(ws.length:Int):=by first|exact qG hc7.2 (k:=q) (by omega)|exact qG hc10.2 (k:=q) (by omega)
    replace H:=H.keep [1,4,8,51,52,53,100,101,102] rfl
    refine one_list ?_
    refine ls 6 H<|sr 2 rfl<|sI aW bC G G (ownM.adr S (i:=0) rfl (by omega)) (by omega) (by omega)<|slm aD rfl (ownM.rd S (i:=0) rfl (by omega) (by omega))<|sd (aK G G (by unfold i64ok;omega))<|sI aW bC G G (ownM.adr S (i:=0) rfl (by omega)) (by omega) (by omega)<|sE ?_;clear H a;intro a H
    refine cQ H S (i:=0) G G G (by omega) (by omega) bC rfl ?_
    clear H a S;intro _ a S H
    replace S:=S.recell (i:=0) rfl (cell':=fun k _ => .int .i64 (heldN ws k i+cntO (ws.getD i Wr.zero).of k (q+1))) (fun k j _ hj=>As (by omega) hj)
    refine k42 _ _ ?_
    refine sO H<|sd (aK G G (by unfold i64ok;omega))<|sr 1 rfl<|sE ?_;clear H a;intro a H
    exact k39 (g3-1) (q+1) a _ (by omega) (⟨by omega,by omega⟩) (S.sel [0,1,2,3] G G) (H.keep [102,1,4,51,52,53,100,101] rfl)
   refine wp_exit ?_
   refine k12 _ _ ?_
   replace S:=S.recell (i:=0) rfl (cell':=fun k _ => .int .i64 (heldN ws k (i+1))) (fun k j _ _=>congrArg (Value.int .i64) (by first|exact uI hc3|exact qH hc3 (by omega)))
   replace H:=H.keep [1,4,51,52,53] rfl
   refine sO H<|sd (aK G G (by unfold i64ok;omega))<|sr 1 rfl<|sE ?_;clear H a;intro a H
   exact k9 (g1-1) (i+1) a _ (by omega) (⟨by omega,by omega,fun q hq=>if h9:q<i then hwk q h9 else by
         obtain rfl:q=i:=by omega
         first|exact Db hc3 (by omega) hc4.2|exact mS hc3 (.inl hc5) (by omega) hc7.2|exact mS hc3 (.inr hc9) (by omega) hc10.2⟩) (S.sel [0,2,3] G G) (H.keep [53,1,4,51,52] rfl)
  refine sS H fun K47 k47=>sr 1 rfl<|sE ?_;clear H a;intro a H
  refine k47 _ ?_;clear k47 K47
  refine wp_ret ?_
  refine ret1 (fn:=Tryz.f120) rfl H rfl ?_
  rw [pK (by omega) (Tf hc3 hc5 hc9)];exact ⟨rfl,(S.sel [] G G)⟩
 refine wp_exit ?_
 refine k7 _ _ ?_
 refine wp_seq_k fun K48 k48=>?_
 obtain rfl:i=ws.length:=by omega
 replace H:=H.keep [4] rfl
 refine seq_list fun K49 k49=>?_
 refine ls 5 H<|sr 1 rfl<|sI aW bC G G (ownM.adr S (i:=0) rfl (by omega)) (by omega) (by omega)<|slm aD rfl (ownM.rd S (i:=0) rfl (by omega) (by omega))<|sr 2 rfl<|sE ?_;clear H a;intro a H
 apply cI (i:=4) (g:=118) (t:=121) (b:=false) 3 H S G G (by kernel_rfl) (by kernel_rfl) G G
 case h1=>
  intro hg5
  refine ls 2 H<|sy hg5<|sr 1 rfl<|sy hg5<|sd (Does.to (Bl aW bC rfl (lo:=1) (hi:=ws.length) (.inr ⟨_,rfl,_,rfl⟩) (.inl ⟨rfl,rfl⟩) (by omega) (by omega)) (show _=Value.slice (cutA AH ws.length 1 1) ((List.range (ws.length-1)).map fun q=>heldN ws (q+1) ws.length).length (ws.length-1) from by rw [mT]))<|sE ?_;intro a H
  refine dB H G G (by assumption) ?_
  refine aA H G G Tryz.func43 G G (Te ((List.range (ws.length-1)).map fun q=>heldN ws (q+1) ws.length) (cutA AH ws.length 1 1) (ws.length-1) _ (Oe (ownM.inS S (i:=0) rfl) (by omega)) (by rw [mT];omega)) ?_
  rintro _ _ a ⟨rfl,S2⟩ H
  replace S:=S.call S2;clear S2
  exact wpList_nil ⟨H.strip 3 G G,(S.sel [0,1,2] G G)⟩
 clear H a S;intro a _ H S
 refine ls 1 H<|so G G G<|sE ?_;clear H a;intro a H
 refine k49 _ _ ?_;clear k49 K49
 refine cond_ H rfl (fun hc12=>?_) (fun hc12=>?_)
 ·skip
  try simp only [o1,o2,o3,o4,o5,o6,o7,o8,o9,oa] at hc12
  replace H:=H.keep [] rfl
  refine sS H fun K50 k50=>sr 1 rfl<|sE ?_;clear H a;intro a H
  refine k50 _ ?_;clear k50 K50
  refine wp_ret ?_
  refine ret1 (fn:=Tryz.f120) rfl H rfl ?_
  rw [show circE hz sw ws=30 from hc12.elim Oa (fun h=>Ob (by rw [←vS];exact h))];exact ⟨rfl,(S.sel [] G G)⟩
 try simp only [o1,o2,o3,o4,o5,o6,o7,o8,o9,oa] at hc12
 refine wp_skip ?_
 refine k48 _ _ ?_
 refine sS H fun K51 k51=>sr 1 rfl<|sE ?_;clear H a;intro a H
 refine k51 _ ?_;clear k51 K51
 refine wp_ret ?_
 refine ret1 (fn:=Tryz.f120) rfl H rfl ?_
 rw [Oc hc1.1 hc1.2 hwk hc12.1 (by rw [←vS];exact hc12.2)];exact ⟨rfl,(S.sel [] G G)⟩
end
section
theorem Ez {hz:Int} {sw:List Int} {ws:List Wr} (V:CirV hz sw ws):∀ k,k<ws.length→(ws.getD k Wr.zero).of.length≤9223372036854775807:=fun k hk=>by
  by_cases h:(ws.getD k Wr.zero).kind=1
  · have:=V.one k hk h;omega
  · have:=V.more k hk h;omega
def hasC (l:List Int) (x:Int):Bool:=l.any fun y=>decide (x=y)
theorem Iq {l:List Int} {x:Int} {k:Nat} (hk:k<l.length) (h:(l.take k).any (fun y=>decide (x=y))=false) (hx:¬ x=l.getD k 0):(l.take (k+1)).any (fun y=>decide (x=y))=false:=by
  rw [List.take_succ_eq_append_getElem hk,List.any_append,h]
  rw [List.getD_eq_getElem?_getD,List.getElem?_eq_getElem hk] at hx
  simpa using hx
theorem Tg {l:List Int} {x:Int} {k:Nat} (hk:k<l.length) (hx:x=l.getD k 0):hasC l x=true:=by
  rw [List.getD_eq_getElem?_getD,List.getElem?_eq_getElem hk] at hx
  unfold hasC
  rw [List.any_eq_true]
  exact ⟨l[k],List.getElem_mem hk,by simpa using hx⟩
def lorI (a b:Int):Int:=((a.toNat ||| b.toNat:Nat):Int)
theorem Fa {a b:Int} (ha:0≤a∧a≤2048) (hb:0≤b∧b≤2048):0≤lorI a b∧lorI a b≤4095:=by
  have:=Nat.or_lt_two_pow (x:=a.toNat) (y:=b.toNat) (n:=12) (by omega) (by omega)
  unfold lorI
  omega
section
variable {P:Program} {L:List (Nat×Value)} {w:World} {d:Option Nat} {ty:TypeId} {pos:String} {af:Array Edge} {g:Option (Nat×Bool)}
theorem Of {x y:Operand} {xt yt:TypeId} {m k:Int} (hx:ev L x=some (.int .i64 m)) (hy:ev L y=some (.int .i64 k)) (hm:0≤m∧m≤2048) (hk:0≤k∧k≤2048) :
    Does P L ⟨d,.binOp .or xt x y yt,ty,pos,af,g⟩ w (.int .i64 (lorI m k)):=fun ρ hρ=>by
  have hb:=Fa hm hk
  obtain ⟨m,rfl⟩:∃ n:Nat,m=n:=⟨m.toNat,by omega⟩
  obtain ⟨k,rfl⟩:∃ n:Nat,k=n:=⟨k.toNat,by omega⟩
  have e0:((BitVec.ofInt 64 (m:Int) ||| BitVec.ofInt 64 (k:Int)).toNat)=m ||| k:=by
    rw [BitVec.toNat_or,BitVec.ofInt_natCast,BitVec.ofInt_natCast,BitVec.toNat_ofNat,BitVec.toNat_ofNat,Nat.mod_eq_of_lt (by omega),Nat.mod_eq_of_lt (by omega)]
  have e1:IntKind.i64.wrap ((BitVec.ofInt 64 (m:Int) ||| BitVec.ofInt 64 (k:Int)).toNat:Int)=((m ||| k:Nat):Int):=by
    rw [e0];unfold lorI at hb;rw [Int.toNat_natCast,Int.toNat_natCast] at hb;exact i64ok.eq ⟨by omega,by omega⟩
  have e:Op.intBits .or .i64 (m:Int) (k:Int)=pure (.int .i64 (lorI m k)):=by
    unfold lorI
    rw [Int.toNat_natCast,Int.toNat_natCast]
    exact congrArg (fun z=>(pure (Value.int .i64 z):Sem Value)) e1
  simp [execOp,hρ _ _ hx,hρ _ _ hy,eqGuard,binOp,e]
end
def pairB (hz:Int) (sw:List Int) (ws:List Wr) (al:List Int) (a b:Int):Bool:=(!hasC al a&&!hasC al b)&&decide (0<(wkN hz sw ws (lorI (1*2^a.toNat) (1*2^b.toNat)) hz.toNat).length)
def pcIn (hz:Int) (sw:List Int) (ws:List Wr) (al:List Int) (a:Nat):Nat→Nat
  | 0=>0
  | q+1=>if pairB hz sw ws al (a:Int) ((a:Int)+1+(q:Int))=true then pcIn hz sw ws al a q+1 else pcIn hz sw ws al a q
def pcOut (hz:Int) (sw:List Int) (ws:List Wr) (al:List Int):Nat→Nat
  | 0=>0
  | a+1=>pcOut hz sw ws al a+pcIn hz sw ws al a (sw.length-(a+1))
theorem Fb {hz:Int} {sw:List Int} {ws:List Wr} {al:List Int} {a:Nat}:∀ q,pcIn hz sw ws al a q≤q:=fun q=>by
  induction q with
  | zero=>exact Nat.le_refl _
  | succ q ih=>rw [pcIn];split <;> omega
theorem Og {hz:Int} {sw:List Int} {ws:List Wr} {al:List Int}:∀ a,pcOut hz sw ws al a≤a*sw.length:=fun a=>by
  induction a with
  | zero=>exact Nat.zero_le _
  | succ a ih=>
    have:=Fb (hz:=hz) (sw:=sw) (ws:=ws) (al:=al) (a:=a) (sw.length-(a+1))
    rw [pcOut,Nat.succ_mul];omega
theorem Ir (l:List Int) (A:Option Addr) (cp:Nat) (x:Int) (w:World) (hl:InS w noF 1 A l.length (icl l)) (hn:l.length≤9223372036854775807) :
    Calls Tryz.prog 121 [.slice A l.length cp,.int .i64 x].toArray w (Ret (fun u w'=>∃ n:Int,u = .int .i64 n∧decide (0≤n)=hasC l x∧St w noF [] w')):=by
 refine enter Tryz.func121 rfl Tryz.ntmps121 rfl (fun a H=>?_)
 have S:=St.start w
 refine sS H fun K1 k1=>sr 1 rfl<|sE ?_;clear H a;intro a H
 refine k1 _ ?_;clear k1 K1
 refine wp_seq_k fun K2 k2=>?_
 refine sS H fun K3 k3=>sr 1 rfl<|sL aW rfl<|sr 1 rfl<|sE ?_;clear H a;intro a H
 refine k3 _ ?_;clear k3 K3
 refine wp_block ?_
 refine loop_st (X:=Nat) (R0:=_) [0,1,7] H rfl (fun k=>[(8,.int .i64 (k:Int))]) (fun k=>[]) (fun g k=>k≤l.length∧g+k=l.length∧(l.take k).any (fun y=>decide (x=y))=false) (l.length) 0 ?_ (S.sel [] G G) (H.keep [8,0,1,7] rfl) ?_
 · exact ⟨by omega,by omega,rfl⟩
 clear H S a
 intro g1 x1 a w1 hp S H K4 k4
 obtain ⟨k,rfl⟩:∃ y,y=x1:=⟨_,rfl⟩
 refine sS H fun K5 k5=>sr 1 rfl<|sE ?_;clear H a;intro a H
 refine k5 _ ?_;clear k5 K5
 refine wp_seq_k fun K6 k6=>?_
 refine condL H rfl (fun hc1=>?_) (fun hc1=>?_)
 ·skip
  refine wp_skip ?_
  refine k6 _ _ ?_
  refine wp_seq_k fun K7 k7=>?_
  refine wp_block ?_
  refine sS H fun K8 k8=>sr 2 rfl<|sE ?_;clear H a;intro a H
  refine k8 _ ?_;clear k8 K8
  refine sS H fun K9 k9=>sr 3 rfl<|si aW bC G G (hl.adr (by omega)) (by omega)<|slm aD rfl (hl.rd S (by omega) (by omega))<|sr 1 rfl<|sE ?_;clear H a;intro a H
  refine k9 _ ?_;clear k9 K9
  refine condE H rfl (fun hc2=>?_) (fun hc2=>?_)
  ·skip
   replace H:=H.keep [5] rfl
   refine sS H fun K10 k10=>sr 2 rfl<|sE ?_;clear H a;intro a H
   refine k10 _ ?_;clear k10 K10
   refine wp_ret ?_
   refine ret1 (fn:=Tryz.f121) rfl H rfl ?_
   exact ⟨_,rfl,by rw [Tg (k:=k) (by omega) hc2];exact decide_eq_true (by omega),(S.sel [] G G)⟩
  refine wp_skip ?_
  refine k7 _ _ ?_
  refine sO H<|sd (aK G G (by unfold i64ok;omega))<|sr 1 rfl<|sE ?_;clear H a;intro a H
  exact k4 (g1-1) (k+1) a _ (by omega) (⟨by omega,by omega,Iq (by omega) hp.2.2 hc2⟩) (S.sel [] G G) (H.keep [8,0,1,7] rfl)
 refine wp_exit ?_
 refine k2 _ _ ?_
 refine sS H fun K12 k12=>sr 1 rfl<|sE ?_;clear H a;intro a H
 refine k12 _ ?_;clear k12 K12
 refine wp_ret ?_
 refine ret1 (fn:=Tryz.f121) rfl H rfl ?_
 exact ⟨_,rfl,by unfold hasC;rw [←List.take_of_length_le (l:=l) (i:=k) (by omega),hp.2.2];rfl,(S.sel [] G G)⟩
theorem gU (l:List Int) (A:Option Addr) (cp:Nat) (x:Int) (w:World) (hl:InS w noF 1 A l.length (icl l)) (hn:l.length≤9223372036854775807) :
    Calls Tryz.prog 78 [.slice A l.length cp,.int .i64 x].toArray w (Ret (fun u w'=>u = .bool (hasC l x)∧St w noF [] w')):=by
 refine enter Tryz.func78 rfl Tryz.ntmps78 rfl (fun a H=>?_)
 have S:=St.start w
 refine sS H fun K1 k1=>sr 1 rfl<|sE ?_;clear H a;intro a H
 refine k1 _ ?_;clear k1 K1
 refine seq_list fun K2 k2=>?_
 refine ls 2 H<|sr 2 rfl<|sE ?_;clear H a;intro a H
 refine aA H G G Tryz.func121 G G (Ir l A cp x _ (hl.now S) hn) ?_;clear H a
 rintro _ _ a ⟨n,rfl,hn2,S2⟩ H
 replace S:=S.call S2;clear S2
 refine ls 2 H<|sr 2 rfl<|sE ?_;clear H a;intro a H
 refine k2 _ _ ?_;clear k2 K2
 refine wp_ret ?_
 refine ret1 (fn:=Tryz.f78) rfl H rfl ?_
 exact ⟨congrArg Value.bool hn2,(S.sel [] G G)⟩
theorem xU (hz:Int) (sw:List Int) (SA:Option Addr) (sc:Nat) (ws:List Wr) (QA:Option Addr) (qc:Nat) (OA:Nat→Option Addr) (oc:Nat→Nat) (w:World) (hsw:InS w noF 1 SA sw.length (icl sw)) (hws:InS w noF 2 QA ws.length (fY ws OA oc)) (hof:∀ k,k<ws.length→InS w noF 1 (OA k) (ws.getD k Wr.zero).of.length (icl (ws.getD k Wr.zero).of)) (hE:circE hz sw ws=0) :
    Calls Tryz.prog 77 [.agg [.int .i64 hz,.slice SA sw.length sc,.slice QA ws.length qc].toArray].toArray w (Ret (fun u w'=>∃ A' c',u = .tuple #[.slice A' (critN hz sw ws sw.length).length c',.int .i64 0]∧St w noF [ownM 3 1 A' (critN hz sw ws sw.length).length c' (icl (critN hz sw ws sw.length))] w')):=by
 have V:=uG (Ex hE)
 have hns:=V.nsw
 have hnw:=V.nws
 have hzb:=V.hzb
 have hof9:=Ez V
 refine enter Tryz.func77 rfl Tryz.ntmps77 rfl (fun a H=>?_)
 have S:=St.start w
 refine seq_list fun K1 k1=>?_
 refine aO H rfl S G G ?_;clear H a S;intro b1 _ a hb1 hbw1 S H
 refine ls 2 H<|sr 2 rfl<|sE ?_;clear H a;intro a H
 refine k1 _ _ ?_;clear k1 K1
 refine wp_seq_k fun K2 k2=>?_
 refine seq_list fun K3 k3=>?_
 refine ls 1 H<|sd ((aE dN cK rfl S (i:=0) G G))<|sE ?_;clear H a;intro a H
 refine aA H G G Tryz.func120 G G (Ip hz sw SA sc ws QA qc OA oc _ (hsw.now S) (hws.now S) (fun k hk=>(hof k hk).now S) (by omega) (by omega) hof9) ?_;clear H a
 rintro _ _ a ⟨rfl,S2⟩ H
 replace S:=S.call S2;clear S2
 refine ls 1 H<|sr 1 rfl<|sE ?_;clear H a;intro a H
 refine k3 _ _ ?_;clear k3 K3
 refine sS H fun K4 k4=>sr 2 rfl<|sE ?_;clear H a;intro a H
 refine k4 _ ?_;clear k4 K4
 refine condN H rfl (fun hc1=>?_) (fun hc1=>?_)
 ·skip
  replace H:=H.keep [4] rfl
  refine sS H fun K5 k5=>sr 3 rfl<|sE ?_;clear H a;intro a H
  refine k5 _ ?_;clear k5 K5
  refine wp_ret ?_
  refine ret2 (fn:=Tryz.f77) rfl H G G ?_
  exact absurd hE hc1
 refine wp_skip ?_
 refine k2 _ _ ?_
 refine sS H fun K6 k6=>sr 1 rfl<|sE ?_;clear H a;intro a H
 refine k6 _ ?_;clear k6 K6
 refine wp_seq_k fun K7 k7=>?_
 refine sS H fun K8 k8=>sf iM rfl<|sl S 0 bR G G G<|sL aW rfl<|sr 1 rfl<|sE ?_;clear H a;intro a H
 refine k8 _ ?_;clear k8 K8
 refine wp_block ?_
 replace S:=S.newNil 3 1 (icl [])
 refine loop_st (X:=Nat×List Int×Option Addr×Nat) (R0:=_) [1,14] H rfl (fun ⟨k,L9,A9,c9⟩=>[(5,.slice A9 L9.length c9),(15,.int .i64 (k:Int))]) (fun ⟨k,L9,A9,c9⟩=>[ownM 3 1 A9 L9.length c9 (icl L9)]) (fun g ⟨k,L9,A9,c9⟩=>k≤sw.length∧g+k=sw.length∧L9=critN hz sw ws k) (sw.length) (0,[],none,0) ?_ (S.sel [0,1] G G) (H.keep [5,15,1,14] rfl) ?_
 · exact ⟨by omega,by omega,rfl⟩
 clear H S a
 intro g1 x1 a w1 hp S H K9 k9
 obtain ⟨k,L9,A9,c9⟩:=x1
 dsimp only at hp S H
 refine sS H fun K10 k10=>sr 1 rfl<|sE ?_;clear H a;intro a H
 refine k10 _ ?_;clear k10 K10
 refine wp_seq_k fun K11 k11=>?_
 refine condL H rfl (fun hc2=>?_) (fun hc2=>?_)
 ·skip
  refine wp_skip ?_
  refine k11 _ _ ?_
  refine wp_seq_k fun K12 k12=>?_
  refine wp_block ?_
  refine sS H fun K13 k13=>sr 2 rfl<|sE ?_;clear H a;intro a H
  refine k13 _ ?_;clear k13 K13
  have hsh:=pwc (h:=k) (by omega)
  have hL9:L9.length≤k:=by rw [hp.2.2];exact vR k
  replace S:=S.drew
  refine seq_wq [(0,true),(1,true),(2,true),(3,false),(4,true),(5,true)] (by kernel_rfl) (by kernel_rfl) (S.sel [0,1] G G) fun K14 k14=>?_
  refine qF H<|qd rfl (fun _ S=>(aE dN cK rfl S (i:=1) G G))<|qr 1 rfl<|qd rfl (fun _ S=>dE G G (by omega) (by omega) (by unfold i64ok;omega))<|qK ?_;clear H a;intro a H
  refine aV rfl ?_
  refine aA H G G Tryz.func79 G G (Ar hz sw SA sc ws QA qc OA oc (1*2^(k:Int).toNat) _ (hsw.now S) (hws.now S) (fun k hk=>(hof k hk).now S) V (by omega)) ?_;clear H a
  rintro _ _ a ⟨A5,c5,rfl,S2⟩ H
  replace S:=S.call S2;clear S2
  refine wpList_nil (And.intro (S.sel [1,2] G G) ?_)
  refine qF H<|qd rfl (fun _ S=>cO aW rfl)<|qr 1 rfl<|qK ?_;clear H a;intro a H
  refine bO ?_
  refine k14 _ _ ?_
  clear k14 K14
  refine condL H rfl (fun hc3=>?_) (fun hc3=>?_)
  ·skip
   replace H:=H.keep [1,5,6,14,15] rfl
   refine one_list ?_
   refine ls 2 H<|sr 2 rfl<|sE ?_;clear H a;intro a H
   refine bB H rfl S aW bC fG G G G G G G G G G ?_;clear H a S;intro A1 _ a hA1 S H
   refine cB H rfl S aW bC fG nF G G (i:=2) G G G (ownM.inS S (i:=0) rfl) (jL (one rfl)) (by omega) (by omega) ?_;clear H a S;intro A2 c2 _ a S H
   replace S:=S.recell (i:=2) rfl (cell':=icl (L9++[(k:Int)])) (Aq rfl)
   rw [show L9.length+1=(L9++[(k:Int)]).length by simp] at H S
   refine ls 1 H<|sr 1 rfl<|sE ?_;clear H a;intro a H
   refine k12 _ _ ?_
   refine sO H<|sd (aK G G (by unfold i64ok;omega))<|sr 1 rfl<|sE ?_;clear H a;intro a H
   exact k9 (g1-1) (k+1,_,_,_) a _ (by omega) (⟨by omega,by omega,by rw [critN];first|rw [if_pos (by omega),←hp.2.2]|rw [if_neg (by omega),←hp.2.2]⟩) (S.sel [2,3] G G) (H.keep [5,15,1,14] rfl)
  refine wp_skip ?_
  refine k12 _ _ ?_
  refine sO H<|sd (aK G G (by unfold i64ok;omega))<|sr 1 rfl<|sE ?_;clear H a;intro a H
  exact k9 (g1-1) (k+1,_,_,_) a _ (by omega) (⟨by omega,by omega,by rw [critN];first|rw [if_pos (by omega),←hp.2.2]|rw [if_neg (by omega),←hp.2.2]⟩) (S.sel [1,2] G G) (H.keep [5,15,1,14] rfl)
 refine wp_exit ?_
 refine k7 _ _ ?_
 replace H:=H.keep [5] rfl
 refine sS H fun K18 k18=>sr 3 rfl<|sE ?_;clear H a;intro a H
 refine k18 _ ?_;clear k18 K18
 refine wp_ret ?_
 refine ret2 (fn:=Tryz.f77) rfl H G G ?_
 obtain rfl:k=sw.length:=by omega
 rw [←hp.2.2]
 exact ⟨_,_,rfl,(S.sel [0] G G)⟩
end
section
section
variable {hz:Int} {sw:List Int} {ws:List Wr} {al:List Int} {a q n n2:Nat} {b:Int}
theorem xV (h:pairB hz sw ws al (a:Int) b=true) (hb:b=(a:Int)+1+(q:Int)) (hn:n2=n+pcIn hz sw ws al a q):n2+1=n+pcIn hz sw ws al a (q+1):=by
  subst hb;rw [pcIn,if_pos h];omega
theorem has3:∀ x y:Bool,x=true∨(x=false∧y=true)∨(x=false∧y=false):=by decide
theorem xW (hA:hasC al (a:Int)=true):¬ pairB hz sw ws al (a:Int) b=true:=by unfold pairB;rw [hA];simp
theorem xX (hA:hasC al b=true):¬ pairB hz sw ws al (a:Int) b=true:=by unfold pairB;rw [hA];simp
theorem iS (hA:hasC al (a:Int)=false) (hB:hasC al b=false):pairB hz sw ws al (a:Int) b=decide (0<(wkN hz sw ws (lorI (1*2^(a:Int).toNat) (1*2^b.toNat)) hz.toNat).length):=by unfold pairB;rw [hA,hB];rfl
theorem iT (h:¬ pairB hz sw ws al (a:Int) b=true) (hb:b=(a:Int)+1+(q:Int)) (hn:n2=n+pcIn hz sw ws al a q):n2=n+pcIn hz sw ws al a (q+1):=by
  subst hb;rw [pcIn,if_neg h];exact hn
end
theorem dX (hz:Int) (sw:List Int) (SA:Option Addr) (sc:Nat) (ws:List Wr) (QA:Option Addr) (qc:Nat) (OA:Nat→Option Addr) (oc:Nat→Nat) (w:World) (hsw:InS w noF 1 SA sw.length (icl sw)) (hws:InS w noF 2 QA ws.length (fY ws OA oc)) (hof:∀ k,k<ws.length→InS w noF 1 (OA k) (ws.getD k Wr.zero).of.length (icl (ws.getD k Wr.zero).of)) (hE:circE hz sw ws=0) :
    Calls Tryz.prog 37 [.agg [.int .i64 hz,.slice SA sw.length sc,.slice QA ws.length qc].toArray].toArray w (Ret (fun u w'=>∃ A' c',u = .tuple #[.slice A' (pcOut hz sw ws (critN hz sw ws sw.length) sw.length) c',.int .i64 0]∧St w noF [] w')):=by
 have V:=uG (Ex hE)
 have hns:=V.nsw
 have hnw:=V.nws
 have hzb:=V.hzb
 have hof9:=Ez V
 have hcl9:=vR (hz:=hz) (sw:=sw) (ws:=ws) sw.length
 refine enter Tryz.func37 rfl Tryz.ntmps37 rfl (fun a H=>?_)
 have S:=St.start w
 refine seq_list fun K1 k1=>?_
 refine aO H rfl S G G ?_;clear H a S;intro b1 _ a hb1 hbw1 S H
 refine ls 2 H<|sr 2 rfl<|sE ?_;clear H a;intro a H
 refine k1 _ _ ?_;clear k1 K1
 replace H:=H.keep [1] rfl
 refine seq_list fun K2 k2=>?_
 refine ls 1 H<|sd ((aE dN cK rfl S (i:=0) G G))<|sE ?_;clear H a;intro a H
 refine aA H G G Tryz.func77 G G (xU hz sw SA sc ws QA qc OA oc _ (hsw.now S) (hws.now S) (fun k hk=>(hof k hk).now S) hE) ?_;clear H a
 rintro _ _ a ⟨A8,c8,rfl,S2⟩ H
 replace S:=S.call S2;clear S2
 refine ls 5 H<|sr 5 rfl<|sE ?_;clear H a;intro a H
 refine k2 _ _ ?_;clear k2 K2
 refine wp_seq_k fun K3 k3=>?_
 refine sS H fun K4 k4=>sr 2 rfl<|sE ?_;clear H a;intro a H
 refine k4 _ ?_;clear k4 K4
 refine condN H rfl (fun hc1=>?_) (fun hc1=>?_)
 ·skip
  replace H:=H.keep [5] rfl
  refine sS H fun K5 k5=>sr 3 rfl<|sE ?_;clear H a;intro a H
  refine k5 _ ?_;clear k5 K5
  refine wp_ret ?_
  refine ret2 (fn:=Tryz.f37) rfl H G G ?_
  exact absurd rfl hc1
 refine wp_skip ?_
 refine k3 _ _ ?_
 refine sS H fun K6 k6=>sr 1 rfl<|sE ?_;clear H a;intro a H
 refine k6 _ ?_;clear k6 K6
 refine wp_seq_k fun K7 k7=>?_
 refine sS H fun K8 k8=>sf iM rfl<|sl S 1 bR G G G<|sL aW rfl<|sr 1 rfl<|sE ?_;clear H a;intro a H
 refine k8 _ ?_;clear k8 K8
 refine wp_block ?_
 replace S:=S.newNil 89 2 (fun _ _=>undef)
 refine loop_st (X:=Nat×Nat×Option Addr×Nat×(Nat→Nat→Value)) (R0:=_) [1,4,19] H rfl (fun ⟨u,n,A9,c9,cl9⟩=>[(6,.slice A9 n c9),(20,.int .i64 (u:Int))]) (fun ⟨u,n,A9,c9,cl9⟩=>[ownM 89 2 A9 n c9 cl9]) (fun g ⟨u,n,A9,c9,cl9⟩=>u≤sw.length∧g+u=sw.length∧n=pcOut hz sw ws (critN hz sw ws sw.length) u) (sw.length) (0,0,none,0,fun _ _=>undef) ?_ (S.sel [0,1,2] G G) (H.keep [6,20,1,4,19] rfl) ?_
 · exact ⟨by omega,by omega,rfl⟩
 clear H S a
 intro g1 x1 a w1 hp S H K9 k9
 obtain ⟨u,n,A9,c9,cl9⟩:=x1
 dsimp only at hp S H
 obtain ⟨hu1,hu2,hn1⟩:=hp
 refine sS H fun K10 k10=>sr 1 rfl<|sE ?_;clear H a;intro a H
 refine k10 _ ?_;clear k10 K10
 refine wp_seq_k fun K11 k11=>?_
 refine condL H rfl (fun hc2=>?_) (fun hc2=>?_)
 ·skip
  refine wp_skip ?_
  refine k11 _ _ ?_
  refine wp_seq_k fun K12 k12=>?_
  refine wp_block ?_
  refine sS H fun K13 k13=>sr 2 rfl<|sE ?_;clear H a;intro a H
  refine k13 _ ?_;clear k13 K13
  refine sS H fun K14 k14=>sr 1 rfl<|sd (aK G G (by unfold i64ok;omega))<|sr 1 rfl<|sE ?_;clear H a;intro a H
  refine k14 _ ?_;clear k14 K14
  refine wp_block ?_
  refine loop_st (X:=Nat×Int×Nat×Option Addr×Nat×(Nat→Nat→Value)) (R0:=_) [1,4,7,19,20] H rfl (fun ⟨q,b,n2,A7,c7,cl7⟩=>[(6,.slice A7 n2 c7),(8,.int .i64 b)]) (fun ⟨q,b,n2,A7,c7,cl7⟩=>[ownM 89 2 A7 n2 c7 cl7]) (fun g ⟨q,b,n2,A7,c7,cl7⟩=>u+1+q≤sw.length∧g+u+1+q=sw.length∧n2=n+pcIn hz sw ws (critN hz sw ws sw.length) u q∧b=(u:Int)+1+(q:Int)) (sw.length-(u+1)) (0,(u:Int)+1,n,A9,c9,cl9) ?_ (S.sel [0,1,2] G G) (H.keep [6,8,1,4,7,19,20] rfl) ?_
  · exact ⟨by omega,by omega,rfl,by omega⟩
  clear H S a
  intro g2 x2 a w2 hp S H K15 k15
  obtain ⟨q,b,n2,A7,c7,cl7⟩:=x2
  dsimp only at hp S H
  obtain ⟨hq1,hq2,hn2,hb2⟩:=hp
  obtain ⟨y,rfl⟩:∃ y:Nat,b=y:=⟨u+1+q,by omega⟩
  refine wp_seq_k fun K16 k16=>?_
  refine sS H fun K17 k17=>sr 1 rfl<|sf iM rfl<|sl S 2 bR G G G<|sL aW rfl<|sr 1 rfl<|sE ?_;clear H a;intro a H
  refine k17 _ ?_;clear k17 K17
  refine condL H rfl (fun hc3=>?_) (fun hc3=>?_)
  ·skip
   refine wp_skip ?_
   refine k16 _ _ ?_
   refine wp_seq_k fun K18 k18=>?_
   refine wp_block ?_
   rcases has3 (hasC (critN hz sw ws sw.length) (u:Int)) (hasC (critN hz sw ws sw.length) (y:Int)) with hA|⟨hA,hB⟩|⟨hA,hB⟩
   ·skip
    have hsh:=pwc (h:=u) (by omega)
    have hsh2:=pwc (h:=y) (by omega)
    have hwl9:=rN (hz:=hz) (sw:=sw) (ws:=ws) (cl:=lorI (1*2^(u:Int).toNat) (1*2^(y:Int).toNat)) hz.toNat
    replace H:=H.keep [1,4,6,7,8,19,20] rfl
    replace S:=S.drew
    refine seq_wq [(0,true),(1,true),(2,false),(3,true),(4,true),(5,true),(6,true),(7,true),(8,true),(9,true),(10,true),(11,true),(12,true),(13,true),(14,true),(15,true),(16,true),(17,true),(18,true),(19,true),(20,true)] (by kernel_rfl) (by kernel_rfl) (S.sel [0,1,2] G G) fun K19 k19=>?_
    refine qF H<|qr 2 rfl<|qK ?_;clear H a;intro a H
    refine aV rfl ?_
    refine aA H G G Tryz.func78 G G (gU (critN hz sw ws sw.length) A8 c8 _ _ (ownM.inS S (i:=1) rfl) (by omega)) ?_;clear H a
    rintro _ _ a ⟨rfl,S2⟩ H
    replace S:=S.call S2;clear S2
    first|rw [hA] at H|rw [hB] at H
    refine wpList_nil (And.intro (S.sel [0,1,2] G G) ?_)
    refine qF H<|qr 2 rfl<|qK ?_;clear H a;intro a H
    refine aJ H G G G G G ?_;clear H a;intro a H
    refine aJ H G G G G G ?_;clear H a;intro a H
    refine aJ H G G G G G ?_;clear H a;intro a H
    refine aJ H G G G G G ?_;clear H a;intro a H
    refine qF H<|qd rfl (fun _ S=>(aT G G G))<|qr 1 rfl<|qK ?_;clear H a;intro a H
    refine aJ H G G G G G ?_;clear H a;intro a H
    refine aJ H G G G G G ?_;clear H a;intro a H
    refine aJ H G G G G G ?_;clear H a;intro a H
    refine aJ H G G G G G ?_;clear H a;intro a H
    refine aJ H G G G G G ?_;clear H a;intro a H
    refine aJ H G G G G G ?_;clear H a;intro a H
    refine aJ H G G G G G ?_;clear H a;intro a H
    refine aJ H G G G G G ?_;clear H a;intro a H
    refine aJ H G G G G G ?_;clear H a;intro a H
    refine qF H<|qd rfl (fun _ S=>(aT G G G))<|qK ?_;clear H a;intro a H
    refine bO ?_
    refine k19 _ _ ?_
    clear k19 K19
    refine cond_ H rfl (fun hc4=>?_) (fun hc4=>?_)
    ·skip
     skip
     cases hc4
    skip
    refine wp_skip ?_
    refine k18 _ _ ?_
    replace H:=H.keep [1,4,6,7,8,19,20] rfl
    refine sO H<|sr 1 rfl<|sd (aK G G (by unfold i64ok;omega))<|sr 1 rfl<|sE ?_;clear H a;intro a H
    exact k15 (g2-1) (q+1,_,_,_,_,_) a _ (by omega) (⟨by omega,by omega,by first|exact xV (by rw [iS hA hB];exact decide_eq_true (by omega)) hb2 hn2|exact iT (by rw [iS hA hB,decide_eq_true_eq];omega) hb2 hn2|exact iT (xW hA) hb2 hn2|exact iT (xX hB) hb2 hn2|exact iT (by rw [iS hA hB,decide_eq_true_eq];have h9:=hc6.resolve_left (fun h=>h.elim (fun h=>Bool.noConfusion h) (fun h=>Bool.noConfusion h));omega) hb2 hn2,by omega⟩) (S.sel [0,1,2] G G) (H.keep [6,8,1,4,7,19,20] rfl)
   ·skip
    have hsh:=pwc (h:=u) (by omega)
    have hsh2:=pwc (h:=y) (by omega)
    have hwl9:=rN (hz:=hz) (sw:=sw) (ws:=ws) (cl:=lorI (1*2^(u:Int).toNat) (1*2^(y:Int).toNat)) hz.toNat
    replace H:=H.keep [1,4,6,7,8,19,20] rfl
    replace S:=S.drew
    refine seq_wq [(0,true),(1,true),(2,false),(3,true),(4,true),(5,true),(6,true),(7,false),(8,true),(9,true),(10,true),(11,true),(12,true),(13,true),(14,true),(15,true),(16,true),(17,true),(18,true),(19,true),(20,true)] (by kernel_rfl) (by kernel_rfl) (S.sel [0,1,2] G G) fun K21 k21=>?_
    refine qF H<|qr 2 rfl<|qK ?_;clear H a;intro a H
    refine aV rfl ?_
    refine aA H G G Tryz.func78 G G (gU (critN hz sw ws sw.length) A8 c8 _ _ (ownM.inS S (i:=1) rfl) (by omega)) ?_;clear H a
    rintro _ _ a ⟨rfl,S2⟩ H
    replace S:=S.call S2;clear S2
    first|rw [hA] at H|rw [hB] at H
    refine wpList_nil (And.intro (S.sel [0,1,2] G G) ?_)
    refine qF H<|qr 2 rfl<|qK ?_;clear H a;intro a H
    refine aF H G G G G (fun _ S=>aL rfl) ?_;clear H a;intro a H
    refine aF H G G G G (fun _ S=>aL rfl) ?_;clear H a;intro a H
    refine aV rfl ?_
    refine aY H G G ?_
    refine aA H G G Tryz.func78 G G (gU (critN hz sw ws sw.length) A8 c8 _ _ (ownM.inS S (i:=1) rfl) (by omega)) ?_;clear H a
    rintro _ _ a ⟨rfl,S2⟩ H
    replace S:=S.call S2;clear S2
    first|rw [hA] at H|rw [hB] at H
    refine wpList_nil (And.intro (S.sel [0,1,2] G G) ?_)
    refine aF H G G G G (fun _ S=>cS rfl) ?_;clear H a;intro a H
    refine qF H<|qd rfl (fun _ S=>(iZ G G G))<|qr 1 rfl<|qK ?_;clear H a;intro a H
    refine aJ H G G G G G ?_;clear H a;intro a H
    refine aJ H G G G G G ?_;clear H a;intro a H
    refine aJ H G G G G G ?_;clear H a;intro a H
    refine aJ H G G G G G ?_;clear H a;intro a H
    refine aJ H G G G G G ?_;clear H a;intro a H
    refine aJ H G G G G G ?_;clear H a;intro a H
    refine aJ H G G G G G ?_;clear H a;intro a H
    refine aJ H G G G G G ?_;clear H a;intro a H
    refine aJ H G G G G G ?_;clear H a;intro a H
    refine qF H<|qd rfl (fun _ S=>(aT G G G))<|qK ?_;clear H a;intro a H
    refine bO ?_
    refine k21 _ _ ?_
    clear k21 K21
    refine cond_ H rfl (fun hc5=>?_) (fun hc5=>?_)
    ·skip
     skip
     cases hc5
    skip
    refine wp_skip ?_
    refine k18 _ _ ?_
    replace H:=H.keep [1,4,6,7,8,19,20] rfl
    refine sO H<|sr 1 rfl<|sd (aK G G (by unfold i64ok;omega))<|sr 1 rfl<|sE ?_;clear H a;intro a H
    exact k15 (g2-1) (q+1,_,_,_,_,_) a _ (by omega) (⟨by omega,by omega,by first|exact xV (by rw [iS hA hB];exact decide_eq_true (by omega)) hb2 hn2|exact iT (by rw [iS hA hB,decide_eq_true_eq];omega) hb2 hn2|exact iT (xW hA) hb2 hn2|exact iT (xX hB) hb2 hn2|exact iT (by rw [iS hA hB,decide_eq_true_eq];have h9:=hc6.resolve_left (fun h=>h.elim (fun h=>Bool.noConfusion h) (fun h=>Bool.noConfusion h));omega) hb2 hn2,by omega⟩) (S.sel [0,1,2] G G) (H.keep [6,8,1,4,7,19,20] rfl)
   have hsh:=pwc (h:=u) (by omega)
   have hsh2:=pwc (h:=y) (by omega)
   have hwl9:=rN (hz:=hz) (sw:=sw) (ws:=ws) (cl:=lorI (1*2^(u:Int).toNat) (1*2^(y:Int).toNat)) hz.toNat
   replace H:=H.keep [1,4,6,7,8,19,20] rfl
   replace S:=S.drew
   refine seq_wq [(0,true),(1,true),(2,false),(3,true),(4,true),(5,true),(6,true),(7,false),(8,true),(9,true),(10,true),(11,true),(12,true),(13,true),(14,true),(15,true),(16,true),(17,false),(18,true),(19,true),(20,true)] (by kernel_rfl) (by kernel_rfl) (S.sel [0,1,2] G G) fun K23 k23=>?_
   refine qF H<|qr 2 rfl<|qK ?_;clear H a;intro a H
   refine aV rfl ?_
   refine aA H G G Tryz.func78 G G (gU (critN hz sw ws sw.length) A8 c8 _ _ (ownM.inS S (i:=1) rfl) (by omega)) ?_;clear H a
   rintro _ _ a ⟨rfl,S2⟩ H
   replace S:=S.call S2;clear S2
   first|rw [hA] at H|rw [hB] at H
   refine wpList_nil (And.intro (S.sel [0,1,2] G G) ?_)
   refine qF H<|qr 2 rfl<|qK ?_;clear H a;intro a H
   refine aF H G G G G (fun _ S=>aL rfl) ?_;clear H a;intro a H
   refine aF H G G G G (fun _ S=>aL rfl) ?_;clear H a;intro a H
   refine aV rfl ?_
   refine aY H G G ?_
   refine aA H G G Tryz.func78 G G (gU (critN hz sw ws sw.length) A8 c8 _ _ (ownM.inS S (i:=1) rfl) (by omega)) ?_;clear H a
   rintro _ _ a ⟨rfl,S2⟩ H
   replace S:=S.call S2;clear S2
   first|rw [hA] at H|rw [hB] at H
   refine wpList_nil (And.intro (S.sel [0,1,2] G G) ?_)
   refine aF H G G G G (fun _ S=>cS rfl) ?_;clear H a;intro a H
   refine qF H<|qd rfl (fun _ S=>(iZ G G G))<|qr 1 rfl<|qK ?_;clear H a;intro a H
   refine aF H G G G G (fun _ S=>(aE dN cK rfl S (i:=2) G G)) ?_;clear H a;intro a H
   refine aF H G G G G (fun _ S=>aL rfl) ?_;clear H a;intro a H
   refine aF H G G G G (fun _ S=>dE G G (by omega) (by omega) (by unfold i64ok;omega)) ?_;clear H a;intro a H
   refine aF H G G G G (fun _ S=>aL rfl) ?_;clear H a;intro a H
   refine aF H G G G G (fun _ S=>dE G G (by omega) (by omega) (by unfold i64ok;omega)) ?_;clear H a;intro a H
   refine aF H G G G G (fun _ S=>Of G G hsh hsh2) ?_;clear H a;intro a H
   refine aV rfl ?_
   refine aY H G G ?_
   refine aA H G G Tryz.func79 G G (Ar hz sw SA sc ws QA qc OA oc (lorI (1*2^(u:Int).toNat) (1*2^(y:Int).toNat)) _ (hsw.now S) (hws.now S) (fun k hk=>(hof k hk).now S) V (Fa hsh hsh2)) ?_;clear H a
   rintro _ _ a ⟨A5,c5,rfl,S2⟩ H
   replace S:=S.call S2;clear S2
   refine wpList_nil (And.intro (S.sel [1,2,3] G G) ?_)
   refine aF H G G G G (fun _ S=>cO aW rfl) ?_;clear H a;intro a H
   refine aF H G G G G (fun _ S=>bY G G) ?_;clear H a;intro a H
   refine qF H<|qd rfl (fun _ S=>(iZ G G G))<|qK ?_;clear H a;intro a H
   refine bO ?_
   refine k23 _ _ ?_
   clear k23 K23
   refine cond_ H rfl (fun hc6=>?_) (fun hc6=>?_)
   ·skip
    try simp only [o1,o2,o3,o4,o5,o6,o7,o8,o9,oa] at hc6
    have hno:n≤12*12:=by rw [hn1];exact Nat.le_trans (Og _) (Nat.mul_le_mul (show u≤12 by omega) (show sw.length≤12 by omega))
    have hpi:=Fb (hz:=hz) (sw:=sw) (ws:=ws) (al:=(critN hz sw ws sw.length)) (a:=u) q
    replace H:=H.keep [1,4,6,7,8,19,20] rfl
    refine one_list ?_
    refine ls 4 H<|sr 3 rfl<|sd (aR Ys G G)<|sE ?_;clear H a;intro a H
    refine bB H rfl S gH Tz Jz G G G G G G G G G ?_;clear H a S;intro A1 _ a hA1 S H
    refine cB H rfl S gH Tz Jz Yq G G (i:=2) G G G (ownM.inS S (i:=0) rfl) (jL (two G G)) (by omega) (by omega) ?_;clear H a S;intro A2 c2 _ a S H
    refine ls 1 H<|sr 1 rfl<|sE ?_;clear H a;intro a H
    refine k18 _ _ ?_
    replace H:=H.keep [1,4,6,7,8,19,20] rfl
    refine sO H<|sr 1 rfl<|sd (aK G G (by unfold i64ok;omega))<|sr 1 rfl<|sE ?_;clear H a;intro a H
    exact k15 (g2-1) (q+1,_,_,_,_,_) a _ (by omega) (⟨by omega,by omega,by first|exact xV (by rw [iS hA hB];exact decide_eq_true (by omega)) hb2 hn2|exact iT (by rw [iS hA hB,decide_eq_true_eq];omega) hb2 hn2|exact iT (xW hA) hb2 hn2|exact iT (xX hB) hb2 hn2|exact iT (by rw [iS hA hB,decide_eq_true_eq];have h9:=hc6.resolve_left (fun h=>h.elim (fun h=>Bool.noConfusion h) (fun h=>Bool.noConfusion h));omega) hb2 hn2,by omega⟩) (S.sel [2,3,4] G G) (H.keep [6,8,1,4,7,19,20] rfl)
   try simp only [o1,o2,o3,o4,o5,o6,o7,o8,o9,oa] at hc6
   refine wp_skip ?_
   refine k18 _ _ ?_
   refine sO H<|sr 1 rfl<|sd (aK G G (by unfold i64ok;omega))<|sr 1 rfl<|sE ?_;clear H a;intro a H
   exact k15 (g2-1) (q+1,_,_,_,_,_) a _ (by omega) (⟨by omega,by omega,by first|exact xV (by rw [iS hA hB];exact decide_eq_true (by omega)) hb2 hn2|exact iT (by rw [iS hA hB,decide_eq_true_eq];omega) hb2 hn2|exact iT (xW hA) hb2 hn2|exact iT (xX hB) hb2 hn2|exact iT (by rw [iS hA hB,decide_eq_true_eq];have h9:=hc6.resolve_left (fun h=>h.elim (fun h=>Bool.noConfusion h) (fun h=>Bool.noConfusion h));omega) hb2 hn2,by omega⟩) (S.sel [1,2,3] G G) (H.keep [6,8,1,4,7,19,20] rfl)
  refine wp_exit ?_
  refine k12 _ _ ?_
  refine sO H<|sd (aK G G (by unfold i64ok;omega))<|sr 1 rfl<|sE ?_;clear H a;intro a H
  exact k9 (g1-1) (u+1,_,_,_,_) a _ (by omega) (⟨by omega,by omega,by rw [pcOut,←hn1,show sw.length-(u+1)=q by omega];exact hn2⟩) (S.sel [0,1,2] G G) (H.keep [6,20,1,4,19] rfl)
 refine wp_exit ?_
 refine k7 _ _ ?_
 replace H:=H.keep [6] rfl
 refine sS H fun K28 k28=>sr 3 rfl<|sE ?_;clear H a;intro a H
 refine k28 _ ?_;clear k28 K28
 refine wp_ret ?_
 refine ret2 (fn:=Tryz.f37) rfl H G G ?_
 obtain rfl:u=sw.length:=by omega
 rw [←hn1]
 exact ⟨_,_,rfl,(S.sel [] G G)⟩
end
section
def exSw:List Int:=[1,1,2,2]
def exWs:List Wr:=[⟨2,[1,2,3,4]⟩,⟨1,[0]⟩,⟨1,[1]⟩,⟨1,[2]⟩,⟨1,[3]⟩]
def exOA (A0 A1 A2 A3 A4:Option Addr) (k:Nat):Option Addr:=[A0,A1,A2,A3,A4].getD k none
def exOc (k:Nat):Nat:=[4,1,1,1,1].getD k 0
theorem exCir:circE 2 exSw exWs=0:=by kernel_rfl
theorem fR:pcOut 2 exSw exWs (critN 2 exSw exWs exSw.length) exSw.length=2:=by kernel_rfl
theorem cR (w:World) :
    Calls Tryz.prog 36 [].toArray w (Ret (fun v w'=>∃ SA A0 A1 A2 A3 A4 QA TA,v = .tuple #[.agg [.int .i64 2,.slice SA 4 4,.slice QA 5 5].toArray,.slice TA 4 4]∧St w noF [ownM 3 1 SA 4 4 (icl exSw),ownM 3 1 A0 4 4 (icl [1,2,3,4]),ownM 3 1 A1 1 1 (icl [0]),ownM 3 1 A2 1 1 (icl [1]),ownM 3 1 A3 1 1 (icl [2]),ownM 3 1 A4 1 1 (icl [3]),ownM 195 2 QA 5 5 (fY exWs (exOA A0 A1 A2 A3 A4) exOc)] w')):=by
 refine enter Tryz.func36 rfl Tryz.ntmps36 rfl (fun a H=>?_)
 have S:=St.start w
 refine seq_list fun K1 k1=>?_
 refine aI H rfl S fV ?_;clear H a S;intro b0 _ a hb0 hbw0 S H
 refine ls 1 H<|sr 1 rfl<|sE ?_;clear H a;intro a H
 refine k1 _ _ ?_;clear k1 K1
 replace H:=H.keep [0] rfl
 refine seq_list fun K2 k2=>?_
 refine bB H rfl S aW bC fG G G G G G G G G G ?_;clear H a S;intro A1 _ a hA1 S H
 refine bB H rfl S aW bC fG G G G G G G G G G ?_;clear H a S;intro A2 _ a hA2 S H
 refine ls 1 H<|sd (aR sY G G)<|sE ?_;clear H a;intro a H
 refine bB H rfl S aW bC fG G G G G G G G G G ?_;clear H a S;intro A3 _ a hA3 S H
 refine ls 1 H<|sd (aR sY G G)<|sE ?_;clear H a;intro a H
 refine bB H rfl S aW bC fG G G G G G G G G G ?_;clear H a S;intro A4 _ a hA4 S H
 refine ls 1 H<|sd (aR sY G G)<|sE ?_;clear H a;intro a H
 refine bB H rfl S aW bC fG G G G G G G G G G ?_;clear H a S;intro A5 _ a hA5 S H
 refine ls 1 H<|sd (aR sY G G)<|sE ?_;clear H a;intro a H
 refine bB H rfl S aW bC fG G G G G G G G G G ?_;clear H a S;intro A6 _ a hA6 S H
 refine ls 1 H<|sd (aR sY G G)<|sE ?_;clear H a;intro a H
 refine bB H rfl S kZ nE wV G G G G G G G G G ?_;clear H a S;intro A7 _ a hA7 S H
 refine ls 1 H<|sd (aR Uz G G)<|sE ?_;clear H a;intro a H
 refine aI H rfl S fV ?_;clear H a S;intro b2 _ a hb2 hbw2 S H
 refine aB H S (i:=0) G G G G cK G G ?_
 clear H a S;intro _ a S H
 refine k2 _ _ ?_;clear k2 K2
 replace H:=H.keep [0,2] rfl
 refine seq_list fun K3 k3=>?_
 refine ls 5 H<|sd ((aE dN cK rfl S (i:=0) G G))<|sd (aR wW G G)<|sd (aR wW G G)<|sd (aR wW G G)<|sd (aR wW G G)<|sE ?_;clear H a;intro a H
 refine bB H rfl S Uq Up Ke G G G G G G G G G ?_;clear H a S;intro A8 _ a hA8 S H
 refine aB H S (i:=9) G G G G cK G G ?_
 clear H a S;intro _ a S H
 refine ls 1 H<|sr 1 rfl<|sE ?_;clear H a;intro a H
 refine k3 _ _ ?_;clear k3 K3
 refine wp_ret ?_
 refine retA1 (fn:=Tryz.f36) rfl H rfl dN (by exact cK) (dL S (i:=9) rfl) rfl ?_
 replace S:=S.recell (i:=8) rfl (cell':=icl exSw) (fun k j hk hj=>by
   obtain rfl:j=0:=by omega
   rcases k with _|_|_|_|k <;> first|rfl|(exfalso;omega))
 replace S:=S.recell (i:=7) rfl (cell':=icl [1,2,3,4]) (fun k j hk hj=>by
   obtain rfl:j=0:=by omega
   rcases k with _|_|_|_|k <;> first|rfl|(exfalso;omega))
 replace S:=S.recell (i:=6) rfl (cell':=icl [0]) (fun k j hk hj=>by
   obtain rfl:j=0:=by omega
   rcases k with _|_|_|_|k <;> first|rfl|(exfalso;omega))
 replace S:=S.recell (i:=5) rfl (cell':=icl [1]) (fun k j hk hj=>by
   obtain rfl:j=0:=by omega
   rcases k with _|_|_|_|k <;> first|rfl|(exfalso;omega))
 replace S:=S.recell (i:=4) rfl (cell':=icl [2]) (fun k j hk hj=>by
   obtain rfl:j=0:=by omega
   rcases k with _|_|_|_|k <;> first|rfl|(exfalso;omega))
 replace S:=S.recell (i:=3) rfl (cell':=icl [3]) (fun k j hk hj=>by
   obtain rfl:j=0:=by omega
   rcases k with _|_|_|_|k <;> first|rfl|(exfalso;omega))
 refine ⟨A1,A2,A3,A4,A5,A6,A7,A8,rfl,?_⟩
 replace S:=S.recell (i:=2) rfl (cell':=fY exWs (exOA A2 A3 A4 A5 A6) exOc) (fun k j hk hj=>by
   rcases j with _|_|j
   · rcases k with _|_|_|_|_|k <;> first|rfl|(exfalso;omega)
   · rcases k with _|_|_|_|_|k <;> first|rfl|(exfalso;omega)
   · exfalso;omega)
 exact (S.sel [8,7,6,5,4,3,2] G G)
end
section
theorem Wy {sz:Nat} {c d:Nat→Nat→Value} (h0:∀ j,j<sz→c 0 j=d 0 j) (h1:∀ j,j<sz→c 1 j=d 1 j):∀ k j,k<2→j<sz→c k j=d k j:=by
  intro k j hk hj
  have:k=0∨k=1:=by omega
  rcases this with rfl|rfl
  · exact h0 j hj
  · exact h1 j hj
section
variable {P:Program} {w:World} {L:List (Nat×Value)} {ty:TypeId} {pos:String} {af:Array Edge} {dd:Option Nat} {g:Option (Nat×Bool)} {a:Act}
set_option maxRecDepth 100000 in
theorem cD {x y:Operand} {yt:TypeId} {a b c d:Int} (hx:ev L x=some (.agg [.int .i64 a,.int .i64 b].toArray)) (hy:ev L y=some (.agg [.int .i64 c,.int .i64 d].toArray)) :
    Does Tryz.prog L ⟨dd,.binOp .eql 88 x y yt,ty,pos,af,g⟩ w (.bool (decide (a=c)&&decide (b=d))):=fun ρ hρ=>by
  have e:(binOp .eql 88 (.agg #[.int .i64 a,.int .i64 b]) (.agg #[.int .i64 c,.int .i64 d])).run Tryz.prog w = .ok (.bool (decide (a=c)&&decide (b=d))) w:=by
    simp only [binOp]
    simp [Op.equal,Op.maxDepth,Ew]
    by_cases h1:a=c <;> by_cases h2:b=d <;> simp [h1,h2]
  simp only [execOp,hρ _ _ hx,hρ _ _ hy]
  simp [tZ,e]
end
end
section
structure Brake where
  force:Int
  delay:Int
deriving DecidableEq
def Brake.zero:Brake:=⟨0,0⟩
def Brake.cell (b:Brake):Nat→Value
  | 0 => .int .i64 b.force
  | _ => .int .i64 b.delay
def bcell (l:List Brake) (k j:Nat):Value:=(l.getD k Brake.zero).cell j
structure Esc where
  up:Bool
  empty:Int
  pull:Int
  drag:Int
  motor:Int
  br:List Brake
structure Stp where
  speed:Int
  lo:Int
  hi:Int
  fail:Int
def gV (b:Brake):Bool:=decide (0≤b.force∧b.force≤10000000∧0≤b.delay∧b.delay≤20)
def escOk (e:Esc):Bool:=decide (1≤e.empty∧e.empty≤100000∧0≤e.pull∧e.pull≤100∧0≤e.drag∧e.drag≤10000000∧0≤e.motor∧e.motor≤10000000∧e.br.length≤3)&&e.br.all gV
def stpOk (e:Esc) (s:Stp):Bool:=decide (0≤s.speed∧s.speed≤1000∧0≤s.lo∧s.lo≤s.hi∧s.hi≤100000∧0≤s.fail∧s.fail<2^e.br.length)
def stopE (e:Esc) (s:Stp):Int:=if escOk e=true then (if stpOk e s=true then 0 else 11) else 10
def nQ (v g f m:Int):Int:=max 0 (v+(g-f)/m)
def tickI (e:Esc) (v load brakes:Int):Int:=
  let g:=if e.up then -(e.pull*load) else e.pull*load
  if v<0∨v=0∧g<0 then -nQ (-v) (-g) (e.drag+brakes) (e.empty+load) else nQ v g (e.drag+brakes) (e.empty+load)
def iC (fail t:Int) (l:List Brake):Nat→Int
  | 0=>0
  | k+1=>iC fail t l k+(if fail/2^k%2=0∧(l.getD k Brake.zero).delay≤t then (l.getD k Brake.zero).force else 0)
theorem uJ {fail t:Int} {l:List Brake} {k:Nat} (h:fail/2^k%2=0∧(l.getD k Brake.zero).delay≤t):iC fail t l k+(l.getD k Brake.zero).force=iC fail t l (k+1):=by
  conv=>rhs;unfold iC
  rw [if_pos h]
theorem vT {fail t:Int} {l:List Brake} {k:Nat} (h:¬ (fail/2^k%2=0∧(l.getD k Brake.zero).delay≤t)):iC fail t l k=iC fail t l (k+1):=by
  conv=>rhs;unfold iC
  rw [if_neg h,Int.add_zero]
def gripI (e:Esc) (s:Stp) (t:Int):Int:=iC s.fail t e.br e.br.length
def extI (e:Esc) (s:Stp) (most:Bool) (v t:Int):Int:=
  let a:=tickI e v s.lo (gripI e s t);let b:=tickI e v s.hi (gripI e s t)
  if (most=true∧b > a)∨(most=false∧b<a) then b else a
def goI (e:Esc) (s:Stp) (most:Bool):Nat→Int→Int→Int×Bool
  | 0,v,_=>(0,decide (v=0))
  | n+1,v,t=>if v=0 then (0,true) else (extI e s most v t+(goI e s most n (extI e s most v t) (t+1)).1,(goI e s most n (extI e s most v t) (t+1)).2)
theorem xY {fail t:Int} {l:List Brake} (h:l.all gV=true):∀ k,k≤l.length→0≤iC fail t l k∧iC fail t l k≤10000000*k:=by
  intro k
  induction k with
  | zero=>intro _;unfold iC;omega
  | succ k ih=>
    intro hk
    have h1:=ih (by omega)
    have hb:gV (l.getD k Brake.zero)=true:=by
      rw [List.getD_eq_getElem?_getD,List.getElem?_eq_getElem (by omega)]
      exact List.all_eq_true.1 h _ (List.getElem_mem _)
    unfold gV at hb
    simp only [decide_eq_true_eq] at hb
    unfold iC
    split <;> omega
theorem dJ {e:Esc} (h:escOk e=true):(1≤e.empty∧e.empty≤100000∧0≤e.pull∧e.pull≤100∧0≤e.drag∧e.drag≤10000000∧0≤e.motor∧e.motor≤10000000∧e.br.length≤3)∧(∀ k,k<e.br.length→gV (e.br.getD k Brake.zero)=true)∧(2:Int)^((e.br.length:Int)).toNat=2^e.br.length∧1≤(2:Int)^e.br.length∧(2:Int)^e.br.length≤8:=by
  unfold escOk at h
  simp only [Bool.and_eq_true,decide_eq_true_eq] at h
  have h2:=h.1.2.2.2.2.2.2.2.2
  have h3:e.br.length=0∨e.br.length=1∨e.br.length=2∨e.br.length=3:=by omega
  refine ⟨h.1,fun k hk=>?_,by rw [Int.toNat_natCast],?_⟩
  · rw [List.getD_eq_getElem?_getD,List.getElem?_eq_getElem hk]
    exact List.all_eq_true.1 h.2 _ (List.getElem_mem hk)
  · rcases h3 with e|e|e|e <;> rw [e] <;> decide
theorem Th {e:Esc} {s:Stp} (h:stopE e s=0):escOk e=true∧stpOk e s=true:=by
  unfold stopE at h
  split at h
  · split at h
    · exact ⟨by assumption,by assumption⟩
    · cases h
  · cases h
theorem uK {x m B:Int} (hm:0<m) (h : -B≤x∧x≤B) : -B≤x/m∧x/m≤B:=by
  constructor
  · rw [Int.le_ediv_iff_mul_le hm]
    have:B*1≤B*m:=Int.mul_le_mul_of_nonneg_left (by omega) (by omega)
    rw [Int.neg_mul];omega
  · have:=Int.ediv_le_ediv hm h.2
    have:=Int.ediv_le_self m (show 0≤B by omega)
    omega
theorem Fc {e:Esc} {v x f B:Int} (he:escOk e=true) (hx:0≤x∧x≤100000) (hf:0≤f∧f≤30000000) (hv : -B≤v∧v≤B) : -(B+50000000)≤tickI e v x f∧tickI e v x f≤B+50000000:=by
  obtain ⟨h1,_⟩:=dJ he
  have h2:0≤e.pull*x:=Int.mul_nonneg (by omega) (by omega)
  have h3:e.pull*x≤100*100000:=Int.mul_le_mul (by omega) (by omega) (by omega) (by omega)
  unfold tickI nQ
  simp only
  generalize hg:(if e.up=true then -(e.pull*x) else e.pull*x)=g
  have h4 : -10000000≤g∧g≤10000000:=by rw [←hg];split <;> omega
  have h5:=uK (x:=g-(e.drag+f)) (B:=50000000) (show 0<e.empty+x by omega) (by omega)
  have h6:=uK (x := -g-(e.drag+f)) (B:=50000000) (show 0<e.empty+x by omega) (by omega)
  split <;> omega
theorem xZ {e:Esc} {s:Stp} {m:Bool} {v t:Int} (h:(m=true∧tickI e v s.hi (gripI e s t) > tickI e v s.lo (gripI e s t))∨(m=false∧tickI e v s.hi (gripI e s t)<tickI e v s.lo (gripI e s t))):extI e s m v t=tickI e v s.hi (gripI e s t):=by
  unfold extI
  exact if_pos h
theorem yA {e:Esc} {s:Stp} {m:Bool} {v t:Int} (h:¬ ((m=true∧tickI e v s.hi (gripI e s t) > tickI e v s.lo (gripI e s t))∨(m=false∧tickI e v s.hi (gripI e s t)<tickI e v s.lo (gripI e s t)))):extI e s m v t=tickI e v s.lo (gripI e s t):=by
  unfold extI
  exact if_neg h
theorem Wz {e:Esc} {s:Stp} {m:Bool} {v t:Int}:extI e s m v t=tickI e v s.lo (gripI e s t)∨extI e s m v t=tickI e v s.hi (gripI e s t):=by
  unfold extI
  simp only
  split
  · exact .inr rfl
  · exact .inl rfl
def distI (e:Esc) (s:Stp):Int×Int×Int:=
  if stopE e s≠0 then (0,0,stopE e s) else if (goI e s true 100 s.speed 0).2=true then ((goI e s false 100 s.speed 0).1,(goI e s true 100 s.speed 0).1,0) else (0,0,12)
end
end Go.Proofs.YtinghmelkmblmaaGreat
