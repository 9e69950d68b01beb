/- Part 3 of the proof. -/
import Derived.Test.YtinghmelkmblmaaDoorQib
namespace Go.Proofs.YtinghmelkmblmaaDoor
open Go.RowKit
set_option linter.unusedVariables false
set_option linter.unusedSimpArgs false
set_option maxRecDepth 100000
set_option maxHeartbeats 4000000
section
def negU (m:Int):Int:=IntKind.u64.wrap (-m)
def andU (m n:Int):Int:=IntKind.u64.wrap ((BitVec.ofInt 64 m &&& BitVec.ofInt 64 n).toNat:Int)
def mulU (m n:Int):Int:=IntKind.u64.wrap (m*n)
section
variable {P:Program} {L:List (Nat×Value)} {w:World} {d:Option Nat} {ty:TypeId} {pos:String} {af:Array Edge} {g:Option (Nat×Bool)}
theorem Bv {x:Operand} {xt:TypeId} {n:Int} (hx:ev L x=some (.int .u64 n)):Does P L ⟨d,.unOp .neg xt x,ty,pos,af,g⟩ w (.int .u64 (negU n)):=fun ρ hρ=>by
  simp [execOp,hρ _ _ hx,Op.unary,Op.intArith]
  rfl
theorem Bw {x y:Operand} {xt yt:TypeId} {m n:Int} (hx:ev L x=some (.int .u64 m)) (hy:ev L y=some (.int .u64 n)) :
    Does P L ⟨d,.binOp .and xt x y yt,ty,pos,af,g⟩ w (.int .u64 (andU m n)):=fun ρ hρ=>by
  have e:Op.intBits .and .u64 m n=pure (.int .u64 (andU m n)):=rfl
  simp [execOp,hρ _ _ hx,hρ _ _ hy,eqGuard,binOp,e]
theorem Bx {x y:Operand} {xt yt:TypeId} {m n:Int} (hx:ev L x=some (.int .u64 m)) (hy:ev L y=some (.int .u64 n)) :
    Does P L ⟨d,.binOp .mul xt x y yt,ty,pos,af,g⟩ w (.int .u64 (mulU m n)):=fun ρ hρ=>by
  simp [execOp,hρ _ _ hx,hρ _ _ hy,eqGuard,binOp,Op.intArith]
  rfl
theorem Bz {x y:Operand} {xt yt:TypeId} {k:IntKind} {m n:Int} (hx:ev L x=some (.int .u64 m)) (hy:ev L y=some (.int k n)) (h0:0≤n) (h1:n<64) :
    Does P L ⟨d,.binOp .shr xt x y yt,ty,pos,af,g⟩ w (.int .u64 (m/2^n.toNat)):=fun ρ hρ=>by
  have e:min n.toNat 64=n.toNat:=by omega
  have hm:m.fdiv (2^n.toNat)=m/2^n.toNat:=Int.fdiv_eq_ediv_of_nonneg _ (Int.le_of_lt (Int.pow_pos (by decide)))
  simp [execOp,hρ _ _ hx,hρ _ _ hy,eqGuard,binOp,Op.shift,IntKind.bits,show ¬ n<0 by omega,e,hm]
end
def dbT:List Int:=[0,1,56,2,57,49,28,3,61,58,42,50,38,29,17,4,62,47,59,36,45,43,51,22,53,39,33,30,24,18,12,5,63,55,48,27,60,41,37,16,46,35,44,21,52,32,23,11,54,26,40,15,34,20,31,10,25,14,19,9,13,8,7,6]
def jL (k _j:Nat):Value := .int .u8 (dbT.getD k 0)
def tzI (x:Int):Int:=mulU (andU x (negU x)) 285870213051353865/2^(58:Int).toNat
def tzV (x:Int):Int:=dbT.getD (tzI x).toNat 0
def tzOk (x:Nat):Bool:=decide (0≤tzI (x:Int))&&decide (tzI (x:Int)<64)&&decide (0≤tzV (x:Int))&&decide (tzV (x:Int)<12)&&decide (x/2^(tzV (x:Int)).toNat%2=1)&&decide (x &&& (x-1)=x-2^(tzV (x:Int)).toNat)
def tzR (b:Nat):Nat→Bool
  | 0=>true
  | r+1=>tzR b r&&(decide (64*b+r=0)||tzOk (64*b+r))
def tzB:Nat→Bool
  | 0=>true
  | b+1=>tzB b&&tzR b 64
theorem Mx:tzB 64=true:=by decide +kernel
theorem My {b:Nat}:∀ n,tzR b n=true→∀ r,r<n→64*b+r≠0→tzOk (64*b+r)=true:=by
  intro n
  induction n with
  | zero=>intro _ r h;omega
  | succ n ih=>
    intro h r hr h0
    rw [tzR,Bool.and_eq_true,Bool.or_eq_true,decide_eq_true_eq] at h
    by_cases e:r=n
    · subst e;exact h.2.resolve_left h0
    · exact ih h.1 r (by omega) h0
theorem Mz:∀ n,tzB n=true→∀ b,b<n→tzR b 64=true:=by
  intro n
  induction n with
  | zero=>intro _ b h;omega
  | succ n ih=>
    intro h b hb
    rw [tzB,Bool.and_eq_true] at h
    by_cases e:b=n
    · subst e;exact h.2
    · exact ih h.1 b (by omega)
theorem Ge {x:Nat} (h0:0<x) (hx:x≤4095):(0≤tzI (x:Int)∧tzI (x:Int)<64)∧(0≤tzV (x:Int)∧tzV (x:Int)<12)∧x/2^(tzV (x:Int)).toNat%2=1∧x &&& (x-1)=x-2^(tzV (x:Int)).toNat:=by
  have h:=My 64 (Mz 64 Mx (x/64) (by omega)) (x%64) (by omega) (by omega)
  rw [show 64*(x/64)+x%64=x by omega] at h
  unfold tzOk at h
  simp only [Bool.and_eq_true,decide_eq_true_eq] at h
  exact ⟨⟨h.1.1.1.1.1,h.1.1.1.1.2⟩,⟨h.1.1.1.2,h.1.1.2⟩,h.1.2,h.2⟩
theorem Jt {x k:Nat} (h0:0<x) (hx:x≤4095):(x.testBit k=true↔k=(tzV (x:Int)).toNat∨(x &&& (x-1)).testBit k=true):=by
  obtain ⟨_,_,h1,h2⟩:=Ge h0 hx
  generalize (tzV (x:Int)).toNat=t at h1 h2
  have hle:2^t≤x:=by
    refine Classical.byContradiction fun h=>?_
    rw [Nat.div_eq_of_lt (by omega)] at h1
    cases h1
  have hp:0<2^t:=Nat.pow_pos (by decide)
  have h3:(x-2^t)/2^t%2=0:=by
    have h4:(x-2^t*1)/2^t=x/2^t-1:=Nat.sub_mul_div x (2^t) 1
    rw [Nat.mul_one] at h4
    rw [h4]
    omega
  have h5:x=(x-2^t) ||| 2^t:=by rw [De h3];omega
  rw [h2]
  conv=>lhs;rw [h5]
  rw [Nat.testBit_or,Bool.or_eq_true,Nat.testBit_two_pow,decide_eq_true_eq]
  constructor
  · rintro (h|h)
    · exact .inr h
    · exact .inl h.symm
  · rintro (h|h)
    · exact .inr h.symm
    · exact .inl h
end
section
theorem Pj {w:World} {i:Int} (h:InS w noF 1 (some ⟨1,0,none⟩) 64 jL) (hi:0≤i∧i<64):w.cell? ⟨1,0+i.toNat*1,none⟩=some (.int .u8 (dbT.getD i.toNat 0)):=h.rd (St.start w) (k:=i.toNat) (j:=0) (by omega) (by decide)
theorem Gf {x:Nat} (h:0<x):landI (x:Int) ((x:Int)-1)=((x &&& (x-1):Nat):Int):=by
  unfold landI
  rw [Int.toNat_natCast,show ((x:Int)-1).toNat=x-1 by omega]
theorem Ju {x x0:Nat} {l:List Int} (h:∀ k:Nat,((k:Int) ∈ l∨x.testBit k=true)↔x0.testBit k=true) (h0:0<x) (hx:x≤4095):∀ k:Nat,((k:Int) ∈ l++[tzV (x:Int)]∨(x &&& (x-1)).testBit k=true)↔x0.testBit k=true:=fun k=>by
  have h1:=Jt (k:=k) h0 hx
  have h2:=(Ge h0 hx).2.1
  rw [←h k,h1,List.mem_append,List.mem_singleton]
  constructor
  · rintro ((h3|h3)|h3)
    · exact .inl h3
    · exact .inr (.inl (by omega))
    · exact .inr (.inr h3)
  · rintro (h3|h3|h3)
    · exact .inl (.inl h3)
    · exact .inl (.inr (by omega))
    · exact .inr h3
theorem Jv {x:Nat} (h0:0<x):(x &&& (x-1))≤x-1:=Nat.and_le_right
theorem Pp:Sz Tryd.prog 5 1:=by unfold Sz;kernel_rfl
theorem Pk:One Tryd.prog 5:=by unfold One;kernel_rfl
theorem Ca (x:Nat) (w:World) (hdb:InS w noF 1 (some ⟨1,0,none⟩) 64 jL) (h0:0<x) (hx:x≤4095) :
    Calls Tryd.prog 51 [.int .u64 (x:Int)].toArray w (Ret (fun u w'=>u = .int .i64 (tzV (x:Int))∧St w noF [] w')):=by
 obtain ⟨htz,htv,_⟩:=Ge h0 hx
 refine enter Tryd.func51 rfl Tryd.ntmps51 rfl (fun a H=>?_)
 have S:=St.start w
 refine sS H fun K1 k1=>sr 1 rfl<|sE ?_;clear H a;intro a H
 refine k1 _ ?_;clear k1 K1
 refine wp_seq_k fun K2 k2=>?_
 refine sS H fun K3 k3=>sr 1 rfl<|sd (iT G G)<|sE ?_;clear H a;intro a H
 refine k3 _ ?_;clear k3 K3
 refine condE H rfl (fun hc1=>?_) (fun hc1=>?_)
 ·skip
  exfalso;omega
 refine wp_skip ?_
 refine k2 _ _ ?_
 replace H:=H.keep [0] rfl
 refine sS H fun K4 k4=>sr 2 rfl<|sd (Bv rfl)<|sd (Bw G G)<|sd (Bx G G)<|sd ((Bz (n:=58) G G (by decide) (by decide)).to (v' := .int .u64 (tzI (x:Int))) rfl)<|sd (dP Tryd.underlying150 Pp G G htz.1 htz.2)<|sd ((aH Pk rfl (Pj (hdb.now S) htz)).to (v' := .int .u8 (tzV (x:Int))) rfl)<|sd (fX Tryd.underlying5 Tryd.underlying3 rfl (by first|omega|exact IntWalk.i64_in _ (by omega)|exact IntWalk.u64_in _ (by omega)))<|sr 1 rfl<|sE ?_;clear H a;intro a H
 refine k4 _ ?_;clear k4 K4
 refine wp_ret ?_
 refine ret1 (fn:=Tryd.f51) rfl H rfl ?_
 exact ⟨rfl,(S.sel [] G G)⟩
theorem Jw (x:Nat) (w:World) (hdb:InS w noF 1 (some ⟨1,0,none⟩) 64 jL) (h0:0<x) (hx:x≤4095) :
    Calls Tryd.prog 34 [.int .u64 (x:Int)].toArray w (Ret (fun u w'=>u = .int .i64 (tzV (x:Int))∧St w noF [] w')):=by
 refine enter Tryd.func34 rfl Tryd.ntmps34 rfl (fun a H=>?_)
 have S:=St.start w
 refine sS H fun K1 k1=>sr 1 rfl<|sE ?_;clear H a;intro a H
 refine k1 _ ?_;clear k1 K1
 refine wp_seq_k fun K2 k2=>?_
 refine wp_cond_split (H.eval (x := .const (.bool false)) rfl) (fun hc1=>?_) (fun hc1=>?_)
 ·skip
  skip
  cases hc1
 skip
 refine wp_skip ?_
 refine k2 _ _ ?_
 refine seq_list fun K3 k3=>?_
 refine ls 1 H<|sr 1 rfl<|sE ?_;clear H a;intro a H
 refine aA H G G Tryd.func51 G G (Ca x _ (hdb.now S) h0 hx) ?_;clear H a
 rintro _ _ a ⟨rfl,S2⟩ H
 replace S:=S.call S2;clear S2
 refine ls 1 H<|sr 1 rfl<|sE ?_;clear H a;intro a H
 refine k3 _ _ ?_;clear k3 K3
 refine wp_ret ?_
 refine ret1 (fn:=Tryd.f34) rfl H rfl ?_
 exact ⟨rfl,(S.sel [] G G)⟩
theorem tE (x:Nat) (w:World) (hdb:InS w noF 1 (some ⟨1,0,none⟩) 64 jL) (hx:x≤4095) :
    Calls Tryd.prog 23 [.int .i64 (x:Int)].toArray w (Ret (fun u w'=>∃ (l:List Int) (A:Option Addr) (c:Nat),u = .slice A l.length c∧(l.length≤4095∧∀ k:Nat,(k:Int) ∈ l↔x.testBit k=true)∧St w noF [ownM 3 1 A l.length c (icl l)] w')):=by
 refine enter Tryd.func23 rfl Tryd.ntmps23 rfl (fun a H=>?_)
 have S:=St.start w
 refine sS H fun K1 k1=>sr 1 rfl<|sE ?_;clear H a;intro a H
 refine k1 _ ?_;clear k1 K1
 refine wp_seq_k fun K2 k2=>?_
 refine wp_block ?_
 replace S:=S.newNil 3 1 (icl [])
 refine loop_st (X:=Nat×List Int×Option Addr×Nat) (R0:=_) [] H rfl (fun ⟨y9,l9,A9,c9⟩=>[(0,.int .i64 (y9:Int)),(2,.slice A9 l9.length c9)]) (fun ⟨y9,l9,A9,c9⟩=>[ownM 3 1 A9 l9.length c9 (icl l9)]) (fun g ⟨y9,l9,A9,c9⟩=>y9≤x∧y9≤g∧l9.length+y9≤x∧∀ k:Nat,((k:Int) ∈ l9∨y9.testBit k=true)↔x.testBit k=true) (x) (x,[],none,0) ?_ (S.sel [0] G G) (H.keep [0,2] rfl) ?_
 · exact ⟨by omega,by omega,by simp,fun k=>⟨fun h=>h.elim (fun h=>by cases h) (fun h=>h),fun h => .inr h⟩⟩
 clear H S a
 intro g1 x1 a w1 hp S H K3 k3
 obtain ⟨y9,l9,A9,c9⟩:=x1
 dsimp only at hp S H
 obtain ⟨hyx,hyg,hly,hmem⟩:=hp
 refine wp_seq_k fun K4 k4=>?_
 refine sS H fun K5 k5=>sr 2 rfl<|sE ?_;clear H a;intro a H
 refine k5 _ ?_;clear k5 K5
 refine condN H rfl (fun hc1=>?_) (fun hc1=>?_)
 ·skip
  refine wp_skip ?_
  refine k4 _ _ ?_
  refine wp_seq_k fun K6 k6=>?_
  refine wp_block ?_
  refine one_list ?_
  refine ls 3 H<|sr 2 rfl<|sd (fX Tryd.underlying3 Tryd.underlying97 rfl (by first|omega|exact IntWalk.i64_in _ (by omega)|exact IntWalk.u64_in _ (by omega)))<|sE ?_;clear H a;intro a H
  refine aA H G G Tryd.func34 G G (Jw y9 _ (hdb.now S) (by omega) (by omega)) ?_;clear H a
  rintro _ _ a ⟨rfl,S2⟩ H
  replace S:=S.call S2;clear S2
  refine aX H rfl S aR bE fO G G G G G G G G G ?_;clear H a S;intro A1 _ a hA1 S H
  refine cG H rfl S aR bE fO oR G G (i:=1) G G G (ownM.inS S (i:=0) rfl) (fC (one rfl)) (by omega) (by omega) ?_;clear H a S;intro A2 c2 _ a S H
  replace S:=S.recell (i:=1) rfl (cell':=icl (l9++[tzV (y9:Int)])) (oV rfl)
  rw [show l9.length+1=(l9++[tzV (y9:Int)]).length by simp] at H S
  refine ls 1 H<|sr 1 rfl<|sE ?_;clear H a;intro a H
  refine k6 _ _ ?_
  replace H:=H.keep [0,2] rfl
  refine sO H<|sr 2 rfl<|sd (aT G G (by unfold i64ok;omega))<|sd ((qI G G (by omega) (by omega)).to (v' := .int .i64 ((y9 &&& (y9-1):Nat):Int)) (congrArg (Value.int .i64) (Gf (by omega))))<|sr 1 rfl<|sE ?_;clear H a;intro a H
  have hel:=Jv (x:=y9) (by omega)
  exact k3 (g1-1) (y9 &&& (y9-1),_,_,_) a _ (by omega) (⟨by omega,by omega,by rw [List.length_append];show l9.length+1+_≤_;omega,Ju hmem (by omega) (by omega)⟩) (S.sel [1] G G) (H.keep [0,2] rfl)
 refine wp_exit ?_
 refine k2 _ _ ?_
 refine sS H fun K9 k9=>sr 2 rfl<|sE ?_;clear H a;intro a H
 refine k9 _ ?_;clear k9 K9
 refine wp_ret ?_
 refine ret1 (fn:=Tryd.f23) rfl H rfl ?_
 obtain rfl:y9=0:=by omega
 exact ⟨l9,A9,c9,rfl,⟨by omega,fun k=>⟨fun h=>(hmem k).1 (.inl h),fun h=>((hmem k).2 h).elim (fun h=>h) (fun h=>by rw [Nat.zero_testBit] at h;cases h)⟩⟩,(S.sel [0] G G)⟩
theorem Cb (hz:Int) (sw:List Int) (SA:Option Addr) (scp:Nat) (ws:List Wr) (QA:Option Addr) (qc:Nat) (OA:Nat→Option Addr) (oc:Nat→Nat) (tl:List Trl) (TA:Option Addr) (tc:Nat) (i:Nat) (w:World) (hsw:InS w noF 1 SA sw.length (icl sw)) (hws:InS w noF 2 QA ws.length (cI ws OA oc)) (hof:∀ k,k<ws.length→InS w noF 1 (OA k) (ws.getD k Wr.zero).of.length (icl (ws.getD k Wr.zero).of)) (hsn:sw.length≤9223372036854775807) (hwn:ws.length≤9223372036854775807) (hofn:∀ k,k<ws.length→(ws.getD k Wr.zero).of.length≤9223372036854775807) (htl:InS w noF 2 TA tl.length (gN tl)) (htn:tl.length≤9223372036854775807) (hdb:InS w noF 1 (some ⟨1,0,none⟩) 64 jL) (hT:trlE hz sw ws tl=0) (hi:i<tl.length) :
    Calls Tryd.prog 9 [.agg [.int .i64 hz,.slice SA sw.length scp,.slice QA ws.length qc].toArray,.slice TA tl.length tc,.int .i64 (i:Int)].toArray w (Ret (fun u w'=>∃ (l:List Int) (A:Option Addr) (c:Nat),u = .tuple #[.slice A l.length c,.int .i64 0]∧(l.length≤4095∧∀ k:Nat,k<sw.length→((k:Int) ∈ l↔shwS hz sw ws (tl.getD i Trl.zero) k=true))∧St w noF [ownM 3 1 A l.length c (icl l)] w')):=by
 obtain ⟨hT1,hT2,hT3⟩:=sZ hT
 have V:=eI (iI hT1)
 have hns:=V.nsw
 have hhz:=V.hzb
 have hsb:=nN (hz:=hz) (sw:=sw) (ws:=ws) (t:=(tl.getD i Trl.zero)) (by omega)
 obtain ⟨x9,hx9⟩:=Int.eq_ofNat_of_zero_le hsb.1
 refine enter Tryd.func9 rfl Tryd.ntmps9 rfl (fun a H=>?_)
 have S:=St.start w
 refine seq_list fun K1 k1=>?_
 refine aQ H rfl S G G ?_;clear H a S;intro b3 _ a hb3 hbw3 S H
 refine ls 2 H<|sr 2 rfl<|sE ?_;clear H a;intro a H
 refine k1 _ _ ?_;clear k1 K1
 refine wp_seq_k fun K2 k2=>?_
 refine seq_list fun K3 k3=>?_
 refine ls 2 H<|sd ((aC bR bO rfl S (i:=0) G G))<|sr 1 rfl<|sE ?_;clear H a;intro a H
 refine aA H G G Tryd.func22 G G (qY hz sw SA scp ws QA qc OA oc tl TA tc _ (hsw.now S) (hws.now S) (fun k hk=>(hof k hk).now S) hsn hwn hofn (htl.now S) htn) ?_;clear H a
 rintro _ _ a ⟨rfl,S2⟩ H
 replace S:=S.call S2;clear S2
 rw [hT] at H
 refine ls 1 H<|sr 1 rfl<|sE ?_;clear H a;intro a H
 refine k3 _ _ ?_;clear k3 K3
 refine sS H fun K4 k4=>sr 2 rfl<|sE ?_;clear H a;intro a H
 refine k4 _ ?_;clear k4 K4
 refine cond_ H rfl (fun hc1=>?_) (fun hc1=>?_)
 ·skip
  skip
  cases hc1
 skip
 refine wp_skip ?_
 refine k2 _ _ ?_
 refine wp_seq_k fun K5 k5=>?_
 replace H:=H.keep [1,2,3] rfl
 refine sS H fun K6 k6=>sr 3 rfl<|sg 4 2 17 21 false G G (fun hg3=>by
     have hq3:=hg3;try simp only [o1,o2,o3,o4,o5,o6,o7,o8,o9,oa] at hq3
     exact sy hg3<|sr 1 rfl<|sy hg3<|sr 1 rfl<|sy hg3<|sL fU rfl<|sy hg3<|sr 1 rfl<|sz 4 G G G)<|so G G G<|sE ?_;clear H a;intro a H
 refine k6 _ ?_;clear k6 K6
 refine cond_ H rfl (fun hc2=>?_) (fun hc2=>?_)
 ·skip
  try simp only [o1,o2,o3,o4,o5,o6,o7,o8,o9,oa] at hc2
  exfalso;omega
 try simp only [o1,o2,o3,o4,o5,o6,o7,o8,o9,oa] at hc2
 refine wp_skip ?_
 refine k5 _ _ ?_
 replace H:=H.keep [1,2,3] rfl
 replace S:=S.drew
 refine seq_wq [(0,true),(1,true),(2,true),(3,true),(4,true),(5,false),(6,false),(7,true),(8,true)] (by kernel_rfl) (by kernel_rfl) (S.sel [0] G G) fun K7 k7=>?_
 refine qF H<|qd rfl (fun _ S=>(aC bR bO rfl S (i:=0) G G))<|qr 2 rfl<|qd rfl (fun _ S=>dK fU gR G G (htl.adr (by omega)) (by omega))<|qd rfl (fun _ S=>(aZ oH gR rfl S htl (by omega) (by omega)))<|qK ?_;clear H a;intro a H
 refine aS rfl ?_
 refine aA H G G Tryd.func24 G G (rA hz sw SA scp ws QA qc OA oc (tl.getD i Trl.zero).haz (tl.getD i Trl.zero).wire _ (hsw.now S) (hws.now S) (fun k hk=>(hof k hk).now S) V (Lc (by omega) (hT3 i hi))) ?_;clear H a
 rintro _ _ a ⟨rfl,S2⟩ H
 replace S:=S.call S2;clear S2
 rw [show (⟨(tl.getD i Trl.zero).haz,(tl.getD i Trl.zero).wire⟩:Trl)=(tl.getD i Trl.zero) from rfl,hx9] at H
 refine wpList_nil (And.intro (S.sel [0] G G) ?_)
 refine aS rfl ?_
 refine aA H G G Tryd.func23 G G (tE x9 _ (hdb.now S) (by omega)) ?_;clear H a
 rintro _ _ a ⟨l9,A9,c9,rfl,hl9,S2⟩ H
 replace S:=S.call S2;clear S2
 refine wpList_nil (And.intro (S.sel [1] G G) ?_)
 refine qF H<|qr 2 rfl<|qK ?_;clear H a;intro a H
 refine bK ?_
 refine k7 _ _ ?_
 clear k7 K7
 refine wp_ret ?_
 refine ret2 (fn:=Tryd.f9) rfl H G G ?_
 exact ⟨l9,A9,c9,rfl,⟨hl9.1,fun k hk=>by rw [hl9.2,←vR hk,hx9,tC]⟩,(S.sel [0] G G)⟩
end
section
theorem bZ (n lo hi:Int) (w:World) :
    Calls Tryd.prog 69 [.int .i64 n,.int .i64 lo,.int .i64 hi].toArray w (Ret (fun v w'=>v = .bool (decide (lo≤n)&&decide (n≤hi))∧w'=w)):=by
 refine enter Tryd.func69 rfl Tryd.ntmps69 rfl (fun a H=>?_)
 have S:=St.start w
 refine sS H fun K1 k1=>sr 1 rfl<|sE ?_;clear H a;intro a H
 refine k1 _ ?_;clear k1 K1
 replace H:=H.keep [0,1,2] rfl
 refine sS H fun K2 k2=>sr 4 rfl<|sg 3 3 10 13 true G G (fun hg4=>sy hg4<|sr 1 rfl<|sy hg4<|sr 1 rfl<|sy hg4<|sr 1 rfl<|sz 3 G G G)<|sa G G G<|sr 1 rfl<|sE ?_;clear H a;intro a H
 refine k2 _ ?_;clear k2 K2
 refine wp_ret ?_
 refine ret1 (fn:=Tryd.f69) rfl H rfl ?_
 exact ⟨rfl,rfl⟩
theorem tF (p1 p2 p3 p4 p5 p6 p7 pl:Int) (w:World) (hpl : -1000≤pl∧pl≤1000) :
    Calls Tryd.prog 74 [.agg [.int .i64 p1,.int .i64 p2,.int .i64 p3,.int .i64 p4,.int .i64 p5,.int .i64 p6,.int .i64 p7].toArray,.int .i64 pl].toArray w (Ret (fun v w'=>v = .bool (psgOk pl (⟨p1,p2,p3,p4,p5,p6,p7⟩:Psg))∧St w noF [] w')):=by
 refine enter Tryd.func74 rfl Tryd.ntmps74 rfl (fun a H=>?_)
 have S:=St.start w
 refine seq_list fun K1 k1=>?_
 refine aQ H rfl S G G ?_;clear H a S;intro b2 _ a hb2 hbw2 S H
 refine ls 1 H<|sr 1 rfl<|sE ?_;clear H a;intro a H
 refine k1 _ _ ?_;clear k1 K1
 refine wp_seq_k fun K2 k2=>?_
 replace H:=H.keep [1,2] rfl
 refine sS H fun K3 k3=>sf nE rfl<|sl S 0 aF G G G<|sr 1 rfl<|sd (aT G G (by unfold i64ok;omega))<|sc rfl Tryd.func69 G G (bZ _ _ _ _)<|sr 2 rfl<|sg 6 6 11 17 false G G (fun hg7=>sy hg7<|sf nF rfl<|sy hg7<|sl S 0 aF G G G<|sy hg7<|sr 1 rfl<|sy hg7<|sd (aT G G (by unfold i64ok;omega))<|sy hg7<|sc rfl Tryd.func69 G G (bZ _ _ _ _)<|sy hg7<|sr 1 rfl<|sz 6 G G G)<|so G G G<|sr 1 rfl<|sg 5 14 19 24 false G G (fun hg15=>sy hg15<|sf nE rfl<|sy hg15<|sl S 0 aF G G G<|sy hg15<|sf nF rfl<|sy hg15<|sl S 0 aF G G G<|sy hg15<|sr 1 rfl<|sz 5 G G G)<|so G G G<|sr 1 rfl<|sg 4 21 26 30 false G G (fun hg22=>sy hg22<|sf yN rfl<|sy hg22<|sl S 0 aF G G G<|sy hg22<|sc rfl Tryd.func69 G G (bZ _ _ _ _)<|sy hg22<|sr 1 rfl<|sz 4 G G G)<|so G G G<|sr 1 rfl<|sg 4 27 32 36 false G G (fun hg28=>sy hg28<|sf Ho rfl<|sy hg28<|sl S 0 aF G G G<|sy hg28<|sc rfl Tryd.func69 G G (bZ _ _ _ _)<|sy hg28<|sr 1 rfl<|sz 4 G G G)<|so G G G<|sE ?_;clear H a;intro a H
 refine k3 _ ?_;clear k3 K3
 refine cond_ H rfl (fun hc1=>?_) (fun hc1=>?_)
 ·skip
  try simp only [o1,o2,o3,o4,o5,o6,o7,o8,o9,oa] at hc1
  replace H:=H.keep [] rfl
  refine sS H fun K4 k4=>sr 1 rfl<|sE ?_;clear H a;intro a H
  refine k4 _ ?_;clear k4 K4
  refine wp_ret ?_
  refine ret1 (fn:=Tryd.f74) rfl H rfl ?_
  refine ⟨congrArg Value.bool ?_,(S.sel [] G G)⟩;exact (qP (by first|omega|(dsimp only;omega))).symm
 try simp only [o1,o2,o3,o4,o5,o6,o7,o8,o9,oa] at hc1
 refine wp_skip ?_
 refine k2 _ _ ?_
 refine wp_seq_k fun K5 k5=>?_
 refine sS H fun K6 k6=>sf nG rfl<|sl S 0 aF G G G<|sE ?_;clear H a;intro a H
 refine k6 _ ?_;clear k6 K6
 refine wp_block ?_
 have SR:=(S.sel [0] G G)
 refine meet_sr (X:=Bool) [2,39] H rfl (fun q=>[(40,.bool q)]) (fun q=>[]) (fun q=>q=decide (p3=1∨p3=2∨p3=5)) SR (fun K8 k8=>?_) ?_
 ·skip
  refine sS H fun K9 k9=>sr 2 rfl<|sE ?_;clear H a;intro a H
  refine k9 _ ?_;clear k9 K9
  refine condE H rfl (fun hc2=>?_) (fun hc2=>?_)
  ·skip
   refine wp_skip ?_
   exact k8 _ a _ (decide_eq_decide.2 (by omega)) (S.sel [0] G G) (H.keep [40,2,39] rfl)
  refine sS H fun K10 k10=>sr 2 rfl<|sE ?_;clear H a;intro a H
  refine k10 _ ?_;clear k10 K10
  refine condE H rfl (fun hc3=>?_) (fun hc3=>?_)
  ·skip
   refine wp_skip ?_
   exact k8 _ a _ (decide_eq_decide.2 (by omega)) (S.sel [0] G G) (H.keep [40,2,39] rfl)
  refine sO H<|sr 2 rfl<|sE ?_;clear H a;intro a H
  exact k8 _ a _ (decide_eq_decide.2 (by omega)) (S.sel [0] G G) (H.keep [40,2,39] rfl)
 clear SR H S a
 intro xm a wm hp S H
 obtain ⟨q,rfl⟩:∃ y,y=xm:=⟨_,rfl⟩
 subst hp
 refine cond_ H rfl (fun hc4=>?_) (fun hc4=>?_)
 ·skip
  simp only [o7,o8] at hc4
  replace H:=H.keep [2] rfl
  refine sS H fun K12 k12=>sf fY rfl<|sl S 0 aF G G G<|sr 2 rfl<|sg 3 3 47 50 true G G (fun hg4=>sy hg4<|sf rX rfl<|sy hg4<|sl S 0 aF G G G<|sy hg4<|sr 1 rfl<|sz 3 G G G)<|sa G G G<|sr 1 rfl<|sE ?_;clear H a;intro a H
  refine k12 _ ?_;clear k12 K12
  refine wp_ret ?_
  refine ret1 (fn:=Tryd.f74) rfl H rfl ?_
  refine ⟨congrArg Value.bool ?_,(S.sel [] G G)⟩;unfold psgOk;rw [←Bool.decide_and];exact decide_eq_decide.2 (by first|omega|(dsimp only;omega))
 simp only [o7,o8] at hc4
 replace H:=H.keep [2,39] rfl
 refine sS H fun K13 k13=>sr 2 rfl<|sE ?_;clear H a;intro a H
 refine k13 _ ?_;clear k13 K13
 refine condE H rfl (fun hc5=>?_) (fun hc5=>?_)
 ·skip
  replace H:=H.keep [2] rfl
  refine sS H fun K14 k14=>sf fY rfl<|sl S 0 aF G G G<|sc rfl Tryd.func69 G G (bZ _ _ _ _)<|sr 1 rfl<|sg 3 3 57 60 true G G (fun hg4=>sy hg4<|sf rX rfl<|sy hg4<|sl S 0 aF G G G<|sy hg4<|sc rfl Tryd.func69 G G (bZ _ _ _ _)<|sz 3 G G G)<|sa G G G<|sr 1 rfl<|sE ?_;clear H a;intro a H
  refine k14 _ ?_;clear k14 K14
  refine wp_ret ?_
  refine ret1 (fn:=Tryd.f74) rfl H rfl ?_
  refine ⟨congrArg Value.bool ?_,(S.sel [] G G)⟩;unfold psgOk;simp only [←Bool.decide_and];exact decide_eq_decide.2 (by first|omega|(dsimp only;omega))
 replace H:=H.keep [2,39] rfl
 refine sS H fun K15 k15=>sr 2 rfl<|sE ?_;clear H a;intro a H
 refine k15 _ ?_;clear k15 K15
 refine condE H rfl (fun hc6=>?_) (fun hc6=>?_)
 ·skip
  replace H:=H.keep [2] rfl
  refine sS H fun K16 k16=>sf fY rfl<|sl S 0 aF G G G<|sc rfl Tryd.func69 G G (bZ _ _ _ _)<|sr 1 rfl<|sg 3 3 67 70 true G G (fun hg4=>sy hg4<|sf rX rfl<|sy hg4<|sl S 0 aF G G G<|sy hg4<|sr 1 rfl<|sz 3 G G G)<|sa G G G<|sr 1 rfl<|sE ?_;clear H a;intro a H
  refine k16 _ ?_;clear k16 K16
  refine wp_ret ?_
  refine ret1 (fn:=Tryd.f74) rfl H rfl ?_
  refine ⟨congrArg Value.bool ?_,(S.sel [] G G)⟩;unfold psgOk;simp only [←Bool.decide_and];exact decide_eq_decide.2 (by first|omega|(dsimp only;omega))
 refine wp_skip ?_
 refine k5 _ _ ?_
 replace H:=H.keep [] rfl
 refine sS H fun K17 k17=>sr 1 rfl<|sE ?_;clear H a;intro a H
 refine k17 _ ?_;clear k17 K17
 refine wp_ret ?_
 refine ret1 (fn:=Tryd.f74) rfl H rfl ?_
 refine ⟨congrArg Value.bool ?_,(S.sel [] G G)⟩;exact (qP (by first|omega|(dsimp only;omega))).symm
theorem xW (pl:Int) (ps:List Psg) (PA:Option Addr) (pc:Nat) (xs:List Int) (XA:Option Addr) (xc:Nat) (w:World) (hps:InS w noF 7 PA ps.length (pcell ps)) (hpn:ps.length≤9223372036854775807) (hxs:InS w noF 1 XA xs.length (icl xs)) (hxn:xs.length≤9223372036854775807) :
    Calls Tryd.prog 66 [.agg [.int .i64 pl,.slice PA ps.length pc,.slice XA xs.length xc].toArray].toArray w (Ret (fun v w'=>v = .int .i64 (stE pl ps xs)∧St w noF [] w')):=by
 refine enter Tryd.func66 rfl Tryd.ntmps66 rfl (fun a H=>?_)
 have S:=St.start w
 refine seq_list fun K1 k1=>?_
 refine aQ H rfl S G G ?_;clear H a S;intro b1 _ a hb1 hbw1 S H
 refine ls 1 H<|sr 1 rfl<|sE ?_;clear H a;intro a H
 refine k1 _ _ ?_;clear k1 K1
 refine wp_seq_k fun K2 k2=>?_
 replace H:=H.keep [1] rfl
 refine sS H fun K3 k3=>sf gV rfl<|sl S 0 aF G G G<|sc rfl Tryd.func69 G G (bZ _ _ _ _)<|sr 2 rfl<|sg 4 4 13 17 false G G (fun hg5=>sy hg5<|sf nH rfl<|sy hg5<|sl S 0 rQ G G G<|sy hg5<|sL mT rfl<|sy hg5<|sr 1 rfl<|sz 4 G G G)<|so G G G<|sE ?_;clear H a;intro a H
 refine k3 _ ?_;clear k3 K3
 refine cond_ H rfl (fun hc1=>?_) (fun hc1=>?_)
 ·skip
  try simp only [o1,o2,o3,o4,o5,o6,o7,o8,o9,oa] at hc1
  replace H:=H.keep [] rfl
  refine sS H fun K4 k4=>sr 1 rfl<|sE ?_;clear H a;intro a H
  refine k4 _ ?_;clear k4 K4
  refine wp_ret ?_
  refine ret1 (fn:=Tryd.f66) rfl H rfl ?_
  exact ⟨congrArg _ (Ij (by omega)).symm,(S.sel [] G G)⟩
 try simp only [o1,o2,o3,o4,o5,o6,o7,o8,o9,oa] at hc1
 refine wp_skip ?_
 refine k2 _ _ ?_
 refine seq_list fun K5 k5=>?_
 refine rM (fun n:Int => .int .i64 n) H rfl S ?_;clear H a S;intro b19 _ a hb19 S H
 refine ls 1 H<|sr 1 rfl<|sE ?_;clear H a;intro a H
 refine k5 _ _ ?_;clear k5 K5
 refine wp_seq_k fun K6 k6=>?_
 refine sS H fun K7 k7=>sf nH rfl<|sl S 1 rQ G G G<|sL mT rfl<|sr 1 rfl<|sE ?_;clear H a;intro a H
 refine k7 _ ?_;clear k7 K7
 refine wp_block ?_
 refine loop_st (X:=Nat×List (Int×Value)) (R0:=_) [1,3,21,22] H rfl (fun ⟨k,l⟩=>[(23,.int .i64 (k:Int))]) (fun ⟨k,l⟩=>[mapM (fun n:Int => .int .i64 n) b19 l]) (fun g ⟨k,l⟩=>k≤ps.length∧g+k=ps.length∧allN (pasOk pl ps) k=true∧CntMap ps k l) (ps.length) (0,[]) ?_ (S.sel [0,1] G G) (H.keep [23,1,3,21,22] rfl) ?_
 · exact ⟨by omega,by omega,rfl,CntMap.nil ps⟩
 clear H S a
 intro g1 x1 a w1 hp S H K8 k8
 obtain ⟨k,l⟩:=x1
 dsimp only at hp S H
 obtain ⟨hkl,hgk,hA,hM⟩:=hp
 refine sS H fun K9 k9=>sr 1 rfl<|sE ?_;clear H a;intro a H
 refine k9 _ ?_;clear k9 K9
 refine wp_seq_k fun K10 k10=>?_
 refine condL H rfl (fun hc2=>?_) (fun hc2=>?_)
 ·skip
  refine wp_skip ?_
  refine k10 _ _ ?_
  refine wp_seq_k fun K11 k11=>?_
  refine wp_block ?_
  refine seq_list fun K12 k12=>?_
  refine ls 2 H<|si mT iQ G G (hps.adr (by omega)) (by omega)<|sd ((aZ oD iQ rfl S hps (by omega) (by omega)))<|sE ?_;clear H a;intro a H
  refine aI H rfl S uO ?_;clear H a S;intro b5 _ a hb5 hbw5 S H
  refine aD H S (i:=0) G G G G iQ G G ?_
  clear H a S;intro _ a S H
  refine k12 _ _ ?_;clear k12 K12
  refine wp_seq_k fun K13 k13=>?_
  replace H:=H.keep [1,3,5,21,22,23] rfl
  refine seq_list fun K14 k14=>?_
  refine ls 3 H<|sd ((aC oD iQ rfl S (i:=0) G G))<|sf gV rfl<|sl S 2 aF G G G<|sE ?_;clear H a;intro a H
  refine aA H G G Tryd.func74 G G (tF _ _ _ _ _ _ _ pl _ (by omega)) ?_;clear H a
  rintro _ _ a ⟨rfl,S2⟩ H
  replace S:=S.call S2;clear S2
  refine ls 1 H<|sr 1 rfl<|sE ?_;clear H a;intro a H
  refine k14 _ _ ?_;clear k14 K14
  refine cond_ H rfl (fun hc3=>?_) (fun hc3=>?_)
  ·skip
   try simp only [o1,o2,o3,o4,o5,o6,o7,o8,o9,oa] at hc3
   refine sS H fun K15 k15=>sr 1 rfl<|sE ?_;clear H a;intro a H
   refine k15 _ ?_;clear k15 K15
   refine wp_ret ?_
   refine ret1 (fn:=Tryd.f66) rfl H rfl ?_
   exact ⟨congrArg _ (Er (k:=k) (by omega) (by unfold pasOk;rw [hc3];rfl)).symm,(S.sel [] G G)⟩
  try simp only [o1,o2,o3,o4,o5,o6,o7,o8,o9,oa] at hc3
  refine wp_skip ?_
  refine k13 _ _ ?_
  have hcn:=Ii (ps:=ps) (m:=dJ ps k) k;have hc0:=Ih (ps:=ps) (m:=dJ ps k) (k:=k);have hcs:cntM ps (dJ ps k) (k+1)=cntM ps (dJ ps k) k+1:=by unfold cntM;rw [sm,if_pos rfl]
  replace H:=H.keep [1,3,5,21,22,23] rfl
  refine seq_list fun K16 k16=>?_
  refine ls 5 H<|sr 1 rfl<|sf fY rfl<|sl S 0 aF G G G<|sd ((mQ (k:=dJ ps k) S (i:=1) rfl xB (gF Tryd.underlying3) Pb G G).to (hM _))<|sd (aK G G (by unfold i64ok;omega))<|sE ?_;clear H a;intro a H
  refine oA (k:=dJ ps k) H S (i:=1) rfl xB (gF Tryd.underlying3) G G G ?_;clear H a S;intro _ a S H
  refine k16 _ _ ?_;clear k16 K16
  replace H:=H.keep [1,3,5,21,22,23] rfl
  refine seq_list fun K17 k17=>?_
  refine ls 4 H<|sf fY rfl<|sl S 0 aF G G G<|sr 2 rfl<|sE ?_;clear H a;intro a H
  apply cJ (i:=3) (g:=40) (t:=45) (b:=true) 5 H S G G (by kernel_rfl) (by kernel_rfl) G G
  case h1=>
   intro hg4
   refine ls 5 H<|sy hg4<|sr 1 rfl<|sy hg4<|sf fY rfl<|sy hg4<|sl S 0 aF G G G<|sy hg4<|sd ((mQ (k:=dJ ps k) S (i:=1) rfl xB (gF Tryd.underlying3) Pb G G).to (hM.step _))<|sy hg4<|sr 1 rfl<|sE ?_;intro a H
   exact wpList_nil ⟨H.strip 5 G G,(S.sel [0,1,2] G G)⟩
  clear H a S;intro a _ H S
  refine ls 1 H<|sa G G G<|sE ?_;clear H a;intro a H
  refine k17 _ _ ?_;clear k17 K17
  refine cond_ H rfl (fun hc4=>?_) (fun hc4=>?_)
  ·skip
   try simp only [o1,o2,o3,o4,o5,o6,o7,o8,o9,oa] at hc4
   replace H:=H.keep [] rfl
   refine sS H fun K18 k18=>sr 1 rfl<|sE ?_;clear H a;intro a H
   refine k18 _ ?_;clear k18 K18
   refine wp_ret ?_
   refine ret1 (fn:=Tryd.f66) rfl H rfl ?_
   exact ⟨congrArg _ (Er (k:=k) (by omega) (by unfold pasOk;rw [decide_eq_false (by unfold dJ at *;omega),Bool.and_false])).symm,(S.sel [] G G)⟩
  try simp only [o1,o2,o3,o4,o5,o6,o7,o8,o9,oa] at hc4
  refine wp_skip ?_
  refine k11 _ _ ?_
  refine sO H<|sd (aK G G (by unfold i64ok;omega))<|sr 1 rfl<|sE ?_;clear H a;intro a H
  exact k8 (g1-1) (k+1,_) a _ (by omega) (⟨by omega,by omega,gH hA (by unfold pasOk;rw [Bool.and_eq_true];refine ⟨hc3,decide_eq_true ?_⟩;unfold dJ at *;omega),hM.step⟩) (S.sel [1,2] G G) (H.keep [23,1,3,21,22] rfl)
 refine wp_exit ?_
 refine k6 _ _ ?_
 refine sS H fun K20 k20=>sr 1 rfl<|sE ?_;clear H a;intro a H
 refine k20 _ ?_;clear k20 K20
 refine wp_seq_k fun K21 k21=>?_
 refine sS H fun K22 k22=>sf Hp rfl<|sl S 1 bD G G G<|sL aR rfl<|sr 1 rfl<|sE ?_;clear H a;intro a H
 refine k22 _ ?_;clear k22 K22
 refine wp_block ?_
 refine loop_st (X:=Nat) (R0:=_) [1,49,50] H rfl (fun k2=>[(6,.int .i64 (if k2=0 then -1 else xs.getD (k2-1) 0)),(51,.int .i64 (k2:Int))]) (fun k2=>[]) (fun g k2=>k2≤xs.length∧g+k2=xs.length∧allN (exOk pl xs) k2=true) (xs.length) 0 ?_ (S.sel [0,1] G G) (H.keep [6,51,1,49,50] rfl) ?_
 · exact ⟨by omega,by omega,rfl⟩
 clear H S a
 intro g2 x2 a w2 hp S H K23 k23
 obtain ⟨k2,rfl⟩:∃ y,y=x2:=⟨_,rfl⟩
 have hxb:k2≠0→0≤xs.getD (k2-1) 0∧xs.getD (k2-1) 0<pl:=fun h0=>by
   have:=bL.1 hp.2.2 (k2-1) (by omega)
   unfold exOk at this
   simp only [decide_eq_true_eq] at this
   omega
 refine sS H fun K24 k24=>sr 1 rfl<|sE ?_;clear H a;intro a H
 refine k24 _ ?_;clear k24 K24
 refine wp_seq_k fun K25 k25=>?_
 refine condL H rfl (fun hc5=>?_) (fun hc5=>?_)
 ·skip
  refine wp_skip ?_
  refine k25 _ _ ?_
  refine wp_seq_k fun K26 k26=>?_
  refine wp_block ?_
  refine sS H fun K27 k27=>si aR bE G G (hxs.adr (by omega)) (by omega)<|slm aF rfl (hxs.rd S (by omega) (by omega))<|sr 1 rfl<|sE ?_;clear H a;intro a H
  refine k27 _ ?_;clear k27 K27
  refine wp_seq_k fun K28 k28=>?_
  replace H:=H.keep [1,6,8,49,50,51] rfl
  refine sS H fun K29 k29=>sr 2 rfl<|sd (aK G G (by unfold i64ok;omega))<|sf gV rfl<|sl S 1 aF G G G<|sd (aT G G (by unfold i64ok;omega))<|sc rfl Tryd.func69 G G (bZ _ _ _ _)<|sr 1 rfl<|sE ?_;clear H a;intro a H
  refine k29 _ ?_;clear k29 K29
  refine cond_ H rfl (fun hc6=>?_) (fun hc6=>?_)
  ·skip
   try simp only [o1,o2,o3,o4,o5,o6,o7,o8,o9,oa] at hc6
   refine sS H fun K30 k30=>sr 1 rfl<|sE ?_;clear H a;intro a H
   refine k30 _ ?_;clear k30 K30
   refine wp_ret ?_
   refine ret1 (fn:=Tryd.f66) rfl H rfl ?_
   exact ⟨congrArg _ (Pc (k:=k2) (by omega) (by unfold exOk;rw [decide_eq_false_iff_not];rcases Nat.eq_zero_or_pos k2 with h0|h0 <;> first|(rw [if_pos h0] at hc6;omega)|(rw [if_neg (Nat.ne_of_gt h0)] at hc6;omega))).symm,(S.sel [] rfl rfl)⟩
  try simp only [o1,o2,o3,o4,o5,o6,o7,o8,o9,oa] at hc6
  refine wp_skip ?_
  refine k28 _ _ ?_
  replace H:=H.keep [1,8,49,50,51] rfl
  refine sO H<|sr 2 rfl<|sE ?_;clear H a;intro a H
  refine k26 _ _ ?_
  refine sO H<|sd (aK G G (by unfold i64ok;omega))<|sr 1 rfl<|sE ?_;clear H a;intro a H
  exact k23 (g2-1) (k2+1) a _ (by omega) (⟨by omega,by omega,gH hp.2.2 (by unfold exOk;rw [decide_eq_true_eq];rcases Nat.eq_zero_or_pos k2 with h0|h0 <;> first|(rw [if_pos h0] at hc6;omega)|(rw [if_neg (Nat.ne_of_gt h0)] at hc6;omega))⟩) (S.sel [0,1] rfl rfl) (H.keep [6,51,1,49,50] rfl)
 refine wp_exit ?_
 refine k21 _ _ ?_
 refine sS H fun K33 k33=>sr 1 rfl<|sE ?_;clear H a;intro a H
 refine k33 _ ?_;clear k33 K33
 refine wp_ret ?_
 refine ret1 (fn:=Tryd.f66) rfl H rfl ?_
 have hk9:k=ps.length:=by omega
 have hk8:k2=xs.length:=by omega
 exact ⟨congrArg _ (Pd (by omega) (hk9 ▸ hA) (hk8 ▸ hp.2.2)).symm,(S.sel [] G G)⟩
theorem xX (pl:Int) (ps:List Psg) (PA:Option Addr) (pc:Nat) (xs:List Int) (XA:Option Addr) (xc:Nat) (pe:List Int) (BA:Option Addr) (bc:Nat) (w:World) (hpe:InS w noF 1 BA pe.length (icl pe)) (hpen:pe.length≤9223372036854775807) :
    Calls Tryd.prog 75 [.agg [.int .i64 pl,.slice PA ps.length pc,.slice XA xs.length xc].toArray,.slice BA pe.length bc].toArray w (Ret (fun v w'=>v = .bool (lL pl pe)∧St w noF [] w')):=by
 refine enter Tryd.func75 rfl Tryd.ntmps75 rfl (fun a H=>?_)
 have S:=St.start w
 refine seq_list fun K1 k1=>?_
 refine aQ H rfl S G G ?_;clear H a S;intro b2 _ a hb2 hbw2 S H
 refine ls 1 H<|sr 1 rfl<|sE ?_;clear H a;intro a H
 refine k1 _ _ ?_;clear k1 K1
 refine wp_seq_k fun K2 k2=>?_
 refine sS H fun K3 k3=>sr 1 rfl<|sL aR rfl<|sr 1 rfl<|sE ?_;clear H a;intro a H
 refine k3 _ ?_;clear k3 K3
 refine wp_block ?_
 refine loop_st (X:=Nat) (R0:=_) [1,2,7,8] H rfl (fun k=>[(9,.int .i64 (k:Int))]) (fun k=>[]) (fun g k=>k≤pe.length∧g+k=pe.length∧allN (fun k=>decide (0≤pe.getD k 0∧pe.getD k 0≤1000)) k=true) (pe.length) 0 ?_ (S.sel [0] G G) (H.keep [9,1,2,7,8] rfl) ?_
 · exact ⟨by omega,by omega,rfl⟩
 clear H S a
 intro g1 x1 a w1 hp S H K4 k4
 obtain ⟨k,rfl⟩:∃ y,y=x1:=⟨_,rfl⟩
 refine sS H fun K5 k5=>sr 1 rfl<|sE ?_;clear H a;intro a H
 refine k5 _ ?_;clear k5 K5
 refine wp_seq_k fun K6 k6=>?_
 refine condL H rfl (fun hc1=>?_) (fun hc1=>?_)
 ·skip
  refine wp_skip ?_
  refine k6 _ _ ?_
  refine wp_seq_k fun K7 k7=>?_
  refine wp_block ?_
  refine sS H fun K8 k8=>si aR bE G G (hpe.adr (by omega)) (by omega)<|slm aF rfl (hpe.rd S (by omega) (by omega))<|sr 1 rfl<|sE ?_;clear H a;intro a H
  refine k8 _ ?_;clear k8 K8
  refine sS H fun K9 k9=>sr 1 rfl<|sc rfl Tryd.func69 G G (bZ _ _ _ _)<|sr 1 rfl<|sE ?_;clear H a;intro a H
  refine k9 _ ?_;clear k9 K9
  refine cond_ H rfl (fun hc2=>?_) (fun hc2=>?_)
  ·skip
   try simp only [o1,o2,o3,o4,o5,o6,o7,o8,o9,oa] at hc2
   refine sS H fun K10 k10=>sr 1 rfl<|sE ?_;clear H a;intro a H
   refine k10 _ ?_;clear k10 K10
   refine wp_ret ?_
   refine ret1 (fn:=Tryd.f75) rfl H rfl ?_
   refine ⟨congrArg Value.bool ?_,(S.sel [] G G)⟩;unfold lL;rw [fD (k:=k) (by omega) (by rw [decide_eq_false_iff_not];omega)];rfl
  try simp only [o1,o2,o3,o4,o5,o6,o7,o8,o9,oa] at hc2
  refine wp_skip ?_
  refine k7 _ _ ?_
  replace H:=H.keep [1,2,7,8,9] rfl
  refine sO H<|sd (aK G G (by unfold i64ok;omega))<|sr 1 rfl<|sE ?_;clear H a;intro a H
  exact k4 (g1-1) (k+1) a _ (by omega) (⟨by omega,by omega,gH hp.2.2 (by rw [decide_eq_true_eq];omega)⟩) (S.sel [0] G G) (H.keep [9,1,2,7,8] rfl)
 refine wp_exit ?_
 refine k2 _ _ ?_
 refine sS H fun K12 k12=>sr 1 rfl<|sL aR rfl<|sf gV rfl<|sl S 0 aF G G G<|sr 2 rfl<|sE ?_;clear H a;intro a H
 refine k12 _ ?_;clear k12 K12
 refine wp_ret ?_
 refine ret1 (fn:=Tryd.f75) rfl H rfl ?_
 refine ⟨congrArg Value.bool ?_,(S.sel [] G G)⟩;unfold lL;rw [show pe.length=k by omega,hp.2.2,Bool.true_and]
end
section
theorem StV.mch {P:Nat} {ps:List Psg} {xs:List Int} (h:StV P ps xs) (k:Nat) (hk:k<ps.length):(ps.getD k Psg.zero).kind=4→0≤(ps.getD k Psg.zero).mach∧(ps.getD k Psg.zero).mach≤11:=fun h4=>by
  have:=qO.1 (h.pas k hk)
  omega
theorem Gg {k:Nat}:∀ q j,j<1→cput (lcl fun i=>if i<k then -1 else 0) k 0 (.int .i64 (-1)) q j=lcl (fun i=>if i<k+1 then -1 else 0) q j:=by
  intro q j hj
  have:j=0:=by omega
  subst this
  unfold cput lcl
  dsimp only
  by_cases e:q=k
  · subst e;rw [if_pos ⟨rfl,rfl⟩,if_pos (by omega)]
  · rw [if_neg (fun h=>e h.1)]
    by_cases h:q<k
    · rw [if_pos h,if_pos (by omega)]
    · rw [if_neg h,if_neg (by omega)]
theorem Gh {P k to:Nat} (hk:k=P):∀ q j,q<P→j<1→cput (lcl fun i=>if i<k then -1 else 0) to 0 (.int .i64 0) q j=lcl (tk0 to) q j:=by
  intro q j hq hj
  have:j=0:=by omega
  subst this
  unfold cput lcl tk0
  dsimp only
  by_cases e:q=to
  · subst e;rw [if_pos ⟨rfl,rfl⟩,if_pos rfl]
  · rw [if_neg (fun h=>e h.1),if_pos (by omega),if_neg e]
theorem Jx {L:Nat→Int} {p:Nat} {v:Int}:∀ k j,j<1→cput (lcl L) p 0 (.int .i64 v) k j=lcl (upd L p v) k j:=by
  intro k j hj
  have:j=0:=by omega
  subst this
  unfold cput lcl upd
  by_cases e:k=p <;> simp [e]
theorem Pq {m:Bool} (h:m=true):b2i m=1:=by subst h;rfl
theorem Na {P f:Nat} {ps:List Psg} {out:Int} {help:Bool} {tk:Nat→Int} {m:Bool} (e:P=f) (h:m=false→∀ i,i<f→∀ k,k<ps.length→FixAt ps out help tk i k):m=false→∀ i,i<P→∀ k,k<ps.length→FixAt ps out help tk i k:=by subst e;exact h
theorem Nb:∀ k j,j<1→[Value.int .i64 0].getD j undef=lcl (fun i=>if i<0 then -1 else 0) k j:=by
  intro k j hj
  have:j=0:=by omega
  subst this
  rfl
theorem xY (pl:Int) (ps:List Psg) (PA:Option Addr) (pc:Nat) (xs:List Int) (XA:Option Addr) (xc:Nat) (l:List Int) (LA:Option Addr) (lc:Nat) (w:World) (hl:InS w noF 1 LA l.length (icl l)) (hln:l.length≤9223372036854775807) (hpl : -1000≤pl∧pl≤1000) :
    Calls Tryd.prog 68 [.agg [.int .i64 pl,.slice PA ps.length pc,.slice XA xs.length xc].toArray,.slice LA l.length lc].toArray w (Ret (fun v w'=>v = .bool (plOk pl l)∧St w noF [] w')):=by
 refine enter Tryd.func68 rfl Tryd.ntmps68 rfl (fun a H=>?_)
 have S:=St.start w
 refine seq_list fun K1 k1=>?_
 refine aQ H rfl S G G ?_;clear H a S;intro b2 _ a hb2 hbw2 S H
 refine ls 1 H<|sr 1 rfl<|sE ?_;clear H a;intro a H
 refine k1 _ _ ?_;clear k1 K1
 refine wp_seq_k fun K2 k2=>?_
 refine sS H fun K3 k3=>sr 1 rfl<|sL aR rfl<|sr 1 rfl<|sE ?_;clear H a;intro a H
 refine k3 _ ?_;clear k3 K3
 refine wp_block ?_
 refine loop_st (X:=Nat) (R0:=_) [2,7,8] H rfl (fun k=>[(9,.int .i64 (k:Int))]) (fun k=>[]) (fun g k=>k≤l.length∧g+k=l.length∧allN (fun k=>decide (0≤l.getD k 0∧l.getD k 0≤pl-1)) k=true) (l.length) 0 ?_ (S.sel [0] G G) (H.keep [9,2,7,8] rfl) ?_
 · exact ⟨by omega,by omega,rfl⟩
 clear H S a
 intro g1 x1 a w1 hp S H K4 k4
 obtain ⟨k,rfl⟩:∃ y,y=x1:=⟨_,rfl⟩
 refine sS H fun K5 k5=>sr 1 rfl<|sE ?_;clear H a;intro a H
 refine k5 _ ?_;clear k5 K5
 refine wp_seq_k fun K6 k6=>?_
 refine condL H rfl (fun hc1=>?_) (fun hc1=>?_)
 ·skip
  refine wp_skip ?_
  refine k6 _ _ ?_
  refine wp_seq_k fun K7 k7=>?_
  refine wp_block ?_
  refine sS H fun K8 k8=>si aR bE G G (hl.adr (by omega)) (by omega)<|slm aF rfl (hl.rd S (by omega) (by omega))<|sr 1 rfl<|sE ?_;clear H a;intro a H
  refine k8 _ ?_;clear k8 K8
  replace H:=H.keep [2,6,7,8,9] rfl
  refine sS H fun K9 k9=>sr 1 rfl<|sf gV rfl<|sl S 0 aF G G G<|sd (aT G G (by unfold i64ok;omega))<|sc rfl Tryd.func69 G G (bZ _ _ _ _)<|sr 1 rfl<|sE ?_;clear H a;intro a H
  refine k9 _ ?_;clear k9 K9
  refine cond_ H rfl (fun hc2=>?_) (fun hc2=>?_)
  ·skip
   try simp only [o1,o2,o3,o4,o5,o6,o7,o8,o9,oa] at hc2
   refine sS H fun K10 k10=>sr 1 rfl<|sE ?_;clear H a;intro a H
   refine k10 _ ?_;clear k10 K10
   refine wp_ret ?_
   refine ret1 (fn:=Tryd.f68) rfl H rfl ?_
   exact ⟨congrArg Value.bool (xG (k:=k) (by omega) (by omega)).symm,(S.sel [] G G)⟩
  try simp only [o1,o2,o3,o4,o5,o6,o7,o8,o9,oa] at hc2
  refine wp_skip ?_
  refine k7 _ _ ?_
  refine sO H<|sd (aK G G (by unfold i64ok;omega))<|sr 1 rfl<|sE ?_;clear H a;intro a H
  exact k4 (g1-1) (k+1) a _ (by omega) (⟨by omega,by omega,gH hp.2.2 (by rw [decide_eq_true_eq];omega)⟩) (S.sel [0] G G) (H.keep [9,2,7,8] rfl)
 refine wp_exit ?_
 refine k2 _ _ ?_
 replace H:=H.keep [] rfl
 refine sS H fun K12 k12=>sr 1 rfl<|sE ?_;clear H a;intro a H
 refine k12 _ ?_;clear k12 K12
 refine wp_ret ?_
 refine ret1 (fn:=Tryd.f68) rfl H rfl ?_
 refine ⟨congrArg Value.bool ?_,(S.sel [] G G)⟩;unfold plOk;rw [show l.length=k by omega,hp.2.2]
theorem vS (P:Nat) (ps:List Psg) (PA:Option Addr) (pc:Nat) (xs:List Int) (XA:Option Addr) (xc:Nat) (out:Int) (help:Bool) (p:Psg) (f:Int) (w:World) (hm:p.kind=4→0≤p.mach∧p.mach≤11) (hou:0≤out) :
    Calls Tryd.prog 82 [.agg [.int .i64 (P:Int),.slice PA ps.length pc,.slice XA xs.length xc,.int .i64 out,.bool help].toArray,.agg [.int .i64 p.a,.int .i64 p.b,.int .i64 p.kind,.int .i64 p.ticks,.int .i64 p.wide,.int .i64 p.mach,.int .i64 p.still].toArray,.int .i64 f].toArray w (Ret (fun v w'=>v = .int .i64 (oth out help p f)∧St w noF [] w')):=by
 refine enter Tryd.func82 rfl Tryd.ntmps82 rfl (fun a H=>?_)
 have S:=St.start w
 refine seq_list fun K1 k1=>?_
 refine aQ H rfl S G G ?_;clear H a S;intro b3 _ a hb3 hbw3 S H
 refine aQ H rfl S G G ?_;clear H a S;intro b4 _ a hb4 hbw4 S H
 refine ls 1 H<|sr 1 rfl<|sE ?_;clear H a;intro a H
 refine k1 _ _ ?_;clear k1 K1
 replace H:=H.keep [2,3,4] rfl
 refine sS H fun K2 k2=>sf nG rfl<|sl S 0 aF G G G<|sr 2 rfl<|sg 12 3 11 23 false G G (fun hg4=>by
     have hq4:=hg4;try simp only [o1,o2,o3,o4,o5,o6,o7,o8,o9,oa] at hq4
     exact sy hg4<|sf nG rfl<|sy hg4<|sl S 0 aF G G G<|sy hg4<|sr 1 rfl<|sy hg4<|sr 1 rfl<|sg 7 7 15 22 true G G (fun hg8=>by
          have hq8:=hg8;try simp only [o1,o2,o3,o4,o5,o6,o7,o8,o9,oa] at hq8
          exact sy hg8<|sf Dv rfl<|sy hg8<|sl S 1 aF G G G<|sy hg8<|sf fY rfl<|sy hg8<|sl S 0 aF G G G<|sy hg8<|sd (fM G G (by omega) (by omega))<|sy hg8<|sd (eL G G)<|sy hg8<|sr 1 rfl<|sz 7 G G G)<|sy hg4<|sa G G G<|sz 6 G G G)<|so G G G<|sr 1 rfl<|sg 7 17 25 32 false G G (fun hg18=>by
     have hq18:=hg18;try simp only [o1,o2,o3,o4,o5,o6,o7,o8,o9,oa] at hq18
     exact sy hg18<|sf nG rfl<|sy hg18<|sl S 0 aF G G G<|sy hg18<|sr 1 rfl<|sy hg18<|sr 1 rfl<|sg 2 21 29 31 true G G (fun hg22=>by
          have hq22:=hg22;try simp only [o1,o2,o3,o4,o5,o6,o7,o8,o9,oa] at hq22
          exact sy hg22<|sf Dw rfl<|sy hg22<|sl S 1 kE G G G<|sz 2 G G G)<|sy hg18<|sa G G G<|sz 6 G G G)<|so G G G<|sr 1 rfl<|sE ?_;clear H a;intro a H
 refine k2 _ ?_;clear k2 K2
 refine wp_seq_k fun K3 k3=>?_
 refine wp_block ?_
 replace H:=H.keep [2,4,7] rfl
 refine sS H fun K4 k4=>sr 3 rfl<|sE ?_;clear H a;intro a H
 refine k4 _ ?_;clear k4 K4
 refine cond_ H rfl (fun hc1=>?_) (fun hc1=>?_)
 ·skip
  try simp only [o1,o2,o3,o4,o5,o6,o7,o8,o9,oa] at hc1
  refine sS H fun K5 k5=>sr 1 rfl<|sE ?_;clear H a;intro a H
  refine k5 _ ?_;clear k5 K5
  refine wp_ret ?_
  refine ret1 (fn:=Tryd.f82) rfl H rfl ?_
  refine ⟨congrArg (Value.int .i64) ?_,(S.sel [] G G)⟩;unfold oth;rw [if_pos (Pe hc1)]
 try simp only [o1,o2,o3,o4,o5,o6,o7,o8,o9,oa] at hc1
 refine sS H fun K6 k6=>sf nE rfl<|sl S 0 aF G G G<|sr 3 rfl<|sE ?_;clear H a;intro a H
 refine k6 _ ?_;clear k6 K6
 refine condE H rfl (fun hc2=>?_) (fun hc2=>?_)
 ·skip
  replace H:=H.keep [4] rfl
  refine sS H fun K7 k7=>sf nF rfl<|sl S 0 aF G G G<|sr 1 rfl<|sE ?_;clear H a;intro a H
  refine k7 _ ?_;clear k7 K7
  refine wp_ret ?_
  refine ret1 (fn:=Tryd.f82) rfl H rfl ?_
  refine ⟨congrArg (Value.int .i64) ?_,(S.sel [] G G)⟩;unfold oth othr;rw [if_neg (by rw [Et hc1];simp),if_pos hc2]
 refine sS H fun K8 k8=>sf nF rfl<|sl S 0 aF G G G<|sr 3 rfl<|sE ?_;clear H a;intro a H
 refine k8 _ ?_;clear k8 K8
 refine condE H rfl (fun hc3=>?_) (fun hc3=>?_)
 ·skip
  replace H:=H.keep [4] rfl
  refine sS H fun K9 k9=>sf nE rfl<|sl S 0 aF G G G<|sr 1 rfl<|sE ?_;clear H a;intro a H
  refine k9 _ ?_;clear k9 K9
  refine wp_ret ?_
  refine ret1 (fn:=Tryd.f82) rfl H rfl ?_
  refine ⟨congrArg (Value.int .i64) ?_,(S.sel [] G G)⟩;unfold oth othr;rw [if_neg (by rw [Et hc1];simp),if_neg hc2,if_pos hc3]
 refine wp_skip ?_
 refine k3 _ _ ?_
 refine sS H fun K10 k10=>sr 1 rfl<|sE ?_;clear H a;intro a H
 refine k10 _ ?_;clear k10 K10
 refine wp_ret ?_
 refine ret1 (fn:=Tryd.f82) rfl H rfl ?_
 refine ⟨congrArg (Value.int .i64) ?_,(S.sel [] G G)⟩;unfold oth othr;rw [if_neg (by rw [Et hc1];simp),if_neg hc2,if_neg hc3]
theorem Cc (P:Nat) (ps:List Psg) (PA:Option Addr) (pc:Nat) (xs:List Int) (XA:Option Addr) (xc:Nat) (out:Int) (help:Bool) (to:Int) (w:World) (hps:InS w noF 7 PA ps.length (pcell ps)) (hpn:ps.length≤9223372036854775807) (hxs:InS w noF 1 XA xs.length (icl xs)) (hxn:xs.length≤9223372036854775807) (hV:StV P ps xs) (hou:0≤out) (hto:0≤to∧to<P) :
    Calls Tryd.prog 76 [.agg [.int .i64 (P:Int),.slice PA ps.length pc,.slice XA xs.length xc,.int .i64 out,.bool help].toArray,.int .i64 to].toArray w (Ret (fun v w'=>∃ A c,v = .slice A P c∧FarOk P ps out help to.toNat (dst P ps out help to.toNat)∧St w noF [ownM 3 1 A P c (lcl (dst P ps out help to.toNat))] w')):=by
 have hP10:=hV.size
 refine enter Tryd.func76 rfl Tryd.ntmps76 rfl (fun a H=>?_)
 have S:=St.start w
 refine seq_list fun K1 k1=>?_
 refine aQ H rfl S G G ?_;clear H a S;intro b2 _ a hb2 hbw2 S H
 refine ls 1 H<|sr 1 rfl<|sE ?_;clear H a;intro a H
 refine k1 _ _ ?_;clear k1 K1
 refine seq_list fun K2 k2=>?_
 refine ls 3 H<|sf oQ rfl<|sf gV rfl<|sl S 0 aF G G G<|sE ?_;clear H a;intro a H
 refine jO (n:=_) H rfl S aR bE fO oR rfl (by decide) G G (by omega) (by omega) ?_;clear H a S;intro A1 _ a hA1 S H
 replace S:=S.recell (i:=0) rfl (cell':=lcl (fun i=>if i<0 then -1 else 0)) (fun k j hk hj=>Nb k j hj)
 refine ls 1 H<|sr 1 rfl<|sE ?_;clear H a;intro a H
 refine k2 _ _ ?_;clear k2 K2
 refine wp_seq_k fun K3 k3=>?_
 replace H:=H.keep [1,2,5] rfl
 refine sS H fun K4 k4=>sr 1 rfl<|sL aR rfl<|sr 1 rfl<|sE ?_;clear H a;intro a H
 refine k4 _ ?_;clear k4 K4
 refine wp_block ?_
 refine loop_st (X:=Nat) (R0:=_) [1,2,5,18] H rfl (fun k=>[(19,.int .i64 (k:Int))]) (fun k=>[ownM 3 1 A1 P P (lcl (fun i=>if i<k then -1 else 0))]) (fun g k=>k≤P∧g+k=P) (P) 0 ?_ (S.sel [0,1] G G) (H.keep [19,1,2,5,18] rfl) ?_
 · exact ⟨by omega,by omega⟩
 clear H S a
 intro g1 x1 a w1 hp S H K5 k5
 obtain ⟨k,rfl⟩:∃ y,y=x1:=⟨_,rfl⟩
 refine sS H fun K6 k6=>sr 1 rfl<|sE ?_;clear H a;intro a H
 refine k6 _ ?_;clear k6 K6
 refine wp_seq_k fun K7 k7=>?_
 refine condL H rfl (fun hc1=>?_) (fun hc1=>?_)
 ·skip
  refine wp_skip ?_
  refine k7 _ _ ?_
  refine wp_seq_k fun K8 k8=>?_
  refine wp_block ?_
  refine sS H fun K9 k9=>sr 2 rfl<|sE ?_;clear H a;intro a H
  refine k9 _ ?_;clear k9 K9
  refine one_list ?_
  refine ls 3 H<|sr 2 rfl<|si aR bE G G (ownM.adr S (i:=0) rfl (by omega)) (by omega)<|sE ?_;clear H a;intro a H
  refine bX H S (i:=0) G G G (by omega) (by omega) bE rfl ?_
  clear H a S;intro _ a S H
  replace S:=S.recell (i:=0) rfl (cell':=lcl (fun i=>if i<k+1 then -1 else 0)) (fun q j hq hj=>Gg q j hj)
  refine k8 _ _ ?_
  refine sO H<|sd (aK G G (by unfold i64ok;omega))<|sr 1 rfl<|sE ?_;clear H a;intro a H
  exact k5 (g1-1) (k+1) a _ (by omega) (⟨by omega,by omega⟩) (S.sel [0,1] G G) (H.keep [19,1,2,5,18] rfl)
 refine wp_exit ?_
 refine k3 _ _ ?_
 replace H:=H.keep [1,2,5] rfl
 refine seq_list fun K12 k12=>?_
 refine ls 3 H<|sr 2 rfl<|sI aR bE G G (ownM.adr S (i:=0) rfl (by omega)) (by omega) (by omega)<|sE ?_;clear H a;intro a H
 refine bX H S (i:=0) G G G (by omega) (by omega) bE rfl ?_
 clear H a S;intro _ a S H
 replace S:=S.recell (i:=0) rfl (cell':=lcl (tk0 to.toNat)) (fun q j hq hj=>Gh (by omega) q j hq hj)
 refine k12 _ _ ?_;clear k12 K12
 refine wp_seq_k fun K13 k13=>?_
 refine sS H fun K14 k14=>sr 1 rfl<|sE ?_;clear H a;intro a H
 refine k14 _ ?_;clear k14 K14
 refine wp_block ?_
 refine loop_st (X:=(Nat→Int)×Bool) (R0:=_) [2,5] H rfl (fun ⟨tk,mo⟩=>[(7,.bool mo)]) (fun ⟨tk,mo⟩=>[ownM 3 1 A1 P P (lcl tk)]) (fun g ⟨tk,mo⟩=>FarI P ps out help to.toNat tk∧potF P tk+b2i mo≤(g:Int)∧(mo=false→∀ i,i<P→∀ k,k<ps.length→FixAt ps out help tk i k)) ((potF P (tk0 to.toNat)+1).toNat) (tk0 to.toNat,true) ?_ (S.sel [0,1] G G) (H.keep [7,2,5] rfl) ?_
 · exact ⟨FarI.init (by omega),by have:=zD (P:=P) (tk:=tk0 to.toNat);show potF P (tk0 to.toNat)+1≤_;omega,fun h=>by cases h⟩
 clear H S a
 intro g2 x2 a w2 hp S H K15 k15
 obtain ⟨tk,mo⟩:=x2
 dsimp only at hp S H
 obtain ⟨hI,hpot,hfx⟩:=hp
 have hpn0:=zD (P:=P) (tk:=tk)
 refine wp_seq_k fun K16 k16=>?_
 refine sS H fun K17 k17=>sr 1 rfl<|sE ?_;clear H a;intro a H
 refine k17 _ ?_;clear k17 K17
 refine cond_ H rfl (fun hc2=>?_) (fun hc2=>?_)
 ·skip
  try simp only [o1,o2,o3,o4,o5,o6,o7,o8,o9,oa] at hc2
  have hb9:=Pq hc2
  refine wp_skip ?_
  refine k16 _ _ ?_
  refine wp_block ?_
  refine sS H fun K18 k18=>sr 1 rfl<|sE ?_;clear H a;intro a H
  refine k18 _ ?_;clear k18 K18
  refine sS H fun K19 k19=>sf oQ rfl<|sf gV rfl<|sl S 1 aF G G G<|sr 1 rfl<|sE ?_;clear H a;intro a H
  refine k19 _ ?_;clear k19 K19
  refine wp_block ?_
  refine loop_st (X:=Nat×(Nat→Int)×Bool) (R0:=_) [2,5,32] H rfl (fun ⟨f,tk1,m1⟩=>[(7,.bool m1),(33,.int .i64 (f:Int))]) (fun ⟨f,tk1,m1⟩=>[ownM 3 1 A1 P P (lcl tk1)]) (fun g ⟨f,tk1,m1⟩=>f≤P∧g+f=P∧FarI P ps out help to.toNat tk1∧potF P tk1+b2i m1≤potF P tk∧(m1=false→∀ i,i<f→∀ k,k<ps.length→FixAt ps out help tk1 i k)) (P) (0,tk,false) ?_ (S.sel [0,1] G G) (H.keep [7,33,2,5,32] rfl) ?_
  · exact ⟨by omega,by omega,hI,by show potF P tk+0≤_;omega,fun _ i hi=>absurd hi (Nat.not_lt_zero i)⟩
  clear H S a
  intro g3 x3 a w3 hp S H K20 k20
  obtain ⟨f,tk1,m1⟩:=x3
  dsimp only at hp S H
  obtain ⟨hfP,hgf,hI1,hpot1,hfx1⟩:=hp
  refine sS H fun K21 k21=>sr 1 rfl<|sE ?_;clear H a;intro a H
  refine k21 _ ?_;clear k21 K21
  refine wp_seq_k fun K22 k22=>?_
  refine condL H rfl (fun hc3=>?_) (fun hc3=>?_)
  ·skip
   refine wp_skip ?_
   refine k22 _ _ ?_
   refine wp_seq_k fun K23 k23=>?_
   refine wp_block ?_
   refine sS H fun K24 k24=>sr 2 rfl<|sE ?_;clear H a;intro a H
   refine k24 _ ?_;clear k24 K24
   refine sS H fun K25 k25=>sf oQ rfl<|sf nH rfl<|sl S 1 rQ G G G<|sL mT rfl<|sr 1 rfl<|sE ?_;clear H a;intro a H
   refine k25 _ ?_;clear k25 K25
   refine wp_block ?_
   refine loop_st (X:=Nat×(Nat→Int)×Bool) (R0:=_) [2,5,8,32,33,38,39] H rfl (fun ⟨k,tk2,m2⟩=>[(7,.bool m2),(40,.int .i64 (k:Int))]) (fun ⟨k,tk2,m2⟩=>[ownM 3 1 A1 P P (lcl tk2)]) (fun g ⟨k,tk2,m2⟩=>k≤ps.length∧g+k=ps.length∧FarI P ps out help to.toNat tk2∧potF P tk2+b2i m2≤potF P tk∧(m2=false→(∀ i,i<f→∀ k,k<ps.length→FixAt ps out help tk2 i k)∧∀ q,q<k→FixAt ps out help tk2 f q)) (ps.length) (0,tk1,m1) ?_ (S.sel [0,1] G G) (H.keep [7,40,2,5,8,32,33,38,39] rfl) ?_
   · exact ⟨by omega,by omega,hI1,hpot1,fun h=>⟨hfx1 h,fun q hq=>absurd hq (Nat.not_lt_zero q)⟩⟩
   clear H S a
   intro g4 x4 a w4 hp S H K26 k26
   obtain ⟨k,tk2,m2⟩:=x4
   dsimp only at hp S H
   obtain ⟨hkl,hgk,hI2,hpot2,hfx2⟩:=hp
   refine sS H fun K27 k27=>sr 1 rfl<|sE ?_;clear H a;intro a H
   refine k27 _ ?_;clear k27 K27
   refine wp_seq_k fun K28 k28=>?_
   refine condL H rfl (fun hc4=>?_) (fun hc4=>?_)
   ·skip
    refine wp_skip ?_
    refine k28 _ _ ?_
    refine wp_seq_k fun K29 k29=>?_
    refine wp_block ?_
    refine seq_list fun K30 k30=>?_
    refine ls 2 H<|si mT iQ G G (hps.adr (by omega)) (by omega)<|sd ((aZ oD iQ rfl S hps (by omega) (by omega)))<|sE ?_;clear H a;intro a H
    refine aI H rfl S uO ?_;clear H a S;intro b10 _ a hb10 hbw10 S H
    refine aD H S (i:=0) G G G G iQ G G ?_
    clear H a S;intro _ a S H
    refine k30 _ _ ?_;clear k30 K30
    replace H:=H.keep [2,5,7,8,10,32,33,38,39,40] rfl
    refine seq_list fun K31 k31=>?_
    refine ls 3 H<|sd ((aC yM Dk rfl S (i:=2) G G))<|sd ((aC oD iQ rfl S (i:=0) G G))<|sr 1 rfl<|sE ?_;clear H a;intro a H
    refine aA H G G Tryd.func82 G G (vS P ps PA pc xs XA xc out help (ps.getD k Psg.zero) (f:Int) _ (hV.mch k (by omega)) hou) ?_;clear H a
    rintro _ _ a ⟨rfl,S2⟩ H
    replace S:=S.call S2;clear S2
    have hoi:0≤oth out help (ps.getD k Psg.zero) (f:Int)→oth out help (ps.getD k Psg.zero) (f:Int)<P:=fun h=>(pA hV.psv (show k<ps.length by omega) h).2.1
    have htb:=(hV.psv k (by omega)).2.2
    refine ls 1 H<|sr 1 rfl<|sE ?_;clear H a;intro a H
    refine k31 _ _ ?_;clear k31 K31
    refine wp_seq_k fun K32 k32=>?_
    replace H:=H.keep [2,5,7,8,10,11,32,33,38,39,40] rfl
    refine sS H fun K33 k33=>sr 3 rfl<|sg 5 2 50 55 false G G (fun hg3=>by
        have hq3:=hg3;try simp only [o1,o2,o3,o4,o5,o6,o7,o8,o9,oa] at hq3
        exact sy hg3<|sr 1 rfl<|sy hg3<|sr 1 rfl<|sy hg3<|sI aR bE G G (ownM.adr S (i:=1) rfl (by omega)) (by omega) (by omega)<|sy hg3<|slm aF rfl (ownM.rd S (i:=1) rfl (by omega) (by omega))<|sy hg3<|sr 1 rfl<|sz 5 G G G)<|so G G G<|sE ?_;clear H a;intro a H
    refine k33 _ ?_;clear k33 K33
    refine cond_ H rfl (fun hc5=>?_) (fun hc5=>?_)
    ·skip
     try simp only [o1,o2,o3,o4,o5,o6,o7,o8,o9,oa] at hc5
     refine wp_exit ?_
     refine k29 _ _ ?_
     replace H:=H.keep [2,5,7,8,32,33,38,39,40] rfl
     refine sO H<|sd (aK G G (by unfold i64ok;omega))<|sr 1 rfl<|sE ?_;clear H a;intro a H
     exact k26 (g4-1) (k+1,_,_) a _ (by omega) (by first|exact ⟨by omega,by omega,hI2.up hV.psv (by omega) (by omega) (by omega) (by omega) (by omega) (by omega) (by omega) hpot2⟩|exact ⟨by omega,by omega,hI2,hpot2,sT (P:=P) hfx2 (pB (by omega))⟩) (S.sel [1,2] G G) (H.keep [7,40,2,5,8,32,33,38,39] rfl)
    try simp only [o1,o2,o3,o4,o5,o6,o7,o8,o9,oa] at hc5
    refine wp_skip ?_
    refine k32 _ _ ?_
    have hsm:=hI2.small (by omega) (i:=(oth out help (ps.getD k Psg.zero) f).toNat) (by omega)
    replace H:=H.keep [2,5,7,8,10,11,32,33,38,39,40] rfl
    replace S:=S.drew
    refine sD H fun K35 k35=>sr 2 rfl<|sI aR bE G G (ownM.adr S (i:=1) rfl (by omega)) (by omega) (by omega)<|slm aF rfl (ownM.rd S (i:=1) rfl (by omega) (by omega))<|sf yN rfl<|sl S 0 aF G G G<|sd (aK G G (by unfold i64ok;omega))<|sr 1 rfl<|sE ?_;clear H a;intro a H
    refine k35 _ ?_;clear k35 K35
    replace H:=H.keep [2,5,7,8,12,32,33,38,39,40] rfl
    refine sS H fun K36 k36=>sr 2 rfl<|si aR bE G G (ownM.adr S (i:=1) rfl (by omega)) (by omega)<|slm aF rfl (ownM.rd S (i:=1) rfl (by omega) (by omega))<|sr 2 rfl<|sg 6 5 69 75 false G G (fun hg6=>by
        have hq6:=hg6;try simp only [o1,o2,o3,o4,o5,o6,o7,o8,o9,oa] at hq6
        exact sy hg6<|sr 1 rfl<|sy hg6<|sr 1 rfl<|sy hg6<|sr 1 rfl<|sy hg6<|si aR bE G G (ownM.adr S (i:=1) rfl (by omega)) (by omega)<|sy hg6<|slm aF rfl (ownM.rd S (i:=1) rfl (by omega) (by omega))<|sy hg6<|sr 1 rfl<|sz 6 G G G)<|so G G G<|sE ?_;clear H a;intro a H
    refine k36 _ ?_;clear k36 K36
    refine cond_ H rfl (fun hc6=>?_) (fun hc6=>?_)
    ·skip
     try simp only [o1,o2,o3,o4,o5,o6,o7,o8,o9,oa] at hc6
     replace H:=H.keep [2,5,8,12,32,33,38,39,40] rfl
     refine one_list ?_
     refine ls 4 H<|sr 3 rfl<|si aR bE G G (ownM.adr S (i:=1) rfl (by omega)) (by omega)<|sE ?_;clear H a;intro a H
     refine bX H S (i:=1) G G G (by omega) (by omega) bE rfl ?_
     clear H a S;intro _ a S H
     replace S:=S.recell (i:=1) rfl (cell':=lcl (upd tk2 f (tk2 (oth out help (ps.getD k Psg.zero) f).toNat+(ps.getD k Psg.zero).ticks))) (fun q j hq hj=>Jx q j hj)
     refine ls 1 H<|sr 1 rfl<|sE ?_;clear H a;intro a H
     refine k29 _ _ ?_
     refine sO H<|sd (aK G G (by unfold i64ok;omega))<|sr 1 rfl<|sE ?_;clear H a;intro a H
     exact k26 (g4-1) (k+1,_,_) a _ (by omega) (by first|exact ⟨by omega,by omega,hI2.up hV.psv (by omega) (by omega) (by omega) (by omega) (by omega) (by omega) (by omega) hpot2⟩|exact ⟨by omega,by omega,hI2,hpot2,sT (P:=P) hfx2 (pB (by omega))⟩) (S.sel [1,2] G G) (H.keep [7,40,2,5,8,32,33,38,39] rfl)
    try simp only [o1,o2,o3,o4,o5,o6,o7,o8,o9,oa] at hc6
    refine wp_skip ?_
    refine k29 _ _ ?_
    replace H:=H.keep [2,5,7,8,32,33,38,39,40] rfl
    refine sO H<|sd (aK G G (by unfold i64ok;omega))<|sr 1 rfl<|sE ?_;clear H a;intro a H
    exact k26 (g4-1) (k+1,_,_) a _ (by omega) (by first|exact ⟨by omega,by omega,hI2.up hV.psv (by omega) (by omega) (by omega) (by omega) (by omega) (by omega) (by omega) hpot2⟩|exact ⟨by omega,by omega,hI2,hpot2,sT (P:=P) hfx2 (pB (by omega))⟩) (S.sel [1,2] G G) (H.keep [7,40,2,5,8,32,33,38,39] rfl)
   refine wp_exit ?_
   refine k23 _ _ ?_
   refine sO H<|sd (aK G G (by unfold i64ok;omega))<|sr 1 rfl<|sE ?_;clear H a;intro a H
   exact k20 (g3-1) (f+1,tk2,m2) a _ (by omega) (⟨by omega,by omega,hI2,hpot2,Mc (P:=P) (by omega) hfx2⟩) (S.sel [0,1] G G) (H.keep [7,33,2,5,32] rfl)
  refine wp_exit ?_
  exact k15 (g2-1) (tk1,m1) a _ (by omega) (⟨hI1,by omega,Na (by omega) hfx1⟩) (S.sel [0,1] G G) (H.keep [7,2,5] rfl)
 try simp only [o1,o2,o3,o4,o5,o6,o7,o8,o9,oa] at hc2
 refine wp_exit ?_
 refine k13 _ _ ?_
 refine sS H fun K41 k41=>sr 2 rfl<|sE ?_;clear H a;intro a H
 refine k41 _ ?_;clear k41 K41
 refine wp_ret ?_
 refine ret1 (fn:=Tryd.f76) rfl H rfl ?_
 have hmf:mo=false:=by (cases mo <;> simp_all)
 have hok:=hI.done (by omega) (hfx hmf)
 have hdo:=Md hV.psv (by omega) hok
 replace S:=S.recell (i:=0) rfl (cell':=lcl (dst P ps out help to.toNat)) (fun q j hq hj=>by unfold lcl;rw [kL hV.psv hok hq])
 exact ⟨_,_,rfl,hdo,(S.sel [0] G G)⟩
theorem tG (P:Nat) (ps:List Psg) (PA:Option Addr) (pc:Nat) (xs:List Int) (XA:Option Addr) (xc:Nat) (out:Int) (help:Bool) (fr to:Int) (w:World) (hps:InS w noF 7 PA ps.length (pcell ps)) (hpn:ps.length≤9223372036854775807) (hxs:InS w noF 1 XA xs.length (icl xs)) (hxn:xs.length≤9223372036854775807) (hV:StV P ps xs) (hou:0≤out) (hfr:0≤fr∧fr<P) (hto:0≤to∧to<P) :
    Calls Tryd.prog 70 [.agg [.int .i64 (P:Int),.slice PA ps.length pc,.slice XA xs.length xc,.int .i64 out,.bool help].toArray,.int .i64 fr,.int .i64 to].toArray w (Ret (fun v w'=>v = .bool (decide (0≤dst P ps out help to.toNat fr.toNat))∧FarOk P ps out help to.toNat (dst P ps out help to.toNat)∧St w noF [] w')):=by
 refine enter Tryd.func70 rfl Tryd.ntmps70 rfl (fun a H=>?_)
 have S:=St.start w
 refine seq_list fun K1 k1=>?_
 refine aQ H rfl S G G ?_;clear H a S;intro b3 _ a hb3 hbw3 S H
 refine ls 1 H<|sr 1 rfl<|sE ?_;clear H a;intro a H
 refine k1 _ _ ?_;clear k1 K1
 replace H:=H.keep [1,2,3] rfl
 refine seq_list fun K2 k2=>?_
 refine ls 2 H<|sd ((aC yM Dk rfl S (i:=0) G G))<|sr 1 rfl<|sE ?_;clear H a;intro a H
 refine aA H G G Tryd.func76 G G (Cc P ps PA pc xs XA xc out help to _ (hps.now S) hpn (hxs.now S) hxn hV hou hto) ?_;clear H a
 rintro _ _ a ⟨A5,c5,rfl,hdo,S2⟩ H
 replace S:=S.call S2;clear S2
 refine ls 5 H<|sr 1 rfl<|sI aR bE G G (ownM.adr S (i:=0) rfl (by omega)) (by omega) (by omega)<|slm aF rfl (ownM.rd S (i:=0) rfl (by omega) (by omega))<|sr 2 rfl<|sE ?_;clear H a;intro a H
 refine k2 _ _ ?_;clear k2 K2
 refine wp_ret ?_
 refine ret1 (fn:=Tryd.f70) rfl H rfl ?_
 exact ⟨rfl,hdo,(S.sel [] G G)⟩
end
section
theorem vT {pl a b:Int}:plOk pl [a,b]=true↔(0≤a∧a≤pl-1)∧(0≤b∧b≤pl-1):=by
  unfold plOk
  rw [bL]
  constructor
  · intro h
    have h0:=h 0 (show 0<2 by omega)
    have h1:=h 1 (show 1<2 by omega)
    exact ⟨of_decide_eq_true h0,of_decide_eq_true h1⟩
  · rintro ⟨h0,h1⟩ k hk
    match k,hk with
    | 0,_=>exact decide_eq_true h0
    | 1,_=>exact decide_eq_true h1
theorem xZ {pl a b:Int} (h:plOk pl [a,b]=false):¬ ((0≤a∧a≤pl-1)∧(0≤b∧b≤pl-1)):=fun h2=>by rw [vT.2 h2] at h;cases h
section
variable {pl:Int} {ps:List Psg} {xs:List Int} {day:List Hq} {l:List Prm}
theorem vU (h:stE pl ps xs≠0):keptE pl ps xs day l=stE pl ps xs:=by
  have:dayE pl ps xs day=stE pl ps xs:=by unfold dayE;rw [if_pos h]
  unfold keptE;rw [this,if_pos h]
theorem rB (h:stE pl ps xs=0) (hd:dayOk pl day=false):keptE pl ps xs day l=81:=by
  have:dayE pl ps xs day=81:=by unfold dayE;rw [if_neg (by omega),if_neg (by rw [hd];simp)]
  unfold keptE;rw [this];rfl
theorem Cd (h:stE pl ps xs=0) (hd:dayOk pl day=true):dayE pl ps xs day=0:=by unfold dayE;rw [if_neg (by omega),if_pos hd]
theorem rC (h:dayE pl ps xs day=0) (hd:prsOk pl l=false):keptE pl ps xs day l=82:=by unfold keptE;rw [if_neg (by omega),if_neg (by rw [hd];simp)]
theorem yA (h:dayE pl ps xs day=0) (hd:prsOk pl l=true):keptE pl ps xs day l=0:=by unfold keptE;rw [if_neg (by omega),if_pos hd]
theorem Gi (h:¬ l.length≤40):prsOk pl l=false:=by unfold prsOk;rw [decide_eq_false h,Bool.and_false]
theorem Jy {k:Nat} (hk:k<l.length) (h:prmOk pl (l.getD k Prm.zero)=false):prsOk pl l=false:=by unfold prsOk;rw [fD hk h];rfl
theorem Jz (h:allN (fun k=>prmOk pl (l.getD k Prm.zero)) l.length=true) (h2:l.length≤40):prsOk pl l=true:=by unfold prsOk;rw [h,decide_eq_true h2];rfl
theorem Nc {p:Prm} (h:¬ (0≤p.fr∧p.fr≤pl-1∧0≤p.to∧p.to≤pl-1∧0≤p.first∧p.first≤p.last∧p.last<48)):prmOk pl p=false:=by unfold prmOk;exact decide_eq_false h
theorem Gj {P:Nat} {h:Hq} {n:Nat} {p:Prm} (h1:p.first≤(n:Int)∧(n:Int)≤p.last) (h2:dst P ps h.out (h.help&&p.helped) p.to.toNat p.fr.toNat<0):eA P ps h n p=true:=by
  unfold eA;rw [decide_eq_true h1.1,decide_eq_true h1.2,decide_eq_true h2];rfl
theorem Ce {P:Nat} {h:Hq} {n:Nat} {p:Prm} (h1:¬ (p.first≤(n:Int)∧(n:Int)≤p.last)):eA P ps h n p=false:=by
  unfold eA
  by_cases h2:p.first≤(n:Int)
  · rw [decide_eq_false (p:=(n:Int)≤p.last) (by omega),Bool.and_false];rfl
  · rw [decide_eq_false h2];rfl
theorem Cf {P:Nat} {h:Hq} {n:Nat} {p:Prm} (h2:¬ dst P ps h.out (h.help&&p.helped) p.to.toNat p.fr.toNat<0):eA P ps h n p=false:=by
  unfold eA;rw [decide_eq_false h2,Bool.and_false]
end
theorem yB (pl:Int) (ps:List Psg) (PA:Option Addr) (pc:Nat) (xs:List Int) (XA:Option Addr) (xc:Nat) (day:List Hq) (HA:Option Addr) (hcp:Nat) (DA:Nat→Option Addr) (dc:Nat→Nat) (w:World) (hps:InS w noF 7 PA ps.length (pcell ps)) (hpn:ps.length≤9223372036854775807) (hxs:InS w noF 1 XA xs.length (icl xs)) (hxn:xs.length≤9223372036854775807) (hday:InS w noF 3 HA day.length (hcl day DA dc)) (hdn:day.length≤9223372036854775807) (hdp:∀ k,k<day.length→InS w noF 1 (DA k) (day.getD k Hq.zero).pe.length (icl (day.getD k Hq.zero).pe)) (hdl:∀ k,k<day.length→(day.getD k Hq.zero).pe.length≤9223372036854775807) :
    Calls Tryd.prog 67 [.agg [.int .i64 pl,.slice PA ps.length pc,.slice XA xs.length xc].toArray,.slice HA day.length hcp].toArray w (Ret (fun v w'=>v = .bool (dayOk pl day)∧St w noF [] w')):=by
 refine enter Tryd.func67 rfl Tryd.ntmps67 rfl (fun a H=>?_)
 have S:=St.start w
 refine seq_list fun K1 k1=>?_
 refine aQ H rfl S G G ?_;clear H a S;intro b2 _ a hb2 hbw2 S H
 refine ls 1 H<|sr 1 rfl<|sE ?_;clear H a;intro a H
 refine k1 _ _ ?_;clear k1 K1
 refine wp_seq_k fun K2 k2=>?_
 refine sS H fun K3 k3=>sr 1 rfl<|sL oK rfl<|sr 1 rfl<|sE ?_;clear H a;intro a H
 refine k3 _ ?_;clear k3 K3
 refine wp_block ?_
 refine loop_st (X:=Nat) (R0:=_) [1,2,7,8] H rfl (fun k=>[(9,.int .i64 (k:Int))]) (fun k=>[]) (fun g k=>k≤day.length∧g+k=day.length∧allN (fun k=>hqOk pl (day.getD k Hq.zero)) k=true) (day.length) 0 ?_ (S.sel [0] G G) (H.keep [9,1,2,7,8] rfl) ?_
 · exact ⟨by omega,by omega,rfl⟩
 clear H S a
 intro g1 x1 a w1 hp S H K4 k4
 obtain ⟨k,rfl⟩:∃ y,y=x1:=⟨_,rfl⟩
 refine sS H fun K5 k5=>sr 1 rfl<|sE ?_;clear H a;intro a H
 refine k5 _ ?_;clear k5 K5
 refine wp_seq_k fun K6 k6=>?_
 refine condL H rfl (fun hc1=>?_) (fun hc1=>?_)
 ·skip
  refine wp_skip ?_
  refine k6 _ _ ?_
  refine wp_seq_k fun K7 k7=>?_
  refine wp_block ?_
  refine seq_list fun K8 k8=>?_
  refine ls 2 H<|si oK mA G G (hday.adr (by omega)) (by omega)<|sd ((aZ yL mA rfl S hday (by omega) (by omega)))<|sE ?_;clear H a;intro a H
  refine aI H rfl S Ec ?_;clear H a S;intro b6 _ a hb6 hbw6 S H
  refine aD H S (i:=0) G G G G mA G G ?_
  clear H a S;intro _ a S H
  refine k8 _ _ ?_;clear k8 K8
  replace H:=H.keep [1,2,6,7,8,9] rfl
  refine seq_list fun K9 k9=>?_
  refine ls 2 H<|sf uN rfl<|sl S 0 aF G G G<|sE ?_;clear H a;intro a H
  refine aA H G G Tryd.func69 G G (bZ _ _ _ _) ?_;clear H a
  rintro _ _ a ⟨rfl,rfl⟩ H
  refine ls 2 H<|sr 2 rfl<|sE ?_;clear H a;intro a H
  apply cJ (i:=4) (g:=17) (t:=22) (b:=false) 5 H S G G (by kernel_rfl) (by kernel_rfl) G G
  case h1=>
   intro hg5
   have hq5:=hg5;try simp only [o1,o2,o3,o4,o5,o6,o7,o8,o9,oa] at hq5
   refine ls 3 H<|sy hg5<|sd ((aC kK mR rfl S (i:=1) G G))<|sy hg5<|sf Du rfl<|sy hg5<|sl S 0 bD G G G<|sE ?_;intro a H
   refine cV H G G (by assumption) ?_
   refine aA H G G Tryd.func75 G G (xX pl ps PA pc xs XA xc (day.getD k Hq.zero).pe (DA k) (dc k) _ ((hdp k (by omega)).now S) (hdl k (by omega))) ?_
   rintro _ _ a ⟨rfl,S2⟩ H
   replace S:=S.call S2;clear S2
   refine ls 1 H<|sy hg5<|sr 1 rfl<|sE ?_;intro a H
   exact wpList_nil ⟨H.strip 5 G G,(S.sel [0,1] G G)⟩
  clear H a S;intro a _ H S
  refine ls 1 H<|so G G G<|sE ?_;clear H a;intro a H
  refine k9 _ _ ?_;clear k9 K9
  refine cond_ H rfl (fun hc2=>?_) (fun hc2=>?_)
  ·skip
   try simp only [o1,o2,o3,o4,o5,o6,o7,o8,o9,oa] at hc2
   replace H:=H.keep [] rfl
   refine sS H fun K10 k10=>sr 1 rfl<|sE ?_;clear H a;intro a H
   refine k10 _ ?_;clear k10 K10
   refine wp_ret ?_
   refine ret1 (fn:=Tryd.f67) rfl H rfl ?_
   exact ⟨congrArg Value.bool (Ey (k:=k) (by omega) (by unfold hqOk;rcases hc2 with h|h;(rw [decide_eq_false (by omega)];rfl);(rw [h,Bool.and_false]))).symm,(S.sel [] rfl rfl)⟩
  try simp only [o1,o2,o3,o4,o5,o6,o7,o8,o9,oa] at hc2
  refine wp_skip ?_
  refine k7 _ _ ?_
  refine sO H<|sd (aK G G (by unfold i64ok;omega))<|sr 1 rfl<|sE ?_;clear H a;intro a H
  exact k4 (g1-1) (k+1) a _ (by omega) (⟨by omega,by omega,gH hp.2.2 (by unfold hqOk;rw [decide_eq_true (by omega),hc2.2];rfl)⟩) (S.sel [1] G G) (H.keep [9,1,2,7,8] rfl)
 refine wp_exit ?_
 refine k2 _ _ ?_
 refine sS H fun K12 k12=>sr 1 rfl<|sL oK rfl<|sr 2 rfl<|sE ?_;clear H a;intro a H
 refine k12 _ ?_;clear k12 K12
 refine wp_ret ?_
 refine ret1 (fn:=Tryd.f67) rfl H rfl ?_
 obtain rfl:k=day.length:=by omega
 refine ⟨congrArg Value.bool ?_,(S.sel [] G G)⟩
 rw [Ez hp.2.2]
 exact decide_eq_decide.2 (by omega)
theorem Cg (pl:Int) (ps:List Psg) (PA:Option Addr) (pc:Nat) (xs:List Int) (XA:Option Addr) (xc:Nat) (day:List Hq) (HA:Option Addr) (hcp:Nat) (DA:Nat→Option Addr) (dc:Nat→Nat) (l:List Prm) (LA:Option Addr) (lc:Nat) (w:World) (hps:InS w noF 7 PA ps.length (pcell ps)) (hpn:ps.length≤9223372036854775807) (hxs:InS w noF 1 XA xs.length (icl xs)) (hxn:xs.length≤9223372036854775807) (hday:InS w noF 3 HA day.length (hcl day DA dc)) (hdn:day.length≤9223372036854775807) (hdp:∀ k,k<day.length→InS w noF 1 (DA k) (day.getD k Hq.zero).pe.length (icl (day.getD k Hq.zero).pe)) (hdl:∀ k,k<day.length→(day.getD k Hq.zero).pe.length≤9223372036854775807) (hl:InS w noF 5 LA l.length (Ev l)) (hln:l.length≤9223372036854775807) :
    Calls Tryd.prog 61 [.agg [.int .i64 pl,.slice PA ps.length pc,.slice XA xs.length xc].toArray,.slice HA day.length hcp,.slice LA l.length lc].toArray w (Ret (fun u w'=>u = .tuple #[.int .i64 (keptV pl ps xs day l).1,.int .i64 (keptV pl ps xs day l).2.1,.bool (keptV pl ps xs day l).2.2.1,.int .i64 (keptV pl ps xs day l).2.2.2]∧St w noF [] w')):=by
 refine enter Tryd.func61 rfl Tryd.ntmps61 rfl (fun a H=>?_)
 have S:=St.start w
 refine seq_list fun K1 k1=>?_
 refine aQ H rfl S G G ?_;clear H a S;intro b3 _ a hb3 hbw3 S H
 refine ls 4 H<|sr 4 rfl<|sE ?_;clear H a;intro a H
 refine k1 _ _ ?_;clear k1 K1
 refine wp_seq_k fun K2 k2=>?_
 refine seq_list fun K3 k3=>?_
 refine ls 1 H<|sd ((aC kK mR rfl S (i:=0) G G))<|sE ?_;clear H a;intro a H
 refine aA H G G Tryd.func66 G G (xW pl ps PA pc xs XA xc _ (hps.now S) hpn (hxs.now S) hxn) ?_;clear H a
 rintro _ _ a ⟨rfl,S2⟩ H
 replace S:=S.call S2;clear S2
 refine ls 1 H<|sr 1 rfl<|sE ?_;clear H a;intro a H
 refine k3 _ _ ?_;clear k3 K3
 replace H:=H.keep [1,2,3,9] rfl
 refine sS H fun K4 k4=>sr 2 rfl<|sE ?_;clear H a;intro a H
 refine k4 _ ?_;clear k4 K4
 refine condN H rfl (fun hc1=>?_) (fun hc1=>?_)
 ·skip
  refine sS H fun K5 k5=>sr 5 rfl<|sE ?_;clear H a;intro a H
  refine k5 _ ?_;clear k5 K5
  refine wp_ret ?_
  refine ret4 (fn:=Tryd.f61) rfl H G G G G ?_
  rw [lN (by rw [vU hc1];exact hc1),vU hc1]
  exact ⟨rfl,(S.sel [] G G)⟩
 have hst:stE pl ps xs=0:=by omega
 have hV0:=oY hst
 obtain ⟨P,rfl⟩:∃ P:Nat,pl=P:=⟨pl.toNat,by have:=hV0.size;omega⟩
 have hV:=hV0
 have hP10:=hV.size
 refine wp_skip ?_
 refine k2 _ _ ?_
 refine wp_seq_k fun K6 k6=>?_
 replace H:=H.keep [1,2,3] rfl
 refine seq_list fun K7 k7=>?_
 refine ls 2 H<|sd ((aC kK mR rfl S (i:=0) G G))<|sr 1 rfl<|sE ?_;clear H a;intro a H
 refine aA H G G Tryd.func67 G G (yB P ps PA pc xs XA xc day HA hcp DA dc _ (hps.now S) hpn (hxs.now S) hxn (hday.now S) hdn (fun k hk=>(hdp k hk).now S) hdl) ?_;clear H a
 rintro _ _ a ⟨rfl,S2⟩ H
 replace S:=S.call S2;clear S2
 refine ls 1 H<|sr 1 rfl<|sE ?_;clear H a;intro a H
 refine k7 _ _ ?_;clear k7 K7
 refine cond_ H rfl (fun hc2=>?_) (fun hc2=>?_)
 ·skip
  try simp only [o1,o2,o3,o4,o5,o6,o7,o8,o9,oa] at hc2
  refine sS H fun K8 k8=>sr 4 rfl<|sE ?_;clear H a;intro a H
  refine k8 _ ?_;clear k8 K8
  refine wp_ret ?_
  refine ret4 (fn:=Tryd.f61) rfl H G G G G ?_
  rw [lN (by rw [rB hst hc2];decide),rB hst hc2]
  exact ⟨rfl,(S.sel [] G G)⟩
 try simp only [o1,o2,o3,o4,o5,o6,o7,o8,o9,oa] at hc2
 have hdE:=Cd hst hc2
 have hdk:=Ew hc2
 refine wp_skip ?_
 refine k6 _ _ ?_
 refine wp_seq_k fun K9 k9=>?_
 replace H:=H.keep [1,2,3] rfl
 refine sS H fun K10 k10=>sr 1 rfl<|sL uE rfl<|sr 1 rfl<|sE ?_;clear H a;intro a H
 refine k10 _ ?_;clear k10 K10
 refine condL H rfl (fun hc3=>?_) (fun hc3=>?_)
 ·skip
  refine sS H fun K11 k11=>sr 4 rfl<|sE ?_;clear H a;intro a H
  refine k11 _ ?_;clear k11 K11
  refine wp_ret ?_
  refine ret4 (fn:=Tryd.f61) rfl H G G G G ?_
  have e9:=rC hdE (Gi (l:=l) (by omega))
  rw [lN (by rw [e9];decide),e9]
  exact ⟨rfl,(S.sel [] G G)⟩
 refine wp_skip ?_
 refine k9 _ _ ?_
 refine wp_seq_k fun K12 k12=>?_
 replace H:=H.keep [1,2,3] rfl
 refine sS H fun K13 k13=>sr 1 rfl<|sL uE rfl<|sr 1 rfl<|sE ?_;clear H a;intro a H
 refine k13 _ ?_;clear k13 K13
 refine wp_block ?_
 refine loop_st (X:=Nat) (R0:=_) [1,2,3,28,29] H rfl (fun k=>[(30,.int .i64 (k:Int))]) (fun k=>[]) (fun g k=>k≤l.length∧g+k=l.length∧allN (fun k=>prmOk P (l.getD k Prm.zero)) k=true) (l.length) 0 ?_ (S.sel [0] G G) (H.keep [30,1,2,3,28,29] rfl) ?_
 · exact ⟨by omega,by omega,rfl⟩
 clear H S a
 intro g1 x1 a w1 hp S H K14 k14
 obtain ⟨k,rfl⟩:∃ y,y=x1:=⟨_,rfl⟩
 refine sS H fun K15 k15=>sr 1 rfl<|sE ?_;clear H a;intro a H
 refine k15 _ ?_;clear k15 K15
 refine wp_seq_k fun K16 k16=>?_
 refine condL H rfl (fun hc4=>?_) (fun hc4=>?_)
 ·skip
  refine wp_skip ?_
  refine k16 _ _ ?_
  refine wp_seq_k fun K17 k17=>?_
  refine wp_block ?_
  refine seq_list fun K18 k18=>?_
  refine ls 2 H<|si uE lZ G G (hl.adr (by omega)) (by omega)<|sd ((aZ yK lZ rfl S hl (by omega) (by omega)))<|sE ?_;clear H a;intro a H
  refine aI H rfl S Eb ?_;clear H a S;intro b11 _ a hb11 hbw11 S H
  refine aD H S (i:=0) G G G G lZ G G ?_
  clear H a S;intro _ a S H
  refine k18 _ _ ?_;clear k18 K18
  replace H:=H.keep [1,2,3,11,28,29,30] rfl
  refine seq_list fun K19 k19=>?_
  refine ls 5 H<|sd ((aC kK mR rfl S (i:=1) G G))<|sf uL rfl<|sl S 0 aF G G G<|sf uM rfl<|sl S 0 aF G G G<|sE ?_;clear H a;intro a H
  refine aX H rfl S aR bE fO G G G G G G G G G ?_;clear H a S;intro A1 _ a hA1 S H
  refine aA H G G Tryd.func68 G G (xY P ps PA pc xs XA xc [(l.getD k Prm.zero).fr,(l.getD k Prm.zero).to] _ _ _ ((ownM.inS S (i:=0) rfl).congr (fun k j hk hj=>Az k j hk hj)) (show 2≤9223372036854775807 by omega) (by omega)) ?_;clear H a
  rintro _ _ a ⟨rfl,S2⟩ H
  replace S:=S.call S2;clear S2
  refine ls 18 H<|sr 2 rfl<|sg 3 8 42 45 false G G (fun hg9=>by
      have hq9:=hg9;try simp only [o1,o2,o3,o4,o5,o6,o7,o8,o9,oa] at hq9
      exact sy hg9<|sf oO rfl<|sy hg9<|sl S 1 aF G G G<|sy hg9<|sr 1 rfl<|sz 3 G G G)<|so G G G<|sr 1 rfl<|sg 5 13 47 52 false G G (fun hg14=>by
      have hq14:=hg14;try simp only [o1,o2,o3,o4,o5,o6,o7,o8,o9,oa] at hq14
      exact sy hg14<|sf oP rfl<|sy hg14<|sl S 1 aF G G G<|sy hg14<|sf oO rfl<|sy hg14<|sl S 1 aF G G G<|sy hg14<|sr 1 rfl<|sz 5 G G G)<|so G G G<|sr 1 rfl<|sg 3 20 54 57 false G G (fun hg21=>by
      have hq21:=hg21;try simp only [o1,o2,o3,o4,o5,o6,o7,o8,o9,oa] at hq21
      exact sy hg21<|sf oP rfl<|sy hg21<|sl S 1 aF G G G<|sy hg21<|sr 1 rfl<|sz 3 G G G)<|so G G G<|sE ?_;clear H a;intro a H
  refine k19 _ _ ?_;clear k19 K19
  refine cond_ H rfl (fun hc5=>?_) (fun hc5=>?_)
  ·skip
   try simp only [o1,o2,o3,o4,o5,o6,o7,o8,o9,oa] at hc5
   replace H:=H.keep [] rfl
   refine sS H fun K20 k20=>sr 4 rfl<|sE ?_;clear H a;intro a H
   refine k20 _ ?_;clear k20 K20
   refine wp_ret ?_
   refine ret4 (fn:=Tryd.f61) rfl H G G G G ?_
   have e9:=rC hdE (Jy (l:=l) (k:=k) (by omega) (Nc (by rcases hc5 with ((h|h)|h)|h;(have:=xZ h;omega);omega;omega;omega)))
   rw [lN (by rw [e9];decide),e9]
   exact ⟨rfl,(S.sel [] G G)⟩
  try simp only [o1,o2,o3,o4,o5,o6,o7,o8,o9,oa] at hc5
  refine wp_skip ?_
  refine k17 _ _ ?_
  refine sO H<|sd (aK G G (by unfold i64ok;omega))<|sr 1 rfl<|sE ?_;clear H a;intro a H
  exact k14 (g1-1) (k+1) a _ (by omega) (⟨by omega,by omega,gH hp.2.2 (qQ.2 (by have h9:=vT.1 hc5.1.1.1;omega))⟩) (S.sel [2] G G) (H.keep [30,1,2,3,28,29] rfl)
 refine wp_exit ?_
 refine k12 _ _ ?_
 refine wp_seq_k fun K22 k22=>?_
 refine sS H fun K23 k23=>sr 1 rfl<|sL oK rfl<|sr 1 rfl<|sE ?_;clear H a;intro a H
 refine k23 _ ?_;clear k23 K23
 refine wp_block ?_
 have hpr:allN (fun k=>prmOk P (l.getD k Prm.zero)) l.length=true:=by rw [show l.length=k by omega];exact hp.2.2
 have hkE:=yA hdE (Jz hpr (by omega))
 refine loop_st (X:=Nat) (R0:=_) [2,3,60,61] H rfl (fun h=>[(62,.int .i64 (h:Int))]) (fun h=>[]) (fun g h=>h≤day.length∧g+h=day.length∧∀ q,q<h→∀ j,j<l.length→eA P ps (day.getD q Hq.zero) q (l.getD j Prm.zero)=false) (day.length) 0 ?_ (S.sel [0] G G) (H.keep [62,2,3,60,61] rfl) ?_
 · exact ⟨by omega,by omega,fun q hq=>absurd hq (Nat.not_lt_zero q)⟩
 clear H S a
 intro g2 x2 a w2 hp S H K24 k24
 obtain ⟨h,rfl⟩:∃ y,y=x2:=⟨_,rfl⟩
 obtain ⟨hhl,hgh,hB⟩:=hp
 refine sS H fun K25 k25=>sr 1 rfl<|sE ?_;clear H a;intro a H
 refine k25 _ ?_;clear k25 K25
 refine wp_seq_k fun K26 k26=>?_
 refine condL H rfl (fun hc6=>?_) (fun hc6=>?_)
 ·skip
  have hdo:=hdk.2 h (by omega)
  refine wp_skip ?_
  refine k26 _ _ ?_
  refine wp_seq_k fun K27 k27=>?_
  refine wp_block ?_
  refine seq_list fun K28 k28=>?_
  refine ls 3 H<|sr 1 rfl<|si oK mA G G (hday.adr (by omega)) (by omega)<|sd ((aZ yL mA rfl S hday (by omega) (by omega)))<|sE ?_;clear H a;intro a H
  refine aI H rfl S Ec ?_;clear H a S;intro b13 _ a hb13 hbw13 S H
  refine ls 1 H<|sr 1 rfl<|sE ?_;clear H a;intro a H
  refine aD H S (i:=0) G G G G mA G G ?_
  clear H a S;intro _ a S H
  refine k28 _ _ ?_;clear k28 K28
  replace H:=H.keep [2,3,12,13,60,61,62] rfl
  refine sS H fun K29 k29=>sr 1 rfl<|sL uE rfl<|sr 1 rfl<|sE ?_;clear H a;intro a H
  refine k29 _ ?_;clear k29 K29
  refine wp_block ?_
  refine loop_st (X:=Nat) (R0:=_) [2,3,12,13,60,61,62,67,68] H rfl (fun i=>[(69,.int .i64 (i:Int))]) (fun i=>[]) (fun g i=>i≤l.length∧g+i=l.length∧∀ j,j<i→eA P ps (day.getD h Hq.zero) h (l.getD j Prm.zero)=false) (l.length) 0 ?_ (S.sel [0,1] G G) (H.keep [69,2,3,12,13,60,61,62,67,68] rfl) ?_
  · exact ⟨by omega,by omega,fun q hq=>absurd hq (Nat.not_lt_zero q)⟩
  clear H S a
  intro g3 x3 a w3 hp S H K30 k30
  obtain ⟨i,rfl⟩:∃ y,y=x3:=⟨_,rfl⟩
  refine sS H fun K31 k31=>sr 1 rfl<|sE ?_;clear H a;intro a H
  refine k31 _ ?_;clear k31 K31
  refine wp_seq_k fun K32 k32=>?_
  refine condL H rfl (fun hc7=>?_) (fun hc7=>?_)
  ·skip
   have hpi:=qQ.1 (bL.1 hpr i (by omega))
   refine wp_skip ?_
   refine k32 _ _ ?_
   refine wp_seq_k fun K33 k33=>?_
   refine wp_block ?_
   refine seq_list fun K34 k34=>?_
   refine ls 3 H<|sr 1 rfl<|si uE lZ G G (hl.adr (by omega)) (by omega)<|sd ((aZ yK lZ rfl S hl (by omega) (by omega)))<|sE ?_;clear H a;intro a H
   refine aI H rfl S Eb ?_;clear H a S;intro b15 _ a hb15 hbw15 S H
   refine ls 1 H<|sr 1 rfl<|sE ?_;clear H a;intro a H
   refine aD H S (i:=0) G G G G lZ G G ?_
   clear H a S;intro _ a S H
   refine k34 _ _ ?_;clear k34 K34
   replace H:=H.keep [2,3,12,13,14,15,60,61,62,67,68,69] rfl
   refine seq_list fun K35 k35=>?_
   refine ls 5 H<|sr 1 rfl<|sf oO rfl<|sl S 0 aF G G G<|sf oP rfl<|sl S 0 aF G G G<|sE ?_;clear H a;intro a H
   refine aA H G G Tryd.func69 G G (bZ _ _ _ _) ?_;clear H a
   rintro _ _ a ⟨rfl,rfl⟩ H
   refine ls 1 H<|sr 1 rfl<|sE ?_;clear H a;intro a H
   apply cJ (i:=6) (g:=80) (t:=96) (b:=true) 16 H S G G (by kernel_rfl) (by kernel_rfl) G G
   case h1=>
    intro hg7
    have hq7:=hg7;try simp only [o1,o2,o3,o4,o5,o6,o7,o8,o9,oa] at hq7
    refine ls 14 H<|sy hg7<|sd ((aC kK mR rfl S (i:=2) G G))<|sy hg7<|sf uN rfl<|sy hg7<|sl S 1 aF G G G<|sy hg7<|sf Dt rfl<|sy hg7<|sl S 1 kE G G G<|sy hg7<|sr 1 rfl<|sg 2 12 86 88 true G G (fun hg13=>by
        have hq13:=hg13;try simp only [o1,o2,o3,o4,o5,o6,o7,o8,o9,oa] at hq13
        exact sy hg13<|sf Ds rfl<|sy hg13<|sl S 0 kE G G G<|sz 2 G G G)<|sy hg7<|sa G G G<|sy hg7<|sd (aN Ls G G)<|sy hg7<|sf uL rfl<|sy hg7<|sl S 0 aF G G G<|sy hg7<|sf uM rfl<|sy hg7<|sl S 0 aF G G G<|sE ?_;intro a H
    refine cV H G G (by assumption) ?_
    refine aA H G G Tryd.func70 G G (tG P ps PA pc xs XA xc (day.getD h Hq.zero).out ((day.getD h Hq.zero).help&&(l.getD i Prm.zero).helped) (l.getD i Prm.zero).fr (l.getD i Prm.zero).to _ (hps.now S) hpn (hxs.now S) hxn hV hdo.1.1 (by omega) (by omega)) ?_
    rintro _ _ a ⟨rfl,hdj,S2⟩ H
    replace S:=S.call S2;clear S2
    refine ls 1 H<|sy hg7<|sr 1 rfl<|sE ?_;intro a H
    exact wpList_nil ⟨H.strip 15 G G,(S.sel [0,1,2] G G)⟩
   clear H a S;intro a _ H S
   refine ls 1 H<|sa G G G<|sE ?_;clear H a;intro a H
   refine k35 _ _ ?_;clear k35 K35
   refine cond_ H rfl (fun hc8=>?_) (fun hc8=>?_)
   ·skip
    try simp only [o1,o2,o3,o4,o5,o6,o7,o8,o9,oa] at hc8
    replace H:=H.keep [12,14] rfl
    refine sS H fun K36 k36=>sr 6 rfl<|sE ?_;clear H a;intro a H
    refine k36 _ ?_;clear k36 K36
    refine wp_ret ?_
    refine ret4 (fn:=Tryd.f61) rfl H G G G G ?_
    rw [Im hkE (by omega) (by omega) hB hp.2.2 (Gj hc8.1 (by omega))]
    exact ⟨rfl,(S.sel [] G G)⟩
   try simp only [o1,o2,o3,o4,o5,o6,o7,o8,o9,oa] at hc8
   refine wp_skip ?_
   refine k33 _ _ ?_
   refine sO H<|sd (aK G G (by unfold i64ok;omega))<|sr 1 rfl<|sE ?_;clear H a;intro a H
   exact k30 (g3-1) (i+1) a _ (by omega) (⟨by omega,by omega,Io hp.2.2 (by rcases hc8 with h9|h9;exact Ce (by omega);exact Cf (by omega))⟩) (S.sel [1,2] rfl rfl) (H.keep [69,2,3,12,13,60,61,62,67,68] rfl)
  refine wp_exit ?_
  refine k27 _ _ ?_
  replace H:=H.keep [2,3,60,61,62] rfl
  refine sO H<|sd (aK G G (by unfold i64ok;omega))<|sr 1 rfl<|sE ?_;clear H a;intro a H
  exact k24 (g2-1) (h+1) a _ (by omega) (⟨by omega,by omega,Ba hB hp.2.2 (by omega)⟩) (S.sel [1] G G) (H.keep [62,2,3,60,61] rfl)
 refine wp_exit ?_
 refine k22 _ _ ?_
 refine sS H fun K39 k39=>sr 4 rfl<|sE ?_;clear H a;intro a H
 refine k39 _ ?_;clear k39 K39
 refine wp_ret ?_
 refine ret4 (fn:=Tryd.f61) rfl H G G G G ?_
 obtain rfl:h=day.length:=by omega
 rw [Ex hkE hB]
 exact ⟨rfl,(S.sel [] G G)⟩
end
section
theorem two {p:Nat→Prop} (h0:p 0) (h1:p 1):∀ j,j<2→p j:=by
  intro j hj
  have:j=0∨j=1:=by omega
  rcases this with rfl|rfl
  · exact h0
  · exact h1
theorem gD {P:Program} {f:Nat} {vs:Array Value} {w:World} {R R':Value→World→Prop} (h:Calls P f vs w (Ret R)) (k:∀ v w',R v w'→R' v w'):Calls P f vs w (Ret R'):=Calls.mono h fun e w' he=>by
  cases e with
  | returned v=>exact k v w' he
  | _=>exact he
theorem dL (n lo hi:Int) (w:World) :
    Calls Tryd.prog 83 [.int .i64 n,.int .i64 lo,.int .i64 hi].toArray w (Ret (fun v w'=>v = .bool (decide (lo≤n)&&decide (n≤hi))∧w'=w)):=by
 refine enter Tryd.func83 rfl Tryd.ntmps83 rfl (fun a H=>?_)
 have S:=St.start w
 refine sS H fun K1 k1=>sr 1 rfl<|sE ?_;clear H a;intro a H
 refine k1 _ ?_;clear k1 K1
 replace H:=H.keep [0,1,2] rfl
 refine sS H fun K2 k2=>sr 4 rfl<|sg 3 3 10 13 true G G (fun hg4=>sy hg4<|sr 1 rfl<|sy hg4<|sr 1 rfl<|sy hg4<|sr 1 rfl<|sz 3 G G G)<|sa G G G<|sr 1 rfl<|sE ?_;clear H a;intro a H
 refine k2 _ ?_;clear k2 K2
 refine wp_ret ?_
 refine ret1 (fn:=Tryd.f83) rfl H rfl ?_
 exact ⟨rfl,rfl⟩
set_option maxRecDepth 100000 in
theorem zT (a b c d:Int) (w:World):(Op.equalIn 10000 45 (.agg #[.int .i64 a,.int .i64 b]) (.agg #[.int .i64 c,.int .i64 d])).run Tryd.prog w = .ok (a == c&&b == d) w:=by
  have u3:=Tryd.underlying3
  have a3:=Tryd.isAgg3
  have z3:=Tryd.sizeOf3
  have hS:Tryd.prog.underlying 45=some (.struct (Tryd.prog.fieldsOf 45)):=by kernel_rfl
  have hp:Tryd.prog.stoodInHeld 45=false:=by kernel_rfl
  rw [show (10000:Nat)=9999+1 from rfl,run_equalIn_agg w 9999 45 _ _ hS hp]
  simp only [Program.fieldsOf,Tryd.underlying45]
  go_simp
  by_cases h1:a=c <;> by_cases h2:b=d <;> simp [h1,h2]
set_option maxRecDepth 100000 in
theorem pN (op:BinOp) (x y:Operand) (a b c d:Int) (w:World):(eqGuard op 45 x y (.agg #[.int .i64 a,.int .i64 b]) (.agg #[.int .i64 c,.int .i64 d])).run Tryd.prog w = .ok () w:=by
  have h:Tryd.prog.eqGuardType Tryd.prog.depth 45=false:=by kernel_rfl
  have hpg:∀ w,(program:Sem Program).run Tryd.prog w = .ok Tryd.prog w:=fun _=>rfl
  cases op <;> simp [eqGuard,h,hpg]
section
variable {P:Program} {w:World} {L:List (Nat×Value)} {ty:TypeId} {pos:String} {af:Array Edge} {dd:Option Nat} {g:Option (Nat×Bool)}
set_option maxRecDepth 100000 in
theorem qC {x y:Operand} {yt:TypeId} {a b c d:Int} (hx:ev L x=some (.agg [.int .i64 a,.int .i64 b].toArray)) (hy:ev L y=some (.agg [.int .i64 c,.int .i64 d].toArray)) :
    Does Tryd.prog L ⟨dd,.binOp .neq 45 x y yt,ty,pos,af,g⟩ w (.bool (!(decide (a=c)&&decide (b=d)))):=fun ρ hρ=>by
  have e:(binOp .neq 45 (.agg #[.int .i64 a,.int .i64 b]) (.agg #[.int .i64 c,.int .i64 d])).run Tryd.prog w = .ok (.bool (!(decide (a=c)&&decide (b=d)))) w:=by
    simp only [binOp]
    simp [Op.equal,Op.maxDepth,zT]
    by_cases h1:a=c <;> by_cases h2:b=d <;> simp [h1,h2]
  simp only [execOp,hρ _ _ hx,hρ _ _ hy]
  simp [pN,e]
end
end
section
theorem nC (rates:List (Int×Int)) (pwn ptn pag:Int) (RA:Option Addr) (rcp:Nat) (l:List Use) (A:Option Addr) (cp:Nat) (w:World) (hr:InS w noF 2 RA rates.length (scell rates)) (hrn:rates.length≤9223372036854775807) (hl:InS w noF 6 A l.length (ucell l)) (hn:l.length≤9223372036854775807) :
    Calls Tryd.prog 77 [.agg [.slice RA rates.length rcp,.int .i64 pwn,.int .i64 ptn,.int .i64 pag].toArray,.slice A l.length cp].toArray w (Ret (fun v w'=>v = .int .i64 (dR (⟨rates,pwn,ptn,pag⟩:Part) l)∧St w noF [] w')):=by
 refine enter Tryd.func77 rfl Tryd.ntmps77 rfl (fun a H=>?_)
 have S:=St.start w
 refine seq_list fun K1 k1=>?_
 refine aQ H rfl S G G ?_;clear H a S;intro b2 _ a hb2 hbw2 S H
 refine ls 1 H<|sr 1 rfl<|sE ?_;clear H a;intro a H
 refine k1 _ _ ?_;clear k1 K1
 refine wp_seq_k fun K2 k2=>?_
 replace H:=H.keep [1,2] rfl
 refine sS H fun K3 k3=>sf lD rfl<|sl S 0 oE G G G<|sL cR rfl<|sc rfl Tryd.func83 G G (dL _ _ _ _)<|sr 2 rfl<|sg 4 5 15 19 false G G (fun hg6=>sy hg6<|sf yO rfl<|sy hg6<|sl S 0 aF G G G<|sy hg6<|sc rfl Tryd.func83 G G (dL _ _ _ _)<|sy hg6<|sr 1 rfl<|sz 4 G G G)<|so G G G<|sr 1 rfl<|sg 4 11 21 25 false G G (fun hg12=>sy hg12<|sf nI rfl<|sy hg12<|sl S 0 aF G G G<|sy hg12<|sc rfl Tryd.func83 G G (dL _ _ _ _)<|sy hg12<|sr 1 rfl<|sz 4 G G G)<|so G G G<|sr 1 rfl<|sg 4 17 27 31 false G G (fun hg18=>sy hg18<|sf rY rfl<|sy hg18<|sl S 0 aF G G G<|sy hg18<|sc rfl Tryd.func83 G G (dL _ _ _ _)<|sy hg18<|sr 1 rfl<|sz 4 G G G)<|so G G G<|sE ?_;clear H a;intro a H
 refine k3 _ ?_;clear k3 K3
 refine cond_ H rfl (fun hc1=>?_) (fun hc1=>?_)
 ·skip
  try simp only [o1,o2,o3,o4,o5,o6,o7,o8,o9,oa] at hc1
  replace H:=H.keep [] rfl
  refine sS H fun K4 k4=>sr 1 rfl<|sE ?_;clear H a;intro a H
  refine k4 _ ?_;clear k4 K4
  refine wp_ret ?_
  refine ret1 (fn:=Tryd.f77) rfl H rfl ?_
  refine ⟨?_,(S.sel [] G G)⟩;unfold dR;rw [if_neg (by unfold iK;simp only [decide_eq_true_eq];omega)]
 try simp only [o1,o2,o3,o4,o5,o6,o7,o8,o9,oa] at hc1
 refine wp_skip ?_
 refine k2 _ _ ?_
 refine wp_seq_k fun K5 k5=>?_
 have hhd:iK (⟨rates,pwn,ptn,pag⟩:Part)=true:=by unfold iK;simp only [decide_eq_true_eq];omega
 refine sS H fun K6 k6=>sf lD rfl<|sl S 0 oE G G G<|sL cR rfl<|sr 1 rfl<|sE ?_;clear H a;intro a H
 refine k6 _ ?_;clear k6 K6
 refine wp_block ?_
 refine loop_st (X:=Nat) (R0:=_) [1,2,34,35] H rfl (fun k=>[(36,.int .i64 (k:Int))]) (fun k=>[]) (fun g k=>k≤rates.length∧g+k=rates.length∧(rates.take k).all jI=true) (rates.length) 0 ?_ (S.sel [0] G G) (H.keep [36,1,2,34,35] rfl) ?_
 · exact ⟨by omega,by omega,by simp⟩
 clear H S a
 intro g1 x1 a w1 hp S H K7 k7
 obtain ⟨k,rfl⟩:∃ y,y=x1:=⟨_,rfl⟩
 refine sS H fun K8 k8=>sr 1 rfl<|sE ?_;clear H a;intro a H
 refine k8 _ ?_;clear k8 K8
 refine wp_seq_k fun K9 k9=>?_
 refine condL H rfl (fun hc2=>?_) (fun hc2=>?_)
 ·skip
  refine wp_skip ?_
  refine k9 _ _ ?_
  refine wp_seq_k fun K10 k10=>?_
  refine wp_block ?_
  refine seq_list fun K11 k11=>?_
  refine ls 2 H<|si cR aP G G (hr.adr (by omega)) (by omega)<|sd ((aZ bB aP rfl S hr (by omega) (by omega)))<|sE ?_;clear H a;intro a H
  refine aI H rfl S bU ?_;clear H a S;intro b6 _ a hb6 hbw6 S H
  refine aD H S (i:=0) G G G G aP G G ?_
  clear H a S;intro _ a S H
  refine k11 _ _ ?_;clear k11 K11
  replace H:=H.keep [1,2,6,34,35,36] rfl
  refine sS H fun K12 k12=>sf bI rfl<|sl S 0 aF G G G<|sr 2 rfl<|sg 5 3 43 48 false G G (fun hg4=>sy hg4<|sf bH rfl<|sy hg4<|sl S 0 aF G G G<|sy hg4<|sf bI rfl<|sy hg4<|sl S 0 aF G G G<|sy hg4<|sr 1 rfl<|sz 5 G G G)<|so G G G<|sr 1 rfl<|sg 3 10 50 53 false G G (fun hg11=>sy hg11<|sf bH rfl<|sy hg11<|sl S 0 aF G G G<|sy hg11<|sr 1 rfl<|sz 3 G G G)<|so G G G<|sE ?_;clear H a;intro a H
  refine k12 _ ?_;clear k12 K12
  refine cond_ H rfl (fun hc3=>?_) (fun hc3=>?_)
  ·skip
   try simp only [o1,o2,o3,o4,o5,o6,o7,o8,o9,oa] at hc3
   replace H:=H.keep [] rfl
   refine sS H fun K13 k13=>sr 1 rfl<|sE ?_;clear H a;intro a H
   refine k13 _ ?_;clear k13 K13
   refine wp_ret ?_
   refine ret1 (fn:=Tryd.f77) rfl H rfl ?_
   refine ⟨?_,(S.sel [] G G)⟩;unfold dR;rw [if_pos hhd];(try dsimp only);rw [qR (k:=k) (d:=(0,0)) (by omega) (by unfold jI;simp only [decide_eq_false_iff_not];omega)];rfl
  try simp only [o1,o2,o3,o4,o5,o6,o7,o8,o9,oa] at hc3
  refine wp_skip ?_
  refine k10 _ _ ?_
  refine sO H<|sd (aK G G (by unfold i64ok;omega))<|sr 1 rfl<|sE ?_;clear H a;intro a H
  exact k7 (g1-1) (k+1) a _ (by omega) (⟨by omega,by omega,uY (d:=(0,0)) (by omega) hp.2.2 (by unfold jI;simp only [decide_eq_true_eq];omega)⟩) (S.sel [1] G G) (H.keep [36,1,2,34,35] rfl)
 refine wp_exit ?_
 refine k5 _ _ ?_
 refine wp_seq_k fun K15 k15=>?_
 have hrt:rates.all jI=true:=by have h9:=hp.2.2;rw [List.take_of_length_le (by omega)] at h9;exact h9
 refine sS H fun K16 k16=>sr 1 rfl<|sL dM rfl<|sr 1 rfl<|sE ?_;clear H a;intro a H
 refine k16 _ ?_;clear k16 K16
 refine condL H rfl (fun hc4=>?_) (fun hc4=>?_)
 ·skip
  refine sS H fun K17 k17=>sr 1 rfl<|sE ?_;clear H a;intro a H
  refine k17 _ ?_;clear k17 K17
  refine wp_ret ?_
  refine ret1 (fn:=Tryd.f77) rfl H rfl ?_
  refine ⟨?_,(S.sel [] G G)⟩;unfold dR;rw [if_pos hhd,if_pos hrt,if_neg (by omega)]
 refine wp_skip ?_
 refine k15 _ _ ?_
 refine sS H fun K18 k18=>sr 1 rfl<|sE ?_;clear H a;intro a H
 refine k18 _ ?_;clear k18 K18
 refine wp_seq_k fun K19 k19=>?_
 replace H:=H.keep [1,2,7] rfl
 refine sS H fun K20 k20=>sr 1 rfl<|sL dM rfl<|sr 1 rfl<|sE ?_;clear H a;intro a H
 refine k20 _ ?_;clear k20 K20
 refine wp_block ?_
 refine loop_st (X:=Nat) (R0:=_) [2,59,60] H rfl (fun j=>[(7,.int .i64 (prevD l j)),(61,.int .i64 (j:Int))]) (fun j=>[]) (fun g j=>j≤l.length∧g+j=l.length∧hG rates.length l j=true) (l.length) 0 ?_ (S.sel [0] G G) (H.keep [7,61,2,59,60] rfl) ?_
 · exact ⟨by omega,by omega,rfl⟩
 clear H S a
 intro g2 x2 a w2 hp S H K21 k21
 obtain ⟨j,rfl⟩:∃ y,y=x2:=⟨_,rfl⟩
 refine sS H fun K22 k22=>sr 1 rfl<|sE ?_;clear H a;intro a H
 refine k22 _ ?_;clear k22 K22
 refine wp_seq_k fun K23 k23=>?_
 refine condL H rfl (fun hc5=>?_) (fun hc5=>?_)
 ·skip
  refine wp_skip ?_
  refine k23 _ _ ?_
  refine wp_seq_k fun K24 k24=>?_
  refine wp_block ?_
  refine seq_list fun K25 k25=>?_
  refine ls 2 H<|si dM dD G G (hl.adr (by omega)) (by omega)<|sd ((aZ jR dD rfl S hl (by omega) (by omega)))<|sE ?_;clear H a;intro a H
  refine aI H rfl S iH ?_;clear H a S;intro b9 _ a hb9 hbw9 S H
  refine aD H S (i:=0) G G G G dD G G ?_
  clear H a S;intro _ a S H
  refine k25 _ _ ?_;clear k25 K25
  refine wp_seq_k fun K26 k26=>?_
  replace H:=H.keep [2,7,9,59,60,61] rfl
  refine sS H fun K27 k27=>sf jE rfl<|sl S 0 aF G G G<|sr 1 rfl<|sc rfl Tryd.func83 G G (dL _ _ _ _)<|sr 2 rfl<|sg 4 5 70 74 false G G (fun hg6=>sy hg6<|sf lI rfl<|sy hg6<|sl S 0 aF G G G<|sy hg6<|sc rfl Tryd.func83 G G (dL _ _ _ _)<|sy hg6<|sr 1 rfl<|sz 4 G G G)<|so G G G<|sr 1 rfl<|sg 8 11 76 84 false G G (fun hg12=>sy hg12<|sf uJ rfl<|sy hg12<|sl S 0 aF G G G<|sy hg12<|sf lD rfl<|sy hg12<|sl S 1 oE G G G<|sy hg12<|sL cR rfl<|sy hg12<|sd (aT G G (by unfold i64ok;omega))<|sy hg12<|sc rfl Tryd.func83 G G (dL _ _ _ _)<|sy hg12<|sr 1 rfl<|sz 8 G G G)<|so G G G<|sE ?_;clear H a;intro a H
  refine k27 _ ?_;clear k27 K27
  refine cond_ H rfl (fun hc6=>?_) (fun hc6=>?_)
  ·skip
   try simp only [o1,o2,o3,o4,o5,o6,o7,o8,o9,oa] at hc6
   replace H:=H.keep [] rfl
   refine sS H fun K28 k28=>sr 1 rfl<|sE ?_;clear H a;intro a H
   refine k28 _ ?_;clear k28 K28
   refine wp_ret ?_
   refine ret1 (fn:=Tryd.f77) rfl H rfl ?_
   refine ⟨?_,(S.sel [] G G)⟩;unfold dR;rw [if_pos hhd,if_pos hrt,if_pos (by omega)];unfold hG;rw [iS (k:=j) (by omega) (by unfold useOk;simp only [decide_eq_false_iff_not];omega)];rfl
  try simp only [o1,o2,o3,o4,o5,o6,o7,o8,o9,oa] at hc6
  refine wp_skip ?_
  refine k26 _ _ ?_
  refine wp_seq_k fun K29 k29=>?_
  replace H:=H.keep [2,9,59,60,61] rfl
  refine sS H fun K30 k30=>sf hZ rfl<|sf bI rfl<|sl S 0 aF G G G<|sr 2 rfl<|sg 7 4 90 97 false G G (fun hg5=>sy hg5<|sf hZ rfl<|sy hg5<|sf bH rfl<|sy hg5<|sl S 0 aF G G G<|sy hg5<|sf hZ rfl<|sy hg5<|sf bI rfl<|sy hg5<|sl S 0 aF G G G<|sy hg5<|sr 1 rfl<|sz 7 G G G)<|so G G G<|sr 1 rfl<|sg 4 13 99 103 false G G (fun hg14=>sy hg14<|sf hZ rfl<|sy hg14<|sf bH rfl<|sy hg14<|sl S 0 aF G G G<|sy hg14<|sr 1 rfl<|sz 4 G G G)<|so G G G<|sr 1 rfl<|sg 9 19 105 114 false G G (fun hg20=>sy hg20<|sf uK rfl<|sy hg20<|sl S 0 kE G G G<|sy hg20<|sr 1 rfl<|sy hg20<|sr 1 rfl<|sg 4 23 109 113 true G G (fun hg24=>sy hg24<|sf hZ rfl<|sy hg24<|sd ((aC bB aP rfl S (i:=0) G G))<|sy hg24<|sd (aN dA G G)<|sy hg24<|sd (qC G G)<|sz 4 G G G)<|sy hg20<|sa G G G<|sz 6 G G G)<|so G G G<|sE ?_;clear H a;intro a H
  refine k30 _ ?_;clear k30 K30
  refine cond_ H rfl (fun hc7=>?_) (fun hc7=>?_)
  ·skip
   try simp only [o1,o2,o3,o4,o5,o6,o7,o8,o9,oa] at hc7
   replace H:=H.keep [] rfl
   refine sS H fun K31 k31=>sr 1 rfl<|sE ?_;clear H a;intro a H
   refine k31 _ ?_;clear k31 K31
   refine wp_ret ?_
   refine ret1 (fn:=Tryd.f77) rfl H rfl ?_
   refine ⟨?_,(S.sel [] rfl rfl)⟩;unfold dR;rw [if_pos hhd,if_pos hrt,if_pos (by omega)];unfold hG;rw [iS (k:=j) (by omega) (by unfold useOk;simp only [decide_eq_false_iff_not];generalize l.getD j Use.zero=u at hc6 hc7 ⊢;rintro ⟨_,_,_,_,hm⟩;cases hq:u.meas <;> simp [hq] at hc7 hm <;> omega)];rfl
  try simp only [o1,o2,o3,o4,o5,o6,o7,o8,o9,oa] at hc7
  refine wp_skip ?_
  refine k29 _ _ ?_
  refine sO H<|sf jE rfl<|sl S 0 aF G G G<|sr 1 rfl<|sE ?_;clear H a;intro a H
  refine k24 _ _ ?_
  refine sO H<|sd (aK G G (by unfold i64ok;omega))<|sr 1 rfl<|sE ?_;clear H a;intro a H
  exact k21 (g2-1) (j+1) a _ (by omega) (⟨by omega,by omega,by unfold hG;rw [jH (n:=0)];have h9:=hp.2.2;unfold hG at h9;rw [h9];simp only [Bool.true_and];unfold useOk;simp only [decide_eq_true_eq];generalize l.getD j Use.zero=u at hc6 hc7 ⊢;refine ⟨by omega,by omega,by omega,by omega,fun hm=>?_⟩;simp [hm] at hc7;omega⟩) (S.sel [1] G G) (H.keep [7,61,2,59,60] rfl)
 refine wp_exit ?_
 refine k19 _ _ ?_
 refine sS H fun K34 k34=>sr 1 rfl<|sE ?_;clear H a;intro a H
 refine k34 _ ?_;clear k34 K34
 refine wp_ret ?_
 refine ret1 (fn:=Tryd.f77) rfl H rfl ?_
 refine ⟨?_,(S.sel [] G G)⟩;have hj9:j=l.length:=by omega
 unfold dR;rw [if_pos hhd,if_pos hrt,if_pos (by omega)];rw [hj9] at hp;dsimp only;rw [if_pos hp.2.2]
theorem eP (rates:List (Int×Int)) (pwn ptn pag:Int) (RA:Option Addr) (rcp:Nat) (u:Use) (w:World) (hr:InS w noF 2 RA rates.length (scell rates)) (hrn:rates.length≤9223372036854775807) (hcl:0≤u.cls∧u.cls<rates.length) (hg1:i64ok (dV (⟨rates,pwn,ptn,pag⟩:Part) u).1) (hg2:i64ok (dV (⟨rates,pwn,ptn,pag⟩:Part) u).2) :
    Calls Tryd.prog 85 [.agg [.slice RA rates.length rcp,.int .i64 pwn,.int .i64 ptn,.int .i64 pag].toArray,.agg [.int .i64 u.day,.int .i64 u.turns,.int .i64 u.cls,.bool u.meas,.int .i64 u.lo,.int .i64 u.hi].toArray].toArray w (Ret (fun v w'=>v = .agg [.int .i64 (dV (⟨rates,pwn,ptn,pag⟩:Part) u).1,.int .i64 (dV (⟨rates,pwn,ptn,pag⟩:Part) u).2].toArray∧St w noF [] w')):=by
 refine enter Tryd.func85 rfl Tryd.ntmps85 rfl (fun a H=>?_)
 have S:=St.start w
 refine seq_list fun K1 k1=>?_
 refine aQ H rfl S G G ?_;clear H a S;intro b2 _ a hb2 hbw2 S H
 refine aQ H rfl S G G ?_;clear H a S;intro b3 _ a hb3 hbw3 S H
 refine aI H rfl S bU ?_;clear H a S;intro b4 _ a hb4 hbw4 S H
 refine k1 _ _ ?_;clear k1 K1
 replace H:=H.keep [2,3,4] rfl
 refine seq_list fun K2 k2=>?_
 refine ls 6 H<|sf lD rfl<|sl S 2 oE G G G<|sf uJ rfl<|sl S 1 aF G G G<|sI cR aP G G (hr.adr (by omega)) (by omega) (by omega)<|sd ((aZ bB aP rfl S hr (by omega) (by omega)))<|sE ?_;clear H a;intro a H
 refine aI H rfl S bU ?_;clear H a S;intro b5 _ a hb5 hbw5 S H
 refine aD H S (i:=0) G G G G aP G G ?_
 clear H a S;intro _ a S H
 refine k2 _ _ ?_;clear k2 K2
 replace H:=H.keep [3,4,5] rfl
 refine seq_list fun K3 k3=>?_
 refine ls 11 H<|sf lI rfl<|sl S 2 aF G G G<|sf bI rfl<|sl S 0 aF G G G<|sd (kQ G G (by exact hg1))<|sf lI rfl<|sl S 2 aF G G G<|sf bH rfl<|sl S 0 aF G G G<|sd (kQ G G (by exact hg2))<|sd (aN dA G G)<|sE ?_;clear H a;intro a H
 refine aD H S (i:=1) G G G G aP G G ?_
 clear H a S;intro _ a S H
 refine k3 _ _ ?_;clear k3 K3
 refine wp_ret ?_
 refine retA (fn:=Tryd.f85) rfl H rfl bB (by exact aP) (cM S (i:=1) rfl) ?_
 exact ⟨rfl,(S.sel [] G G)⟩
theorem eK (a1 a2 b1 b2:Int) (w:World) :
    Calls Tryd.prog 86 [.agg [.int .i64 a1,.int .i64 a2].toArray,.agg [.int .i64 b1,.int .i64 b2].toArray].toArray w (Ret (fun v w'=>v = .tuple #[.agg [.int .i64 (meetS (a1,a2) (b1,b2)).1,.int .i64 (meetS (a1,a2) (b1,b2)).2].toArray,.bool (decide ((meetS (a1,a2) (b1,b2)).1≤(meetS (a1,a2) (b1,b2)).2))]∧St w noF [] w')):=by
 refine enter Tryd.func86 rfl Tryd.ntmps86 rfl (fun a H=>?_)
 have S:=St.start w
 refine seq_list fun K1 k1=>?_
 refine aQ H rfl S G G ?_;clear H a S;intro b2 _ a hb2 hbw2 S H
 refine aQ H rfl S G G ?_;clear H a S;intro b3 _ a hb3 hbw3 S H
 refine aI H rfl S bU ?_;clear H a S;intro b4 _ a hb4 hbw4 S H
 refine ls 1 H<|sr 1 rfl<|sE ?_;clear H a;intro a H
 refine k1 _ _ ?_;clear k1 K1
 replace H:=H.keep [2,3,4] rfl
 refine seq_list fun K2 k2=>?_
 refine ls 11 H<|sf bI rfl<|sl S 2 aF G G G<|sf bI rfl<|sl S 1 aF G G G<|sd (tU G G)<|sf bH rfl<|sl S 2 aF G G G<|sf bH rfl<|sl S 1 aF G G G<|sd (Cw G G)<|sd (aN dA G G)<|sE ?_;clear H a;intro a H
 refine aI H rfl S bU ?_;clear H a S;intro b6 _ a hb6 hbw6 S H
 refine aD H S (i:=0) G G G G aP G G ?_
 clear H a S;intro _ a S H
 refine k2 _ _ ?_;clear k2 K2
 replace H:=H.keep [4,6] rfl
 replace S:=S.drew
 refine seq_wq [(0,true),(1,true),(2,true),(3,true),(4,true),(5,true),(6,false),(7,true)] (by kernel_rfl) (by kernel_rfl) (S.sel [0,2,3] G G) fun K3 k3=>?_
 refine qF H<|qd rfl (fun _ S=>(aC bB aP rfl S (i:=0) G G))<|qd rfl (fun _ S=>(aB bI rfl))<|qd rfl (fun _ S=>aH aF rfl (boxM.rd S (i:=0) G G))<|qd rfl (fun _ S=>(aB bH rfl))<|qd rfl (fun _ S=>aH aF rfl (boxM.rd S (i:=0) G G))<|qr 1 rfl<|qK ?_;clear H a;intro a H
 refine aS rfl ?_
 refine aD H S (i:=1) G G G G aP G G ?_
 clear H a S;intro _ a S H
 refine wpList_nil (And.intro (S.sel [0,2,3] G G) ?_)
 refine qF H<|qr 1 rfl<|qK ?_;clear H a;intro a H
 refine bK ?_
 refine k3 _ _ ?_
 clear k3 K3
 refine wp_ret ?_
 refine retA1 (fn:=Tryd.f86) rfl H rfl bB (by exact aP) (cM S (i:=1) rfl) rfl ?_
 exact ⟨rfl,(S.sel [] G G)⟩
end
section
theorem mY (rates:List (Int×Int)) (pwn ptn pag:Int) (RA:Option Addr) (rcp:Nat) (l:List Use) (A:Option Addr) (cp:Nat) (w:World) (hr:InS w noF 2 RA rates.length (scell rates)) (hrn:rates.length≤9223372036854775807) (hl:InS w noF 6 A l.length (ucell l)) (hn:l.length≤9223372036854775807) (hok:PartOk (⟨rates,pwn,ptn,pag⟩:Part) l) :
    Calls Tryd.prog 84 [.agg [.slice RA rates.length rcp,.int .i64 pwn,.int .i64 ptn,.int .i64 pag].toArray,.slice A l.length cp].toArray w (Ret (fun v w'=>∃ n A' c',IsAt (⟨rates,pwn,ptn,pag⟩:Part) l n∧v = .tuple #[.slice A' n c',.int .i64 (n:Int)]∧St w noF [ownM 45 2 A' n c' (fcell (fun q=>fwd (⟨rates,pwn,ptn,pag⟩:Part) l (q+1)))] w')):=by
 refine enter Tryd.func84 rfl Tryd.ntmps84 rfl (fun a H=>?_)
 have S:=St.start w
 refine seq_list fun K1 k1=>?_
 refine aQ H rfl S G G ?_;clear H a S;intro b2 _ a hb2 hbw2 S H
 refine ls 2 H<|sr 2 rfl<|sE ?_;clear H a;intro a H
 refine k1 _ _ ?_;clear k1 K1
 refine seq_list fun K2 k2=>?_
 refine aI H rfl S bU ?_;clear H a S;intro b6 _ a hb6 hbw6 S H
 refine k2 _ _ ?_;clear k2 K2
 refine wp_seq_k fun K3 k3=>?_
 refine sS H fun K4 k4=>sr 1 rfl<|sL dM rfl<|sr 1 rfl<|sE ?_;clear H a;intro a H
 refine k4 _ ?_;clear k4 K4
 refine wp_block ?_
 replace S:=S.newNil 45 2 (fcell (fun q=>fwd (⟨rates,pwn,ptn,pag⟩:Part) l (q+1)))
 refine loop_st (X:=Nat×Option Addr×Nat) (R0:=_) [1,2,6,11,12] H rfl (fun ⟨k,A',c'⟩=>[(4,.slice A' k c'),(13,.int .i64 (k:Int))]) (fun ⟨k,A',c'⟩=>[boxM b6 45 [.int .i64 (fwd (⟨rates,pwn,ptn,pag⟩:Part) l k).1,.int .i64 (fwd (⟨rates,pwn,ptn,pag⟩:Part) l k).2],ownM 45 2 A' k c' (fcell (fun q=>fwd (⟨rates,pwn,ptn,pag⟩:Part) l (q+1)))]) (fun g ⟨k,A',c'⟩=>k≤l.length∧g+k=l.length∧∀ q,q<k→fits (⟨rates,pwn,ptn,pag⟩:Part) l q) (l.length) (0,none,0) ?_ (S.sel [1,0,2] G G) (H.keep [4,13,1,2,6,11,12] rfl) ?_
 · exact ⟨by omega,by omega,fun q hq=>by omega⟩
 clear H S a
 intro g1 x1 a w1 hp S H K5 k5
 obtain ⟨k,A',c'⟩:=x1
 dsimp only at hp S H
 refine sS H fun K6 k6=>sr 1 rfl<|sE ?_;clear H a;intro a H
 refine k6 _ ?_;clear k6 K6
 refine wp_seq_k fun K7 k7=>?_
 refine condL H rfl (fun hc1=>?_) (fun hc1=>?_)
 ·skip
  refine wp_skip ?_
  refine k7 _ _ ?_
  refine wp_seq_k fun K8 k8=>?_
  refine wp_block ?_
  have hu:=hok.use (k:=k) (by omega);unfold useOk at hu;simp only [decide_eq_true_eq] at hu
  have hgb:=lO hok (k:=k) (by omega)
  have hcls:0≤(l.getD k Use.zero).cls∧(l.getD k Use.zero).cls<rates.length:=by
    have:((⟨rates,pwn,ptn,pag⟩:Part).rates.length:Int)=rates.length:=rfl
    omega
  have hll:=hok.len
  have hfb:=xH hok k (by omega)
  refine seq_list fun K9 k9=>?_
  refine ls 3 H<|sr 1 rfl<|si dM dD G G (hl.adr (by omega)) (by omega)<|sd ((aZ jR dD rfl S hl (by omega) (by omega)))<|sE ?_;clear H a;intro a H
  refine aI H rfl S iH ?_;clear H a S;intro b8 _ a hb8 hbw8 S H
  refine ls 1 H<|sr 1 rfl<|sE ?_;clear H a;intro a H
  refine aD H S (i:=0) G G G G dD G G ?_
  clear H a S;intro _ a S H
  refine k9 _ _ ?_;clear k9 K9
  replace H:=H.keep [1,2,4,6,7,8,11,12,13] rfl
  refine seq_list fun K10 k10=>?_
  refine ls 2 H<|sd ((aC fQ iR rfl S (i:=3) G G))<|sd ((aC jR dD rfl S (i:=0) G G))<|sE ?_;clear H a;intro a H
  refine aA H G G Tryd.func85 G G (eP rates pwn ptn pag RA rcp (l.getD k Use.zero) _ (hr.now S) hrn hcls (by unfold i64ok;omega) (by unfold i64ok;omega)) ?_;clear H a
  rintro _ _ a ⟨rfl,S2⟩ H
  replace S:=S.call S2;clear S2
  refine aI H rfl S bU ?_;clear H a S;intro b9 _ a hb9 hbw9 S H
  refine aD H S (i:=0) G G G G aP G G ?_
  clear H a S;intro _ a S H
  refine k10 _ _ ?_;clear k10 K10
  replace H:=H.keep [1,2,4,6,7,8,9,11,12,13] rfl
  refine seq_list fun K11 k11=>?_
  refine ls 11 H<|sf bI rfl<|sl S 2 aF G G G<|sf bI rfl<|sl S 0 aF G G G<|sd (aK G G (by unfold i64ok;omega))<|sf bH rfl<|sl S 2 aF G G G<|sf bH rfl<|sl S 0 aF G G G<|sd (aK G G (by unfold i64ok;omega))<|sd (aN dA G G)<|sE ?_;clear H a;intro a H
  refine aD H S (i:=2) G G G G aP G G ?_
  clear H a S;intro _ a S H
  refine k11 _ _ ?_;clear k11 K11
  refine wp_seq_k fun K12 k12=>?_
  replace H:=H.keep [1,2,4,6,7,8,11,12,13] rfl
  refine sS H fun K13 k13=>sf uK rfl<|sl S 1 kE G G G<|sE ?_;clear H a;intro a H
  refine k13 _ ?_;clear k13 K13
  refine cond_ H rfl (fun hc2=>?_) (fun hc2=>?_)
  ·skip
   try simp only [o1,o2,o3,o4,o5,o6,o7,o8,o9,oa] at hc2
   refine sS H fun K14 k14=>sr 1 rfl<|sE ?_;clear H a;intro a H
   refine k14 _ ?_;clear k14 K14
   replace H:=H.keep [1,2,4,6,7,8,11,12,13] rfl
   refine seq_list fun K15 k15=>?_
   refine ls 3 H<|sd ((aC bB aP rfl S (i:=2) G G))<|sf hZ rfl<|sd ((aC bB aP rfl S (i:=1) G G))<|sE ?_;clear H a;intro a H
   refine aA H G G Tryd.func86 G G (eK _ _ _ _ _) ?_;clear H a
   rintro _ _ a ⟨rfl,S2⟩ H
   replace S:=S.call S2;clear S2
   refine ls 3 H<|sr 3 rfl<|sE ?_;clear H a;intro a H
   refine aD H S (i:=2) G G G G aP G G ?_
   clear H a S;intro _ a S H
   refine ls 1 H<|sr 1 rfl<|sE ?_;clear H a;intro a H
   refine k15 _ _ ?_;clear k15 K15
   replace H:=H.keep [1,2,4,6,7,10,11,12,13] rfl
   refine sS H fun K16 k16=>sr 2 rfl<|sE ?_;clear H a;intro a H
   refine k16 _ ?_;clear k16 K16
   refine cond_ H rfl (fun hc3=>?_) (fun hc3=>?_)
   ·skip
    try simp only [o1,o2,o3,o4,o5,o6,o7,o8,o9,oa] at hc3
    refine sS H fun K17 k17=>sr 4 rfl<|sE ?_;clear H a;intro a H
    refine k17 _ ?_;clear k17 K17
    refine wp_ret ?_
    refine ret2 (fn:=Tryd.f84) rfl H G G ?_
    refine ⟨k,A',c',⟨by omega,hp.2.2,fun _ hf=>?_⟩,rfl,(S.sel [3] G G)⟩
    have h9:=hf hc2
    rw [pD hc2] at h9
    exact absurd h9 (Int.not_le.2 hc3)
   try simp only [o1,o2,o3,o4,o5,o6,o7,o8,o9,oa] at hc3
   refine wp_skip ?_
   refine k12 _ _ ?_
   have e9:=(by first|exact pD (p:=(⟨rates,pwn,ptn,pag⟩:Part)) hc2|exact zI (p:=(⟨rates,pwn,ptn,pag⟩:Part)) hc2:fwd (⟨rates,pwn,ptn,pag⟩:Part) l (k+1)=_)
   replace H:=H.keep [1,2,4,6,11,12,13] rfl
   refine one_list ?_
   refine ls 2 H<|sr 1 rfl<|sd ((aC bB aP rfl S (i:=2) G G))<|sE ?_;clear H a;intro a H
   refine aX H rfl S cR aP bU G G G G G G G G G ?_;clear H a S;intro A1 _ a hA1 S H
   refine cG H rfl S cR aP bU Dx G G (i:=4) G G G (ownM.inS S (i:=0) rfl) (fC (two G G)) (by omega) (by omega) ?_;clear H a S;intro A2 c2 _ a S H
   replace S:=S.recell (i:=4) rfl (cell':=fcell (fun q=>fwd (⟨rates,pwn,ptn,pag⟩:Part) l (q+1))) (oW (two (by show _=Value.int .i64 (fwd (⟨rates,pwn,ptn,pag⟩:Part) l (k+1)).1;rw [e9];rfl) (by show _=Value.int .i64 (fwd (⟨rates,pwn,ptn,pag⟩:Part) l (k+1)).2;rw [e9];rfl)))
   refine ls 1 H<|sr 1 rfl<|sE ?_;clear H a;intro a H
   refine k8 _ _ ?_
   refine sO H<|sd (aK G G (by unfold i64ok;omega))<|sr 1 rfl<|sE ?_;clear H a;intro a H
   replace S:=boxM.same S (i:=3) (cs':=[.int .i64 (fwd (⟨rates,pwn,ptn,pag⟩:Part) l (k+1)).1,.int .i64 (fwd (⟨rates,pwn,ptn,pag⟩:Part) l (k+1)).2]) rfl (by rw [e9];rfl)
   exact k5 (g1-1) (k+1,_,_) a _ (by omega) (⟨by omega,by omega,fun q hq=>by
     by_cases h:q=k
     · subst h;first|exact vA hc2|(intro _;rw [e9];exact hc3)
     · exact hp.2.2 q (by omega)⟩) (S.sel [3,4,5] G G) (H.keep [4,13,1,2,6,11,12] rfl)
  try simp only [o1,o2,o3,o4,o5,o6,o7,o8,o9,oa] at hc2
  refine wp_skip ?_
  refine k12 _ _ ?_
  have e9:=(by first|exact pD (p:=(⟨rates,pwn,ptn,pag⟩:Part)) hc2|exact zI (p:=(⟨rates,pwn,ptn,pag⟩:Part)) hc2:fwd (⟨rates,pwn,ptn,pag⟩:Part) l (k+1)=_)
  replace H:=H.keep [1,2,4,6,11,12,13] rfl
  refine one_list ?_
  refine ls 2 H<|sr 1 rfl<|sd ((aC bB aP rfl S (i:=2) G G))<|sE ?_;clear H a;intro a H
  refine aX H rfl S cR aP bU G G G G G G G G G ?_;clear H a S;intro A3 _ a hA3 S H
  refine cG H rfl S cR aP bU Dx G G (i:=4) G G G (ownM.inS S (i:=0) rfl) (fC (two G G)) (by omega) (by omega) ?_;clear H a S;intro A4 c4 _ a S H
  replace S:=S.recell (i:=4) rfl (cell':=fcell (fun q=>fwd (⟨rates,pwn,ptn,pag⟩:Part) l (q+1))) (oW (two (by show _=Value.int .i64 (fwd (⟨rates,pwn,ptn,pag⟩:Part) l (k+1)).1;rw [e9];rfl) (by show _=Value.int .i64 (fwd (⟨rates,pwn,ptn,pag⟩:Part) l (k+1)).2;rw [e9];rfl)))
  refine ls 1 H<|sr 1 rfl<|sE ?_;clear H a;intro a H
  refine k8 _ _ ?_
  refine sO H<|sd (aK G G (by unfold i64ok;omega))<|sr 1 rfl<|sE ?_;clear H a;intro a H
  replace S:=boxM.same S (i:=3) (cs':=[.int .i64 (fwd (⟨rates,pwn,ptn,pag⟩:Part) l (k+1)).1,.int .i64 (fwd (⟨rates,pwn,ptn,pag⟩:Part) l (k+1)).2]) rfl (by rw [e9];rfl)
  exact k5 (g1-1) (k+1,_,_) a _ (by omega) (⟨by omega,by omega,fun q hq=>by
    by_cases h:q=k
    · subst h;first|exact vA hc2|(intro _;rw [e9];exact hc3)
    · exact hp.2.2 q (by omega)⟩) (S.sel [3,4,5] G G) (H.keep [4,13,1,2,6,11,12] rfl)
 refine wp_exit ?_
 refine k3 _ _ ?_
 replace H:=H.keep [1,4] rfl
 refine sS H fun K22 k22=>sr 2 rfl<|sL dM rfl<|sr 2 rfl<|sE ?_;clear H a;intro a H
 refine k22 _ ?_;clear k22 K22
 refine wp_ret ?_
 refine ret2 (fn:=Tryd.f84) rfl H G G ?_
 have hk9:k=l.length:=by omega
 subst hk9
 exact ⟨_,A',c',⟨Nat.le_refl _,hp.2.2,fun h=>absurd h (Nat.lt_irrefl _)⟩,rfl,(S.sel [1] G G)⟩
end
section
def Worn (w:World) (p:Part) (l:List Use) (v:Value) (w':World):Prop:=
  (IsAt p l l.length∧∃ A' c',v = .tuple #[.slice A' l.length c',.bool true]∧St w noF [ownM 45 2 A' l.length c' (fcell (bT p l))] w')∨(¬ IsAt p l l.length∧v = .tuple #[.slice none 0 0,.bool false]∧St w noF [] w')
theorem pO (rates:List (Int×Int)) (pwn ptn pag:Int) (RA:Option Addr) (rcp:Nat) (l:List Use) (A:Option Addr) (cp:Nat) (w:World) (hr:InS w noF 2 RA rates.length (scell rates)) (hrn:rates.length≤9223372036854775807) (hl:InS w noF 6 A l.length (ucell l)) (hn:l.length≤9223372036854775807) (hok:PartOk (⟨rates,pwn,ptn,pag⟩:Part) l) :
    Calls Tryd.prog 78 [.agg [.slice RA rates.length rcp,.int .i64 pwn,.int .i64 ptn,.int .i64 pag].toArray,.slice A l.length cp].toArray w (Ret (Worn w (⟨rates,pwn,ptn,pag⟩:Part) l)):=by
 refine enter Tryd.func78 rfl Tryd.ntmps78 rfl (fun a H=>?_)
 have S:=St.start w
 refine seq_list fun K1 k1=>?_
 refine aQ H rfl S G G ?_;clear H a S;intro b2 _ a hb2 hbw2 S H
 refine ls 2 H<|sr 2 rfl<|sE ?_;clear H a;intro a H
 refine k1 _ _ ?_;clear k1 K1
 by_cases hA:IsAt (⟨rates,pwn,ptn,pag⟩:Part) l l.length
 ·skip
  replace H:=H.keep [1,2] rfl
  refine seq_list fun K2 k2=>?_
  refine ls 2 H<|sd ((aC fQ iR rfl S (i:=0) G G))<|sr 1 rfl<|sE ?_;clear H a;intro a H
  refine aA H G G Tryd.func84 G G (gD (mY rates pwn ptn pag RA rcp l A cp _ (hr.now S) hrn (hl.now S) hn hok) (fun _ _ ⟨n,A',c',h1,h2,h3⟩=>(⟨A',c',by rw [h1.same hA] at h2;exact h2,by rw [h1.same hA] at h3;exact h3⟩:∃ A' c',_∧_))) ?_;clear H a
  rintro _ _ a ⟨A',c',rfl,S2⟩ H
  replace S:=S.call S2;clear S2
  refine ls 5 H<|sr 5 rfl<|sE ?_;clear H a;intro a H
  refine k2 _ _ ?_;clear k2 K2
  refine wp_seq_k fun K3 k3=>?_
  try have hnl:=hn1.le
  replace H:=H.keep [1,2,6,7] rfl
  refine sS H fun K4 k4=>sr 2 rfl<|sL dM rfl<|sr 1 rfl<|sE ?_;clear H a;intro a H
  refine k4 _ ?_;clear k4 K4
  refine condL H rfl (fun hc1=>?_) (fun hc1=>?_)
  ·skip
   all_goals (exfalso;omega)
  refine wp_skip ?_
  refine k3 _ _ ?_
  refine wp_seq_k fun K5 k5=>?_
  refine sS H fun K6 k6=>sr 1 rfl<|sL dM rfl<|sd (aT G G (by unfold i64ok;omega))<|sr 1 rfl<|sE ?_;clear H a;intro a H
  refine k6 _ ?_;clear k6 K6
  refine wp_block ?_
  have hll:=hok.len
  replace S:=S.recell (i:=0) rfl (cell':=fcell (fun q=>if (l.length:Int)-2<((q:Nat):Int) then bT (⟨rates,pwn,ptn,pag⟩:Part) l q else fwd (⟨rates,pwn,ptn,pag⟩:Part) l (q+1))) (fun q j hq hj=>by
    unfold fcell;congr 1;(try dsimp only);by_cases h1:(l.length:Int)-2<((q:Nat):Int)
    · rw [if_pos h1,vB (show q+1=l.length by omega),show q+1=l.length by omega]
    · rw [if_neg h1])
  refine loop_st (X:=Int) (R0:=_) [1,2,6] H rfl (fun i=>[(8,.int .i64 i)]) (fun i=>[ownM 45 2 A' l.length c' (fcell (fun q=>if i<((q:Nat):Int) then bT (⟨rates,pwn,ptn,pag⟩:Part) l q else fwd (⟨rates,pwn,ptn,pag⟩:Part) l (q+1)))]) (fun g i => -2≤i∧i≤(l.length:Int)-2∧g=(i+2).toNat) (l.length) ((l.length:Int)-2) ?_ (S.sel [0,1] G G) (H.keep [8,1,2,6] rfl) ?_
  · exact ⟨by omega,by omega,by omega⟩
  clear H S a
  intro g1 x1 a w1 hp S H K7 k7
  obtain ⟨i,rfl⟩:∃ y,y=x1:=⟨_,rfl⟩
  refine wp_seq_k fun K8 k8=>?_
  refine sS H fun K9 k9=>sr 2 rfl<|sE ?_;clear H a;intro a H
  refine k9 _ ?_;clear k9 K9
  refine condG H rfl (fun hc2=>?_) (fun hc2=>?_)
  ·skip
   refine wp_skip ?_
   refine k8 _ _ ?_
   refine wp_seq_k fun K10 k10=>?_
   refine wp_block ?_
   have hu:=hok.use (k:=(i+1).toNat) (by omega);unfold useOk at hu;simp only [decide_eq_true_eq] at hu
   have hgb:=lO hok (k:=(i+1).toNat) (by omega)
   have hcls:0≤(l.getD (i+1).toNat Use.zero).cls∧(l.getD (i+1).toNat Use.zero).cls<rates.length:=by
     have:((⟨rates,pwn,ptn,pag⟩:Part).rates.length:Int)=rates.length:=rfl
     omega
   have hll:=hok.len
   replace H:=H.keep [1,2,6,8] rfl
   replace S:=S.drew
   refine seq_wt 999999 (.q 0 (.q 1 (.q 2 (.q 3 (.q 4 (.q 5 (.q 7 (.q 8 (.q 9 (.q 10 (.q 11 (.b3 6 (.b2 12 (.e 13 (.e 14 (.e 15 .nil))) 13 (.e 12 (.e 14 (.e 15 .nil)))) 12 (.b2 6 (.e 13 (.e 14 (.e 15 .nil))) 13 (.e 6 (.e 14 (.e 15 .nil)))) 13 (.b2 6 (.e 12 (.e 14 (.e 15 .nil))) 12 (.e 6 (.e 14 (.e 15 .nil)))))))))))))))) (by kernel_rfl) (by kernel_rfl) (S.sel [0,1] G G) fun K11 k11=>?_
   refine aE H G G (fun _ S=>(aC fQ iR rfl S (i:=1) G G)) ?_;clear H a;intro a H
   refine aE H G G (fun _ S=>aM rfl) ?_;clear H a;intro a H
   refine aE H G G (fun _ S=>aM rfl) ?_;clear H a;intro a H
   refine aE H G G (fun _ S=>aK G G (by unfold i64ok;omega)) ?_;clear H a;intro a H
   refine aE H G G (fun _ S=>bM dM dD G G (hl.adr (by omega)) (by omega) (by omega)) ?_;clear H a;intro a H
   refine aE H G G (fun _ S=>(aZ jR dD rfl S hl (by omega) (by omega))) ?_;clear H a;intro a H
   refine aE H G G (fun _ S=>aM rfl) ?_;clear H a;intro a H
   refine aE H G G (fun _ S=>aM rfl) ?_;clear H a;intro a H
   refine aE H G G (fun _ S=>aK G G (by unfold i64ok;omega)) ?_;clear H a;intro a H
   refine aE H G G (fun _ S=>bM cR aP G G (ownM.adr S (i:=0) rfl (by omega)) (by omega) (by omega)) ?_;clear H a;intro a H
   refine aE H G G (fun _ S=>cK (vs:=[.int .i64 (bT (⟨rates,pwn,ptn,pag⟩:Part) l (i+1).toNat).1,.int .i64 (bT (⟨rates,pwn,ptn,pag⟩:Part) l (i+1).toNat).2]) bB aP rfl (iL S (i:=0) rfl (by omega) (if_pos (by omega)))) ?_;clear H a;intro a H
   refine qE G G G ?_ ?_ ?_
   ·skip
    refine aA H G G Tryd.func85 G G (eP rates pwn ptn pag RA rcp (l.getD (i+1).toNat Use.zero) _ (hr.now S) hrn hcls (by unfold i64ok;omega) (by unfold i64ok;omega)) ?_;clear H a
    rintro _ _ a ⟨rfl,S2⟩ H
    replace S:=S.call S2;clear S2
    refine wpList_nil (And.intro (Or.inr (S.sel [0,1] G G)) ?_)
    refine dF G G ?_ ?_
    ·skip
     refine aI H rfl S bU ?_;clear H a S;intro b9 _ a hb9 hbw9 S H
     refine wpList_nil (And.intro (Or.inr (S.sel [1,2] G G)) ?_)
     refine aL rfl ?_
     refine aI H rfl S bU ?_;clear H a S;intro b10 _ a hb10 hbw10 S H
     refine wpList_nil (And.intro (Or.inr (S.sel [2,3] G G)) ?_)
     refine aL rfl ?_
     refine aD H S (i:=1) G G G G aP G G ?_
     clear H a S;intro _ a S H
     refine wpList_nil (And.intro (Or.inr (S.sel [2,3] G G)) ?_)
     refine aL rfl ?_
     refine aD H S (i:=0) G G G G aP G G ?_
     clear H a S;intro _ a S H
     refine wpList_nil (And.intro (Or.inr (S.sel [2,3] G G)) ?_)
     refine bA ?_
     refine k11 _ _ ?_
     clear k11 K11
     have hbw:=gI hok (k:=(i+1).toNat) (by omega)
     replace H:=H.keep [1,2,6,8,9,10] rfl
     replace S:=S.drew
     refine one_wt 22 (.q 0 (.q 1 (.q 2 (.q 3 (.q 4 (.q 5 (.q 6 (.q 7 (.q 8 (.q 9 (.q 10 (.q 11 (.q 12 (.q 13 (.q 14 (.q 15 (.q 16 (.e 17 (.q 18 (.q 19 (.p 20 (.q 21 (.e 22 .nil))))))))))))))))))))))) (by kernel_rfl) (by kernel_rfl) (S.sel [0,1,2,3] G G) ?_
     refine aE H G G (fun _ S=>aM rfl) ?_;clear H a;intro a H
     refine aE H G G (fun _ S=>aM rfl) ?_;clear H a;intro a H
     refine aE H G G (fun _ S=>aM rfl) ?_;clear H a;intro a H
     refine aE H G G (fun _ S=>aM rfl) ?_;clear H a;intro a H
     refine aE H G G (fun _ S=>bM cR aP G G (ownM.adr S (i:=2) rfl (by omega)) (by omega) (by omega)) ?_;clear H a;intro a H
     refine aE H G G (fun _ S=>cK (vs:=[.int .i64 (fwd (⟨rates,pwn,ptn,pag⟩:Part) l (i.toNat+1)).1,.int .i64 (fwd (⟨rates,pwn,ptn,pag⟩:Part) l (i.toNat+1)).2]) bB aP rfl (iL S (i:=2) rfl (by omega) (if_neg (by omega)))) ?_;clear H a;intro a H
     refine aE H G G (fun _ S=>(aB bI rfl)) ?_;clear H a;intro a H
     refine aE H G G (fun _ S=>aH aF rfl (boxM.rd S (i:=0) G G)) ?_;clear H a;intro a H
     refine aE H G G (fun _ S=>(aB bH rfl)) ?_;clear H a;intro a H
     refine aE H G G (fun _ S=>aH aF rfl (boxM.rd S (i:=1) G G)) ?_;clear H a;intro a H
     refine aE H G G (fun _ S=>aT G G (by unfold i64ok;omega)) ?_;clear H a;intro a H
     refine aE H G G (fun _ S=>(aB bH rfl)) ?_;clear H a;intro a H
     refine aE H G G (fun _ S=>aH aF rfl (boxM.rd S (i:=0) G G)) ?_;clear H a;intro a H
     refine aE H G G (fun _ S=>(aB bI rfl)) ?_;clear H a;intro a H
     refine aE H G G (fun _ S=>aH aF rfl (boxM.rd S (i:=1) G G)) ?_;clear H a;intro a H
     refine aE H G G (fun _ S=>aT G G (by unfold i64ok;omega)) ?_;clear H a;intro a H
     refine aE H G G (fun _ S=>aN dA G G) ?_;clear H a;intro a H
     refine aL rfl ?_
     refine aA H G G Tryd.func86 G G (eK (fwd (⟨rates,pwn,ptn,pag⟩:Part) l (i.toNat+1)).1 (fwd (⟨rates,pwn,ptn,pag⟩:Part) l (i.toNat+1)).2 _ _ _) ?_;clear H a
     rintro _ _ a ⟨rfl,S2⟩ H
     replace S:=S.call S2;clear S2
     refine wpList_nil (And.intro (Or.inr (S.sel [0,1,2,3] G G)) ?_)
     refine aE H G G (fun _ S=>aM rfl) ?_;clear H a;intro a H
     refine aE H G G (fun _ S=>aO G G) ?_;clear H a;intro a H
     refine bG H G G (fun _=>aO G G) ?_;clear H a;intro a H
     refine aE H G G (fun _ S=>bM cR aP G G (ownM.adr S (i:=2) rfl (by omega)) (by omega) (by omega)) ?_;clear H a;intro a H
     refine aL rfl ?_
     refine cW H S (i:=2) (kk:=i.toNat) G G G (by omega) aP ?_
     clear H a S;intro _ a S H
     have e9:=eO (p:=(⟨rates,pwn,ptn,pag⟩:Part)) (l:=l) (k:=i.toNat) (by omega)
     have e8:i.toNat+1=(i+1).toNat:=by omega
     rw [e8] at e9
     replace S:=S.recell (i:=2) rfl (cell':=fcell (fun q=>if i-1<((q:Nat):Int) then bT (⟨rates,pwn,ptn,pag⟩:Part) l q else fwd (⟨rates,pwn,ptn,pag⟩:Part) l (q+1))) (fun q j hq hj=>by
       unfold fcell;congr 1;(try dsimp only);by_cases h1:q=i.toNat
       · subst h1;rw [if_pos rfl,if_pos (by omega),e9,e8]
       · rw [if_neg h1];by_cases h2:i<(q:Int)
         · rw [if_pos h2,if_pos (by omega)]
         · rw [if_neg h2,if_neg (by omega)])
     refine wpList_nil (And.intro (Or.inl rfl) ?_)
     refine bA ?_
     refine k10 _ _ ?_
     replace H:=H.keep [1,2,6,8] rfl
     refine sO H<|sr 1 rfl<|sd (aT G G (by unfold i64ok;omega))<|sr 1 rfl<|sE ?_;clear H a;intro a H
     exact k7 (g1-1) (i-1) a _ (by omega) (⟨by omega,by omega,by omega⟩) (S.sel [2,3] G G) (H.keep [8,1,2,6] rfl)
    ·skip
     refine aI H rfl S bU ?_;clear H a S;intro b10 _ a hb10 hbw10 S H
     refine wpList_nil (And.intro (Or.inr (S.sel [1,2] G G)) ?_)
     refine aL rfl ?_
     refine aI H rfl S bU ?_;clear H a S;intro b9 _ a hb9 hbw9 S H
     refine wpList_nil (And.intro (Or.inr (S.sel [2,3] G G)) ?_)
     refine aL rfl ?_
     refine aD H S (i:=0) G G G G aP G G ?_
     clear H a S;intro _ a S H
     refine wpList_nil (And.intro (Or.inr (S.sel [2,3] G G)) ?_)
     refine aL rfl ?_
     refine aD H S (i:=1) G G G G aP G G ?_
     clear H a S;intro _ a S H
     refine wpList_nil (And.intro (Or.inr (S.sel [2,3] G G)) ?_)
     refine bA ?_
     refine k11 _ _ ?_
     clear k11 K11
     have hbw:=gI hok (k:=(i+1).toNat) (by omega)
     replace H:=H.keep [1,2,6,8,9,10] rfl
     replace S:=S.drew
     refine one_wt 22 (.q 0 (.q 1 (.q 2 (.q 3 (.q 4 (.q 5 (.q 6 (.q 7 (.q 8 (.q 9 (.q 10 (.q 11 (.q 12 (.q 13 (.q 14 (.q 15 (.q 16 (.e 17 (.q 18 (.q 19 (.p 20 (.q 21 (.e 22 .nil))))))))))))))))))))))) (by kernel_rfl) (by kernel_rfl) (S.sel [0,1,2,3] G G) ?_
     refine aE H G G (fun _ S=>aM rfl) ?_;clear H a;intro a H
     refine aE H G G (fun _ S=>aM rfl) ?_;clear H a;intro a H
     refine aE H G G (fun _ S=>aM rfl) ?_;clear H a;intro a H
     refine aE H G G (fun _ S=>aM rfl) ?_;clear H a;intro a H
     refine aE H G G (fun _ S=>bM cR aP G G (ownM.adr S (i:=2) rfl (by omega)) (by omega) (by omega)) ?_;clear H a;intro a H
     refine aE H G G (fun _ S=>cK (vs:=[.int .i64 (fwd (⟨rates,pwn,ptn,pag⟩:Part) l (i.toNat+1)).1,.int .i64 (fwd (⟨rates,pwn,ptn,pag⟩:Part) l (i.toNat+1)).2]) bB aP rfl (iL S (i:=2) rfl (by omega) (if_neg (by omega)))) ?_;clear H a;intro a H
     refine aE H G G (fun _ S=>(aB bI rfl)) ?_;clear H a;intro a H
     refine aE H G G (fun _ S=>aH aF rfl (boxM.rd S (i:=1) G G)) ?_;clear H a;intro a H
     refine aE H G G (fun _ S=>(aB bH rfl)) ?_;clear H a;intro a H
     refine aE H G G (fun _ S=>aH aF rfl (boxM.rd S (i:=0) G G)) ?_;clear H a;intro a H
     refine aE H G G (fun _ S=>aT G G (by unfold i64ok;omega)) ?_;clear H a;intro a H
     refine aE H G G (fun _ S=>(aB bH rfl)) ?_;clear H a;intro a H
     refine aE H G G (fun _ S=>aH aF rfl (boxM.rd S (i:=1) G G)) ?_;clear H a;intro a H
     refine aE H G G (fun _ S=>(aB bI rfl)) ?_;clear H a;intro a H
     refine aE H G G (fun _ S=>aH aF rfl (boxM.rd S (i:=0) G G)) ?_;clear H a;intro a H
     refine aE H G G (fun _ S=>aT G G (by unfold i64ok;omega)) ?_;clear H a;intro a H
     refine aE H G G (fun _ S=>aN dA G G) ?_;clear H a;intro a H
     refine aL rfl ?_
     refine aA H G G Tryd.func86 G G (eK (fwd (⟨rates,pwn,ptn,pag⟩:Part) l (i.toNat+1)).1 (fwd (⟨rates,pwn,ptn,pag⟩:Part) l (i.toNat+1)).2 _ _ _) ?_;clear H a
     rintro _ _ a ⟨rfl,S2⟩ H
     replace S:=S.call S2;clear S2
     refine wpList_nil (And.intro (Or.inr (S.sel [0,1,2,3] G G)) ?_)
     refine aE H G G (fun _ S=>aM rfl) ?_;clear H a;intro a H
     refine aE H G G (fun _ S=>aO G G) ?_;clear H a;intro a H
     refine bG H G G (fun _=>aO G G) ?_;clear H a;intro a H
     refine aE H G G (fun _ S=>bM cR aP G G (ownM.adr S (i:=2) rfl (by omega)) (by omega) (by omega)) ?_;clear H a;intro a H
     refine aL rfl ?_
     refine cW H S (i:=2) (kk:=i.toNat) G G G (by omega) aP ?_
     clear H a S;intro _ a S H
     have e9:=eO (p:=(⟨rates,pwn,ptn,pag⟩:Part)) (l:=l) (k:=i.toNat) (by omega)
     have e8:i.toNat+1=(i+1).toNat:=by omega
     rw [e8] at e9
     replace S:=S.recell (i:=2) rfl (cell':=fcell (fun q=>if i-1<((q:Nat):Int) then bT (⟨rates,pwn,ptn,pag⟩:Part) l q else fwd (⟨rates,pwn,ptn,pag⟩:Part) l (q+1))) (fun q j hq hj=>by
       unfold fcell;congr 1;(try dsimp only);by_cases h1:q=i.toNat
       · subst h1;rw [if_pos rfl,if_pos (by omega),e9,e8]
       · rw [if_neg h1];by_cases h2:i<(q:Int)
         · rw [if_pos h2,if_pos (by omega)]
         · rw [if_neg h2,if_neg (by omega)])
     refine wpList_nil (And.intro (Or.inl rfl) ?_)
     refine bA ?_
     refine k10 _ _ ?_
     replace H:=H.keep [1,2,6,8] rfl
     refine sO H<|sr 1 rfl<|sd (aT G G (by unfold i64ok;omega))<|sr 1 rfl<|sE ?_;clear H a;intro a H
     exact k7 (g1-1) (i-1) a _ (by omega) (⟨by omega,by omega,by omega⟩) (S.sel [2,3] G G) (H.keep [8,1,2,6] rfl)
   ·skip
    refine aI H rfl S bU ?_;clear H a S;intro b9 _ a hb9 hbw9 S H
    refine wpList_nil (And.intro (Or.inr (S.sel [1,2] G G)) ?_)
    refine dF G G ?_ ?_
    ·skip
     refine aA H G G Tryd.func85 G G (eP rates pwn ptn pag RA rcp (l.getD (i+1).toNat Use.zero) _ (hr.now S) hrn hcls (by unfold i64ok;omega) (by unfold i64ok;omega)) ?_;clear H a
     rintro _ _ a ⟨rfl,S2⟩ H
     replace S:=S.call S2;clear S2
     refine wpList_nil (And.intro (Or.inr (S.sel [1,2] G G)) ?_)
     refine aL rfl ?_
     refine aI H rfl S bU ?_;clear H a S;intro b10 _ a hb10 hbw10 S H
     refine wpList_nil (And.intro (Or.inr (S.sel [2,3] G G)) ?_)
     refine aL rfl ?_
     refine aD H S (i:=1) G G G G aP G G ?_
     clear H a S;intro _ a S H
     refine wpList_nil (And.intro (Or.inr (S.sel [2,3] G G)) ?_)
     refine aL rfl ?_
     refine aD H S (i:=0) G G G G aP G G ?_
     clear H a S;intro _ a S H
     refine wpList_nil (And.intro (Or.inr (S.sel [2,3] G G)) ?_)
     refine bA ?_
     refine k11 _ _ ?_
     clear k11 K11
     have hbw:=gI hok (k:=(i+1).toNat) (by omega)
     replace H:=H.keep [1,2,6,8,9,10] rfl
     replace S:=S.drew
     refine one_wt 22 (.q 0 (.q 1 (.q 2 (.q 3 (.q 4 (.q 5 (.q 6 (.q 7 (.q 8 (.q 9 (.q 10 (.q 11 (.q 12 (.q 13 (.q 14 (.q 15 (.q 16 (.e 17 (.q 18 (.q 19 (.p 20 (.q 21 (.e 22 .nil))))))))))))))))))))))) (by kernel_rfl) (by kernel_rfl) (S.sel [0,1,2,3] G G) ?_
     refine aE H G G (fun _ S=>aM rfl) ?_;clear H a;intro a H
     refine aE H G G (fun _ S=>aM rfl) ?_;clear H a;intro a H
     refine aE H G G (fun _ S=>aM rfl) ?_;clear H a;intro a H
     refine aE H G G (fun _ S=>aM rfl) ?_;clear H a;intro a H
     refine aE H G G (fun _ S=>bM cR aP G G (ownM.adr S (i:=2) rfl (by omega)) (by omega) (by omega)) ?_;clear H a;intro a H
     refine aE H G G (fun _ S=>cK (vs:=[.int .i64 (fwd (⟨rates,pwn,ptn,pag⟩:Part) l (i.toNat+1)).1,.int .i64 (fwd (⟨rates,pwn,ptn,pag⟩:Part) l (i.toNat+1)).2]) bB aP rfl (iL S (i:=2) rfl (by omega) (if_neg (by omega)))) ?_;clear H a;intro a H
     refine aE H G G (fun _ S=>(aB bI rfl)) ?_;clear H a;intro a H
     refine aE H G G (fun _ S=>aH aF rfl (boxM.rd S (i:=0) G G)) ?_;clear H a;intro a H
     refine aE H G G (fun _ S=>(aB bH rfl)) ?_;clear H a;intro a H
     refine aE H G G (fun _ S=>aH aF rfl (boxM.rd S (i:=1) G G)) ?_;clear H a;intro a H
     refine aE H G G (fun _ S=>aT G G (by unfold i64ok;omega)) ?_;clear H a;intro a H
     refine aE H G G (fun _ S=>(aB bH rfl)) ?_;clear H a;intro a H
     refine aE H G G (fun _ S=>aH aF rfl (boxM.rd S (i:=0) G G)) ?_;clear H a;intro a H
     refine aE H G G (fun _ S=>(aB bI rfl)) ?_;clear H a;intro a H
     refine aE H G G (fun _ S=>aH aF rfl (boxM.rd S (i:=1) G G)) ?_;clear H a;intro a H
     refine aE H G G (fun _ S=>aT G G (by unfold i64ok;omega)) ?_;clear H a;intro a H
     refine aE H G G (fun _ S=>aN dA G G) ?_;clear H a;intro a H
     refine aL rfl ?_
     refine aA H G G Tryd.func86 G G (eK (fwd (⟨rates,pwn,ptn,pag⟩:Part) l (i.toNat+1)).1 (fwd (⟨rates,pwn,ptn,pag⟩:Part) l (i.toNat+1)).2 _ _ _) ?_;clear H a
     rintro _ _ a ⟨rfl,S2⟩ H
     replace S:=S.call S2;clear S2
     refine wpList_nil (And.intro (Or.inr (S.sel [0,1,2,3] G G)) ?_)
     refine aE H G G (fun _ S=>aM rfl) ?_;clear H a;intro a H
     refine aE H G G (fun _ S=>aO G G) ?_;clear H a;intro a H
     refine bG H G G (fun _=>aO G G) ?_;clear H a;intro a H
     refine aE H G G (fun _ S=>bM cR aP G G (ownM.adr S (i:=2) rfl (by omega)) (by omega) (by omega)) ?_;clear H a;intro a H
     refine aL rfl ?_
     refine cW H S (i:=2) (kk:=i.toNat) G G G (by omega) aP ?_
     clear H a S;intro _ a S H
     have e9:=eO (p:=(⟨rates,pwn,ptn,pag⟩:Part)) (l:=l) (k:=i.toNat) (by omega)
     have e8:i.toNat+1=(i+1).toNat:=by omega
     rw [e8] at e9
     replace S:=S.recell (i:=2) rfl (cell':=fcell (fun q=>if i-1<((q:Nat):Int) then bT (⟨rates,pwn,ptn,pag⟩:Part) l q else fwd (⟨rates,pwn,ptn,pag⟩:Part) l (q+1))) (fun q j hq hj=>by
       unfold fcell;congr 1;(try dsimp only);by_cases h1:q=i.toNat
       · subst h1;rw [if_pos rfl,if_pos (by omega),e9,e8]
       · rw [if_neg h1];by_cases h2:i<(q:Int)
         · rw [if_pos h2,if_pos (by omega)]
         · rw [if_neg h2,if_neg (by omega)])
     refine wpList_nil (And.intro (Or.inl rfl) ?_)
     refine bA ?_
     refine k10 _ _ ?_
     replace H:=H.keep [1,2,6,8] rfl
     refine sO H<|sr 1 rfl<|sd (aT G G (by unfold i64ok;omega))<|sr 1 rfl<|sE ?_;clear H a;intro a H
     exact k7 (g1-1) (i-1) a _ (by omega) (⟨by omega,by omega,by omega⟩) (S.sel [2,3] G G) (H.keep [8,1,2,6] rfl)
    ·skip
     refine aI H rfl S bU ?_;clear H a S;intro b10 _ a hb10 hbw10 S H
     refine wpList_nil (And.intro (Or.inr (S.sel [2,3] G G)) ?_)
     refine aL rfl ?_
     refine aA H G G Tryd.func85 G G (eP rates pwn ptn pag RA rcp (l.getD (i+1).toNat Use.zero) _ (hr.now S) hrn hcls (by unfold i64ok;omega) (by unfold i64ok;omega)) ?_;clear H a
     rintro _ _ a ⟨rfl,S2⟩ H
     replace S:=S.call S2;clear S2
     refine wpList_nil (And.intro (Or.inr (S.sel [2,3] G G)) ?_)
     refine aL rfl ?_
     refine aD H S (i:=1) G G G G aP G G ?_
     clear H a S;intro _ a S H
     refine wpList_nil (And.intro (Or.inr (S.sel [2,3] G G)) ?_)
     refine aL rfl ?_
     refine aD H S (i:=0) G G G G aP G G ?_
     clear H a S;intro _ a S H
     refine wpList_nil (And.intro (Or.inr (S.sel [2,3] G G)) ?_)
     refine bA ?_
     refine k11 _ _ ?_
     clear k11 K11
     have hbw:=gI hok (k:=(i+1).toNat) (by omega)
     replace H:=H.keep [1,2,6,8,9,10] rfl
     replace S:=S.drew
     refine one_wt 22 (.q 0 (.q 1 (.q 2 (.q 3 (.q 4 (.q 5 (.q 6 (.q 7 (.q 8 (.q 9 (.q 10 (.q 11 (.q 12 (.q 13 (.q 14 (.q 15 (.q 16 (.e 17 (.q 18 (.q 19 (.p 20 (.q 21 (.e 22 .nil))))))))))))))))))))))) (by kernel_rfl) (by kernel_rfl) (S.sel [0,1,2,3] G G) ?_
     refine aE H G G (fun _ S=>aM rfl) ?_;clear H a;intro a H
     refine aE H G G (fun _ S=>aM rfl) ?_;clear H a;intro a H
     refine aE H G G (fun _ S=>aM rfl) ?_;clear H a;intro a H
     refine aE H G G (fun _ S=>aM rfl) ?_;clear H a;intro a H
     refine aE H G G (fun _ S=>bM cR aP G G (ownM.adr S (i:=2) rfl (by omega)) (by omega) (by omega)) ?_;clear H a;intro a H
     refine aE H G G (fun _ S=>cK (vs:=[.int .i64 (fwd (⟨rates,pwn,ptn,pag⟩:Part) l (i.toNat+1)).1,.int .i64 (fwd (⟨rates,pwn,ptn,pag⟩:Part) l (i.toNat+1)).2]) bB aP rfl (iL S (i:=2) rfl (by omega) (if_neg (by omega)))) ?_;clear H a;intro a H
     refine aE H G G (fun _ S=>(aB bI rfl)) ?_;clear H a;intro a H
     refine aE H G G (fun _ S=>aH aF rfl (boxM.rd S (i:=0) G G)) ?_;clear H a;intro a H
     refine aE H G G (fun _ S=>(aB bH rfl)) ?_;clear H a;intro a H
     refine aE H G G (fun _ S=>aH aF rfl (boxM.rd S (i:=1) G G)) ?_;clear H a;intro a H
     refine aE H G G (fun _ S=>aT G G (by unfold i64ok;omega)) ?_;clear H a;intro a H
     refine aE H G G (fun _ S=>(aB bH rfl)) ?_;clear H a;intro a H
     refine aE H G G (fun _ S=>aH aF rfl (boxM.rd S (i:=0) G G)) ?_;clear H a;intro a H
     refine aE H G G (fun _ S=>(aB bI rfl)) ?_;clear H a;intro a H
     refine aE H G G (fun _ S=>aH aF rfl (boxM.rd S (i:=1) G G)) ?_;clear H a;intro a H
     refine aE H G G (fun _ S=>aT G G (by unfold i64ok;omega)) ?_;clear H a;intro a H
     refine aE H G G (fun _ S=>aN dA G G) ?_;clear H a;intro a H
     refine aL rfl ?_
     refine aA H G G Tryd.func86 G G (eK (fwd (⟨rates,pwn,ptn,pag⟩:Part) l (i.toNat+1)).1 (fwd (⟨rates,pwn,ptn,pag⟩:Part) l (i.toNat+1)).2 _ _ _) ?_;clear H a
     rintro _ _ a ⟨rfl,S2⟩ H
     replace S:=S.call S2;clear S2
     refine wpList_nil (And.intro (Or.inr (S.sel [0,1,2,3] G G)) ?_)
     refine aE H G G (fun _ S=>aM rfl) ?_;clear H a;intro a H
     refine aE H G G (fun _ S=>aO G G) ?_;clear H a;intro a H
     refine bG H G G (fun _=>aO G G) ?_;clear H a;intro a H
     refine aE H G G (fun _ S=>bM cR aP G G (ownM.adr S (i:=2) rfl (by omega)) (by omega) (by omega)) ?_;clear H a;intro a H
     refine aL rfl ?_
     refine cW H S (i:=2) (kk:=i.toNat) G G G (by omega) aP ?_
     clear H a S;intro _ a S H
     have e9:=eO (p:=(⟨rates,pwn,ptn,pag⟩:Part)) (l:=l) (k:=i.toNat) (by omega)
     have e8:i.toNat+1=(i+1).toNat:=by omega
     rw [e8] at e9
     replace S:=S.recell (i:=2) rfl (cell':=fcell (fun q=>if i-1<((q:Nat):Int) then bT (⟨rates,pwn,ptn,pag⟩:Part) l q else fwd (⟨rates,pwn,ptn,pag⟩:Part) l (q+1))) (fun q j hq hj=>by
       unfold fcell;congr 1;(try dsimp only);by_cases h1:q=i.toNat
       · subst h1;rw [if_pos rfl,if_pos (by omega),e9,e8]
       · rw [if_neg h1];by_cases h2:i<(q:Int)
         · rw [if_pos h2,if_pos (by omega)]
         · rw [if_neg h2,if_neg (by omega)])
     refine wpList_nil (And.intro (Or.inl rfl) ?_)
     refine bA ?_
     refine k10 _ _ ?_
     replace H:=H.keep [1,2,6,8] rfl
     refine sO H<|sr 1 rfl<|sd (aT G G (by unfold i64ok;omega))<|sr 1 rfl<|sE ?_;clear H a;intro a H
     exact k7 (g1-1) (i-1) a _ (by omega) (⟨by omega,by omega,by omega⟩) (S.sel [2,3] G G) (H.keep [8,1,2,6] rfl)
   ·skip
    refine aI H rfl S bU ?_;clear H a S;intro b10 _ a hb10 hbw10 S H
    refine wpList_nil (And.intro (Or.inr (S.sel [1,2] G G)) ?_)
    refine dF G G ?_ ?_
    ·skip
     refine aA H G G Tryd.func85 G G (eP rates pwn ptn pag RA rcp (l.getD (i+1).toNat Use.zero) _ (hr.now S) hrn hcls (by unfold i64ok;omega) (by unfold i64ok;omega)) ?_;clear H a
     rintro _ _ a ⟨rfl,S2⟩ H
     replace S:=S.call S2;clear S2
     refine wpList_nil (And.intro (Or.inr (S.sel [1,2] G G)) ?_)
     refine aL rfl ?_
     refine aI H rfl S bU ?_;clear H a S;intro b9 _ a hb9 hbw9 S H
     refine wpList_nil (And.intro (Or.inr (S.sel [2,3] G G)) ?_)
     refine aL rfl ?_
     refine aD H S (i:=0) G G G G aP G G ?_
     clear H a S;intro _ a S H
     refine wpList_nil (And.intro (Or.inr (S.sel [2,3] G G)) ?_)
     refine aL rfl ?_
     refine aD H S (i:=1) G G G G aP G G ?_
     clear H a S;intro _ a S H
     refine wpList_nil (And.intro (Or.inr (S.sel [2,3] G G)) ?_)
     refine bA ?_
     refine k11 _ _ ?_
     clear k11 K11
     have hbw:=gI hok (k:=(i+1).toNat) (by omega)
     replace H:=H.keep [1,2,6,8,9,10] rfl
     replace S:=S.drew
     refine one_wt 22 (.q 0 (.q 1 (.q 2 (.q 3 (.q 4 (.q 5 (.q 6 (.q 7 (.q 8 (.q 9 (.q 10 (.q 11 (.q 12 (.q 13 (.q 14 (.q 15 (.q 16 (.e 17 (.q 18 (.q 19 (.p 20 (.q 21 (.e 22 .nil))))))))))))))))))))))) (by kernel_rfl) (by kernel_rfl) (S.sel [0,1,2,3] G G) ?_
     refine aE H G G (fun _ S=>aM rfl) ?_;clear H a;intro a H
     refine aE H G G (fun _ S=>aM rfl) ?_;clear H a;intro a H
     refine aE H G G (fun _ S=>aM rfl) ?_;clear H a;intro a H
     refine aE H G G (fun _ S=>aM rfl) ?_;clear H a;intro a H
     refine aE H G G (fun _ S=>bM cR aP G G (ownM.adr S (i:=2) rfl (by omega)) (by omega) (by omega)) ?_;clear H a;intro a H
     refine aE H G G (fun _ S=>cK (vs:=[.int .i64 (fwd (⟨rates,pwn,ptn,pag⟩:Part) l (i.toNat+1)).1,.int .i64 (fwd (⟨rates,pwn,ptn,pag⟩:Part) l (i.toNat+1)).2]) bB aP rfl (iL S (i:=2) rfl (by omega) (if_neg (by omega)))) ?_;clear H a;intro a H
     refine aE H G G (fun _ S=>(aB bI rfl)) ?_;clear H a;intro a H
     refine aE H G G (fun _ S=>aH aF rfl (boxM.rd S (i:=1) G G)) ?_;clear H a;intro a H
     refine aE H G G (fun _ S=>(aB bH rfl)) ?_;clear H a;intro a H
     refine aE H G G (fun _ S=>aH aF rfl (boxM.rd S (i:=0) G G)) ?_;clear H a;intro a H
     refine aE H G G (fun _ S=>aT G G (by unfold i64ok;omega)) ?_;clear H a;intro a H
     refine aE H G G (fun _ S=>(aB bH rfl)) ?_;clear H a;intro a H
     refine aE H G G (fun _ S=>aH aF rfl (boxM.rd S (i:=1) G G)) ?_;clear H a;intro a H
     refine aE H G G (fun _ S=>(aB bI rfl)) ?_;clear H a;intro a H
     refine aE H G G (fun _ S=>aH aF rfl (boxM.rd S (i:=0) G G)) ?_;clear H a;intro a H
     refine aE H G G (fun _ S=>aT G G (by unfold i64ok;omega)) ?_;clear H a;intro a H
     refine aE H G G (fun _ S=>aN dA G G) ?_;clear H a;intro a H
     refine aL rfl ?_
     refine aA H G G Tryd.func86 G G (eK (fwd (⟨rates,pwn,ptn,pag⟩:Part) l (i.toNat+1)).1 (fwd (⟨rates,pwn,ptn,pag⟩:Part) l (i.toNat+1)).2 _ _ _) ?_;clear H a
     rintro _ _ a ⟨rfl,S2⟩ H
     replace S:=S.call S2;clear S2
     refine wpList_nil (And.intro (Or.inr (S.sel [0,1,2,3] G G)) ?_)
     refine aE H G G (fun _ S=>aM rfl) ?_;clear H a;intro a H
     refine aE H G G (fun _ S=>aO G G) ?_;clear H a;intro a H
     refine bG H G G (fun _=>aO G G) ?_;clear H a;intro a H
     refine aE H G G (fun _ S=>bM cR aP G G (ownM.adr S (i:=2) rfl (by omega)) (by omega) (by omega)) ?_;clear H a;intro a H
     refine aL rfl ?_
     refine cW H S (i:=2) (kk:=i.toNat) G G G (by omega) aP ?_
     clear H a S;intro _ a S H
     have e9:=eO (p:=(⟨rates,pwn,ptn,pag⟩:Part)) (l:=l) (k:=i.toNat) (by omega)
     have e8:i.toNat+1=(i+1).toNat:=by omega
     rw [e8] at e9
     replace S:=S.recell (i:=2) rfl (cell':=fcell (fun q=>if i-1<((q:Nat):Int) then bT (⟨rates,pwn,ptn,pag⟩:Part) l q else fwd (⟨rates,pwn,ptn,pag⟩:Part) l (q+1))) (fun q j hq hj=>by
       unfold fcell;congr 1;(try dsimp only);by_cases h1:q=i.toNat
       · subst h1;rw [if_pos rfl,if_pos (by omega),e9,e8]
       · rw [if_neg h1];by_cases h2:i<(q:Int)
         · rw [if_pos h2,if_pos (by omega)]
         · rw [if_neg h2,if_neg (by omega)])
     refine wpList_nil (And.intro (Or.inl rfl) ?_)
     refine bA ?_
     refine k10 _ _ ?_
     replace H:=H.keep [1,2,6,8] rfl
     refine sO H<|sr 1 rfl<|sd (aT G G (by unfold i64ok;omega))<|sr 1 rfl<|sE ?_;clear H a;intro a H
     exact k7 (g1-1) (i-1) a _ (by omega) (⟨by omega,by omega,by omega⟩) (S.sel [2,3] G G) (H.keep [8,1,2,6] rfl)
    ·skip
     refine aI H rfl S bU ?_;clear H a S;intro b9 _ a hb9 hbw9 S H
     refine wpList_nil (And.intro (Or.inr (S.sel [2,3] G G)) ?_)
     refine aL rfl ?_
     refine aA H G G Tryd.func85 G G (eP rates pwn ptn pag RA rcp (l.getD (i+1).toNat Use.zero) _ (hr.now S) hrn hcls (by unfold i64ok;omega) (by unfold i64ok;omega)) ?_;clear H a
     rintro _ _ a ⟨rfl,S2⟩ H
     replace S:=S.call S2;clear S2
     refine wpList_nil (And.intro (Or.inr (S.sel [2,3] G G)) ?_)
     refine aL rfl ?_
     refine aD H S (i:=0) G G G G aP G G ?_
     clear H a S;intro _ a S H
     refine wpList_nil (And.intro (Or.inr (S.sel [2,3] G G)) ?_)
     refine aL rfl ?_
     refine aD H S (i:=1) G G G G aP G G ?_
     clear H a S;intro _ a S H
     refine wpList_nil (And.intro (Or.inr (S.sel [2,3] G G)) ?_)
     refine bA ?_
     refine k11 _ _ ?_
     clear k11 K11
     have hbw:=gI hok (k:=(i+1).toNat) (by omega)
     replace H:=H.keep [1,2,6,8,9,10] rfl
     replace S:=S.drew
     refine one_wt 22 (.q 0 (.q 1 (.q 2 (.q 3 (.q 4 (.q 5 (.q 6 (.q 7 (.q 8 (.q 9 (.q 10 (.q 11 (.q 12 (.q 13 (.q 14 (.q 15 (.q 16 (.e 17 (.q 18 (.q 19 (.p 20 (.q 21 (.e 22 .nil))))))))))))))))))))))) (by kernel_rfl) (by kernel_rfl) (S.sel [0,1,2,3] G G) ?_
     refine aE H G G (fun _ S=>aM rfl) ?_;clear H a;intro a H
     refine aE H G G (fun _ S=>aM rfl) ?_;clear H a;intro a H
     refine aE H G G (fun _ S=>aM rfl) ?_;clear H a;intro a H
     refine aE H G G (fun _ S=>aM rfl) ?_;clear H a;intro a H
     refine aE H G G (fun _ S=>bM cR aP G G (ownM.adr S (i:=2) rfl (by omega)) (by omega) (by omega)) ?_;clear H a;intro a H
     refine aE H G G (fun _ S=>cK (vs:=[.int .i64 (fwd (⟨rates,pwn,ptn,pag⟩:Part) l (i.toNat+1)).1,.int .i64 (fwd (⟨rates,pwn,ptn,pag⟩:Part) l (i.toNat+1)).2]) bB aP rfl (iL S (i:=2) rfl (by omega) (if_neg (by omega)))) ?_;clear H a;intro a H
     refine aE H G G (fun _ S=>(aB bI rfl)) ?_;clear H a;intro a H
     refine aE H G G (fun _ S=>aH aF rfl (boxM.rd S (i:=1) G G)) ?_;clear H a;intro a H
     refine aE H G G (fun _ S=>(aB bH rfl)) ?_;clear H a;intro a H
     refine aE H G G (fun _ S=>aH aF rfl (boxM.rd S (i:=0) G G)) ?_;clear H a;intro a H
     refine aE H G G (fun _ S=>aT G G (by unfold i64ok;omega)) ?_;clear H a;intro a H
     refine aE H G G (fun _ S=>(aB bH rfl)) ?_;clear H a;intro a H
     refine aE H G G (fun _ S=>aH aF rfl (boxM.rd S (i:=1) G G)) ?_;clear H a;intro a H
     refine aE H G G (fun _ S=>(aB bI rfl)) ?_;clear H a;intro a H
     refine aE H G G (fun _ S=>aH aF rfl (boxM.rd S (i:=0) G G)) ?_;clear H a;intro a H
     refine aE H G G (fun _ S=>aT G G (by unfold i64ok;omega)) ?_;clear H a;intro a H
     refine aE H G G (fun _ S=>aN dA G G) ?_;clear H a;intro a H
     refine aL rfl ?_
     refine aA H G G Tryd.func86 G G (eK (fwd (⟨rates,pwn,ptn,pag⟩:Part) l (i.toNat+1)).1 (fwd (⟨rates,pwn,ptn,pag⟩:Part) l (i.toNat+1)).2 _ _ _) ?_;clear H a
     rintro _ _ a ⟨rfl,S2⟩ H
     replace S:=S.call S2;clear S2
     refine wpList_nil (And.intro (Or.inr (S.sel [0,1,2,3] G G)) ?_)
     refine aE H G G (fun _ S=>aM rfl) ?_;clear H a;intro a H
     refine aE H G G (fun _ S=>aO G G) ?_;clear H a;intro a H
     refine bG H G G (fun _=>aO G G) ?_;clear H a;intro a H
     refine aE H G G (fun _ S=>bM cR aP G G (ownM.adr S (i:=2) rfl (by omega)) (by omega) (by omega)) ?_;clear H a;intro a H
     refine aL rfl ?_
     refine cW H S (i:=2) (kk:=i.toNat) G G G (by omega) aP ?_
     clear H a S;intro _ a S H
     have e9:=eO (p:=(⟨rates,pwn,ptn,pag⟩:Part)) (l:=l) (k:=i.toNat) (by omega)
     have e8:i.toNat+1=(i+1).toNat:=by omega
     rw [e8] at e9
     replace S:=S.recell (i:=2) rfl (cell':=fcell (fun q=>if i-1<((q:Nat):Int) then bT (⟨rates,pwn,ptn,pag⟩:Part) l q else fwd (⟨rates,pwn,ptn,pag⟩:Part) l (q+1))) (fun q j hq hj=>by
       unfold fcell;congr 1;(try dsimp only);by_cases h1:q=i.toNat
       · subst h1;rw [if_pos rfl,if_pos (by omega),e9,e8]
       · rw [if_neg h1];by_cases h2:i<(q:Int)
         · rw [if_pos h2,if_pos (by omega)]
         · rw [if_neg h2,if_neg (by omega)])
     refine wpList_nil (And.intro (Or.inl rfl) ?_)
     refine bA ?_
     refine k10 _ _ ?_
     replace H:=H.keep [1,2,6,8] rfl
     refine sO H<|sr 1 rfl<|sd (aT G G (by unfold i64ok;omega))<|sr 1 rfl<|sE ?_;clear H a;intro a H
     exact k7 (g1-1) (i-1) a _ (by omega) (⟨by omega,by omega,by omega⟩) (S.sel [2,3] G G) (H.keep [8,1,2,6] rfl)
  refine wp_exit ?_
  refine k5 _ _ ?_
  refine sS H fun K24 k24=>sr 3 rfl<|sE ?_;clear H a;intro a H
  refine k24 _ ?_;clear k24 K24
  refine wp_ret ?_
  refine ret2 (fn:=Tryd.f78) rfl H G G ?_
  refine .inl ⟨hA,A',c',rfl,?_⟩
  replace S:=S.recell (i:=0) rfl (cell':=fcell (bT (⟨rates,pwn,ptn,pag⟩:Part) l)) (fun q j hq hj=>by unfold fcell;congr 1;exact if_pos (by omega))
  exact (S.sel [0] G G)
 replace H:=H.keep [1,2] rfl
 refine seq_list fun K25 k25=>?_
 refine ls 2 H<|sd ((aC fQ iR rfl S (i:=0) G G))<|sr 1 rfl<|sE ?_;clear H a;intro a H
 refine aA H G G Tryd.func84 G G (mY rates pwn ptn pag RA rcp l A cp _ (hr.now S) hrn (hl.now S) hn hok) ?_;clear H a
 rintro _ _ a ⟨n,A',c',hn1,rfl,S2⟩ H
 replace S:=S.call S2;clear S2
 refine ls 5 H<|sr 5 rfl<|sE ?_;clear H a;intro a H
 refine k25 _ _ ?_;clear k25 K25
 refine wp_seq_k fun K26 k26=>?_
 try have hnl:=hn1.le
 replace H:=H.keep [1,2,6,7] rfl
 refine sS H fun K27 k27=>sr 2 rfl<|sL dM rfl<|sr 1 rfl<|sE ?_;clear H a;intro a H
 refine k27 _ ?_;clear k27 K27
 refine condL H rfl (fun hc3=>?_) (fun hc3=>?_)
 ·skip
  refine sS H fun K28 k28=>sr 2 rfl<|sE ?_;clear H a;intro a H
  refine k28 _ ?_;clear k28 K28
  refine wp_ret ?_
  refine ret2 (fn:=Tryd.f78) rfl H G G ?_
  exact .inr ⟨hA,rfl,(S.sel [] G G)⟩
 exfalso
 have hnn:n=l.length:=by omega
 exact hA (hnn ▸ hn1)
end
section
theorem Gk {w:World} {p:Part} {l:List Use} {v:Value} {w':World} (hA:IsAt p l l.length) (h:Worn w p l v w'):∃ A' c',v = .tuple #[.slice A' l.length c',.bool true]∧St w noF [ownM 45 2 A' l.length c' (fcell (bT p l))] w':=by
  rcases h with ⟨_,h⟩|⟨h,_⟩
  · exact h
  · exact absurd hA h
theorem Ka {w:World} {p:Part} {l:List Use} {v:Value} {w':World} (hA:¬ IsAt p l l.length) (h:Worn w p l v w'):v = .tuple #[.slice none 0 0,.bool false]∧St w noF [] w':=by
  rcases h with ⟨h,_⟩|⟨_,h⟩
  · exact absurd h hA
  · exact h
end
section
theorem tH {n:Nat} {l:List Use}:∀ {k:Nat},hG n l k=true→0≤prevD l k:=by
  intro k
  induction k with
  | zero=>intro _;exact Int.le_refl _
  | succ k ih=>
    intro h
    unfold hG at h
    rw [jH (n:=0),Bool.and_eq_true] at h
    have h1:=ih h.1
    have h2:=h.2
    unfold useOk at h2
    simp only [decide_eq_true_eq] at h2
    show 0≤(l.getD k Use.zero).day
    omega
def WearR (w:World) (p:Part) (l:List Use) (v:Value) (w':World):Prop:=
  (wearE p l=0∧∃ A' c',v = .tuple #[.slice A' l.length c',.int .i64 0]∧St w noF [ownM 45 2 A' l.length c' (fcell (bT p l))] w')∨(wearE p l≠0∧v = .tuple #[.slice none 0 0,.int .i64 (wearE p l)]∧St w noF [] w')
theorem Ch {w:World} {p:Part} {l:List Use} {v:Value} {w':World} (hA:wearE p l=0) (h:WearR w p l v w'):∃ A' c',v = .tuple #[.slice A' l.length c',.int .i64 0]∧St w noF [ownM 45 2 A' l.length c' (fcell (bT p l))] w':=by
  rcases h with ⟨_,h⟩|⟨h,_⟩
  · exact h
  · exact absurd hA h
theorem Gl {w:World} {p:Part} {l:List Use} {v:Value} {w':World} (hA:wearE p l≠0) (h:WearR w p l v w'):v = .tuple #[.slice none 0 0,.int .i64 (wearE p l)]∧St w noF [] w':=by
  rcases h with ⟨h,_⟩|⟨_,h⟩
  · exact absurd h hA
  · exact h
end
section
theorem kM (rates:List (Int×Int)) (pwn ptn pag:Int) (RA:Option Addr) (rcp:Nat) (l:List Use) (A:Option Addr) (cp:Nat) (w:World) (hr:InS w noF 2 RA rates.length (scell rates)) (hrn:rates.length≤9223372036854775807) (hl:InS w noF 6 A l.length (ucell l)) (hn:l.length≤9223372036854775807) :
    Calls Tryd.prog 71 [.agg [.slice RA rates.length rcp,.int .i64 pwn,.int .i64 ptn,.int .i64 pag].toArray,.slice A l.length cp].toArray w (Ret (WearR w (⟨rates,pwn,ptn,pag⟩:Part) l)):=by
 refine enter Tryd.func71 rfl Tryd.ntmps71 rfl (fun a H=>?_)
 have S:=St.start w
 refine seq_list fun K1 k1=>?_
 refine aQ H rfl S G G ?_;clear H a S;intro b2 _ a hb2 hbw2 S H
 refine ls 2 H<|sr 2 rfl<|sE ?_;clear H a;intro a H
 refine k1 _ _ ?_;clear k1 K1
 refine wp_seq_k fun K2 k2=>?_
 refine seq_list fun K3 k3=>?_
 refine ls 2 H<|sd ((aC fQ iR rfl S (i:=0) G G))<|sr 1 rfl<|sE ?_;clear H a;intro a H
 refine aA H G G Tryd.func77 G G (nC rates pwn ptn pag RA rcp l A cp _ (hr.now S) hrn (hl.now S) hn) ?_;clear H a
 rintro _ _ a ⟨rfl,S2⟩ H
 replace S:=S.call S2;clear S2
 refine ls 1 H<|sr 1 rfl<|sE ?_;clear H a;intro a H
 refine k3 _ _ ?_;clear k3 K3
 refine sS H fun K4 k4=>sr 2 rfl<|sE ?_;clear H a;intro a H
 refine k4 _ ?_;clear k4 K4
 refine condN H rfl (fun hc1=>?_) (fun hc1=>?_)
 ·skip
  replace H:=H.keep [6] rfl
  refine sS H fun K5 k5=>sr 3 rfl<|sE ?_;clear H a;intro a H
  refine k5 _ ?_;clear k5 K5
  refine wp_ret ?_
  refine ret2 (fn:=Tryd.f71) rfl H G G ?_
  have e9:=Bb (p:=(⟨rates,pwn,ptn,pag⟩:Part)) (l:=l) (by omega)
  exact .inr ⟨by omega,by rw [e9],(S.sel [] G G)⟩
 refine wp_skip ?_
 refine k2 _ _ ?_
 have h0:dR (⟨rates,pwn,ptn,pag⟩:Part) l=0:=by omega
 have hok:=mD h0
 by_cases hA:IsAt (⟨rates,pwn,ptn,pag⟩:Part) l l.length
 ·skip
  replace H:=H.keep [1,2] rfl
  refine seq_list fun K6 k6=>?_
  refine ls 2 H<|sd ((aC fQ iR rfl S (i:=0) G G))<|sr 1 rfl<|sE ?_;clear H a;intro a H
  refine aA H G G Tryd.func78 G G (gD (pO rates pwn ptn pag RA rcp l A cp _ (hr.now S) hrn (hl.now S) hn hok) (fun _ _=>Gk hA)) ?_;clear H a
  rintro _ _ a ⟨A',c',rfl,S2⟩ H
  replace S:=S.call S2;clear S2
  refine ls 5 H<|sr 5 rfl<|sE ?_;clear H a;intro a H
  refine k6 _ _ ?_;clear k6 K6
  refine wp_seq_k fun K7 k7=>?_
  replace H:=H.keep [7,8] rfl
  refine sS H fun K8 k8=>sr 2 rfl<|sE ?_;clear H a;intro a H
  refine k8 _ ?_;clear k8 K8
  refine cond_ H rfl (fun hc2=>?_) (fun hc2=>?_)
  ·skip
   skip
   cases hc2
  skip
  refine wp_skip ?_
  refine k7 _ _ ?_
  refine sS H fun K9 k9=>sr 3 rfl<|sE ?_;clear H a;intro a H
  refine k9 _ ?_;clear k9 K9
  refine wp_ret ?_
  refine ret2 (fn:=Tryd.f71) rfl H G G ?_
  exact .inl ⟨vD h0 hA,A',c',rfl,(S.sel [0] G G)⟩
 replace H:=H.keep [1,2] rfl
 refine seq_list fun K10 k10=>?_
 refine ls 2 H<|sd ((aC fQ iR rfl S (i:=0) G G))<|sr 1 rfl<|sE ?_;clear H a;intro a H
 refine aA H G G Tryd.func78 G G (gD (pO rates pwn ptn pag RA rcp l A cp _ (hr.now S) hrn (hl.now S) hn hok) (fun _ _=>Ka hA)) ?_;clear H a
 rintro _ _ a ⟨rfl,S2⟩ H
 replace S:=S.call S2;clear S2
 refine ls 5 H<|sr 5 rfl<|sE ?_;clear H a;intro a H
 refine k10 _ _ ?_;clear k10 K10
 refine wp_seq_k fun K11 k11=>?_
 replace H:=H.keep [7,8] rfl
 refine sS H fun K12 k12=>sr 2 rfl<|sE ?_;clear H a;intro a H
 refine k12 _ ?_;clear k12 K12
 refine cond_ H rfl (fun hc3=>?_) (fun hc3=>?_)
 ·skip
  skip
  refine sS H fun K13 k13=>sr 2 rfl<|sE ?_;clear H a;intro a H
  refine k13 _ ?_;clear k13 K13
  refine wp_ret ?_
  refine ret2 (fn:=Tryd.f71) rfl H G G ?_
  have e9:=xI h0 hA
  exact .inr ⟨by omega,by rw [e9],(S.sel [] G G)⟩
 skip
 cases hc3
theorem pP (a b:Int) (w:World) :
    Calls Tryd.prog 80 [.agg [.int .i64 a,.int .i64 b].toArray].toArray w (Ret (fun v w'=>v = .int .i64 (Prod.snd (a,b))∧St w noF [] w')):=by
 refine enter Tryd.func80 rfl Tryd.ntmps80 rfl (fun a H=>?_)
 have S:=St.start w
 refine seq_list fun K1 k1=>?_
 refine aQ H rfl S G G ?_;clear H a S;intro b1 _ a hb1 hbw1 S H
 refine ls 1 H<|sr 1 rfl<|sE ?_;clear H a;intro a H
 refine k1 _ _ ?_;clear k1 K1
 refine sS H fun K2 k2=>sf bH rfl<|sl S 0 aF G G G<|sr 1 rfl<|sE ?_;clear H a;intro a H
 refine k2 _ ?_;clear k2 K2
 refine wp_ret ?_
 refine ret1 (fn:=Tryd.f80) rfl H rfl ?_
 exact ⟨rfl,(S.sel [] G G)⟩
theorem pQ {P:Program} {w:World} {L:List (Nat×Value)} {ty:TypeId} {pos:String} {af:Array Edge} {dd:Option Nat} {g:Option (Nat×Bool)} {x y:Operand} {xt yt:TypeId} {m n:Int} (hx:ev L x=some (.int .i64 m)) (hy:ev L y=some (.int .i64 n)) (h:n<m):Does P L ⟨dd,.binOp .gtr xt x y yt,ty,pos,af,g⟩ w (.bool true):=by
  have h1:=bQ (P:=P) (d:=dd) (w:=w) (ty:=ty) (pos:=pos) (af:=af) (g:=g) (xt:=xt) (yt:=yt) hx hy
  rw [decide_eq_true h] at h1
  exact h1
theorem kN {P:Program} {w:World} {L:List (Nat×Value)} {ty:TypeId} {pos:String} {af:Array Edge} {dd:Option Nat} {g:Option (Nat×Bool)} {x y:Operand} {xt yt:TypeId} {m n:Int} (hx:ev L x=some (.int .i64 m)) (hy:ev L y=some (.int .i64 n)) (h:¬ n<m):Does P L ⟨dd,.binOp .gtr xt x y yt,ty,pos,af,g⟩ w (.bool false):=by
  have h1:=bQ (P:=P) (d:=dd) (w:=w) (ty:=ty) (pos:=pos) (af:=af) (g:=g) (xt:=xt) (yt:=yt) hx hy
  rw [decide_eq_false h] at h1
  exact h1
theorem vV (rates : List (Int × Int)) (pwn ptn pag : Int) (RA : Option Addr) (rcp : Nat) (l : List Use) (A : Option Addr) (cp : Nat) (f : Nat) (fn : Func) (e : Int × Int → Int) (w : World) (hr : InS w noF 2 RA rates.length (scell rates)) (hrn : rates.length ≤ 9223372036854775807) (hl : InS w noF 6 A l.length (ucell l)) (hn : l.length ≤ 9223372036854775807) (hf : Tryd.prog.funcs[f]? = some fn) (hfb : fn.body.isNone = false) (hfn : (fn.name == "runtime.NumGoroutine") = false) (hcall : ∀ (a b : Int) (w' : World), Calls Tryd.prog f [.agg [.int .i64 a, .int .i64 b].toArray].toArray w' (Ret fun v w'' => v = .int .i64 (e (a, b)) ∧ St w' noF [] w'')) :
    Calls Tryd.prog 79 [.agg [.slice RA rates.length rcp,.int .i64 pwn,.int .i64 ptn,.int .i64 pag].toArray,.slice A l.length cp,.func (.func f) [].toArray [].toArray].toArray w (Ret (fun v w'=>v = .tuple #[.int .i64 (dY (⟨rates,pwn,ptn,pag⟩:Part) l e).1,.int .i64 (dY (⟨rates,pwn,ptn,pag⟩:Part) l e).2]∧St w noF [] w')):=by
 refine enter Tryd.func79 rfl Tryd.ntmps79 rfl (fun a H=>?_)
 have S:=St.start w
 refine seq_list fun K1 k1=>?_
 refine aQ H rfl S G G ?_;clear H a S;intro b3 _ a hb3 hbw3 S H
 refine ls 2 H<|sr 2 rfl<|sE ?_;clear H a;intro a H
 refine k1 _ _ ?_;clear k1 K1
 by_cases hA:wearE (⟨rates,pwn,ptn,pag⟩:Part) l=0
 ·skip
  have h0:=pE hA;have hok:=mD h0.1
  have hh:=hok.hdr;unfold iK at hh;simp only [decide_eq_true_eq] at hh;have hll:=hok.len
  replace H:=H.keep [1,2,3] rfl
  refine seq_list fun K2 k2=>?_
  refine ls 2 H<|sd ((aC fQ iR rfl S (i:=0) G G))<|sr 1 rfl<|sE ?_;clear H a;intro a H
  refine aA H G G Tryd.func71 G G (gD (kM rates pwn ptn pag RA rcp l A cp _ (hr.now S) hrn (hl.now S) hn) (fun _ _=>Ch hA)) ?_;clear H a
  rintro _ _ a ⟨A',c',rfl,S2⟩ H
  replace S:=S.call S2;clear S2
  refine ls 5 H<|sr 5 rfl<|sE ?_;clear H a;intro a H
  refine k2 _ _ ?_;clear k2 K2
  refine wp_seq_k fun K3 k3=>?_
  replace H:=H.keep [1,2,3,8,9] rfl
  refine sS H fun K4 k4=>sr 2 rfl<|sE ?_;clear H a;intro a H
  refine k4 _ ?_;clear k4 K4
  refine condN H rfl (fun hc1=>?_) (fun hc1=>?_)
  ·skip
   all_goals first|(exfalso;omega)|(simp at hc1)
  refine wp_skip ?_
  refine k3 _ _ ?_
  refine sS H fun K5 k5=>sr 1 rfl<|sE ?_;clear H a;intro a H
  refine k5 _ ?_;clear k5 K5
  refine wp_seq_k fun K6 k6=>?_
  refine sS H fun K7 k7=>sr 1 rfl<|sL dM rfl<|sr 1 rfl<|sE ?_;clear H a;intro a H
  refine k7 _ ?_;clear k7 K7
  refine wp_block ?_
  refine loop_st (X:=Nat) (R0:=_) [2,3,8,22,23] H rfl (fun k=>[(10,.int .i64 (sumT l k)),(24,.int .i64 (k:Int))]) (fun k=>[]) (fun g k=>k≤l.length∧g+k=l.length∧∀ q,q<k→(fun k=>wornB (⟨rates,pwn,ptn,pag⟩:Part) l k (e (bT (⟨rates,pwn,ptn,pag⟩:Part) l k))) q=false) (l.length) 0 ?_ (S.sel [0,1] G G) (H.keep [10,24,2,3,8,22,23] rfl) ?_
  · exact ⟨by omega,by omega,fun q hq=>absurd hq (Nat.not_lt_zero _)⟩
  clear H S a
  intro g1 x1 a w1 hp S H K8 k8
  obtain ⟨k,rfl⟩:∃ y,y=x1:=⟨_,rfl⟩
  refine sS H fun K9 k9=>sr 1 rfl<|sE ?_;clear H a;intro a H
  refine k9 _ ?_;clear k9 K9
  refine wp_seq_k fun K10 k10=>?_
  refine condL H rfl (fun hc2=>?_) (fun hc2=>?_)
  ·skip
   refine wp_skip ?_
   refine k10 _ _ ?_
   refine wp_seq_k fun K11 k11=>?_
   refine wp_block ?_
   refine seq_list fun K12 k12=>?_
   refine ls 3 H<|sr 1 rfl<|si dM dD G G (hl.adr (by omega)) (by omega)<|sd ((aZ jR dD rfl S hl (by omega) (by omega)))<|sE ?_;clear H a;intro a H
   refine aI H rfl S iH ?_;clear H a S;intro b12 _ a hb12 hbw12 S H
   refine ls 1 H<|sr 1 rfl<|sE ?_;clear H a;intro a H
   refine aD H S (i:=0) G G G G dD G G ?_
   clear H a S;intro _ a S H
   refine k12 _ _ ?_;clear k12 K12
   have hsb:=Ip hok k (by omega)
   have hu:=hok.use (k:=k) (by omega);unfold useOk at hu;simp only [decide_eq_true_eq] at hu
   replace H:=H.keep [2,3,8,10,11,12,22,23,24] rfl
   refine sS H fun K13 k13=>sr 1 rfl<|sf lI rfl<|sl S 0 aF G G G<|sd (aK G G (by unfold i64ok;omega))<|sr 1 rfl<|sE ?_;clear H a;intro a H
   refine k13 _ ?_;clear k13 K13
   rcases (show ptn<sumT l (k+1)∨(¬ ptn<sumT l (k+1)∧pag<(l.getD k Use.zero).day)∨(¬ ptn<sumT l (k+1)∧¬ pag<(l.getD k Use.zero).day) from by omega) with hB|hB|hB
   ·skip
    replace H:=H.keep [2,3,8,10,11,12,22,23,24] rfl
    replace S:=S.drew
    refine seq_wq [(0,true),(1,true),(2,true),(3,true),(4,true),(5,true),(6,true),(7,true),(8,true),(9,true),(10,true),(11,true),(12,true),(13,true),(14,true),(15,true),(16,true),(17,true),(18,true),(19,true),(20,true),(21,true),(22,true)] (by kernel_rfl) (by kernel_rfl) (S.sel [0,1,2] G G) fun K14 k14=>?_
    refine qF H<|qr 1 rfl<|qd rfl (fun _ S=>(aB nI rfl))<|qd rfl (fun _ S=>aH aF rfl (boxM.rd S (i:=2) G G))<|qd rfl (fun _ S=>pQ G G hB)<|qr 1 rfl<|qK ?_;clear H a;intro a H
    refine aJ H G G G G G ?_;clear H a;intro a H
    refine aJ H G G G G G ?_;clear H a;intro a H
    refine aJ H G G G G G ?_;clear H a;intro a H
    refine aJ H G G G G G ?_;clear H a;intro a H
    refine aJ H G G G G G ?_;clear H a;intro a H
    refine qF H<|qd rfl (fun _ S=>(aU G G G))<|qr 1 rfl<|qK ?_;clear H a;intro a H
    refine aJ H G G G G G ?_;clear H a;intro a H
    refine aJ H G G G G G ?_;clear H a;intro a H
    refine aJ H G G G G G ?_;clear H a;intro a H
    refine aJ H G G G G G ?_;clear H a;intro a H
    refine aJ H G G G G G ?_;clear H a;intro a H
    refine aJ H G G G G G ?_;clear H a;intro a H
    refine aJ H G G G G G ?_;clear H a;intro a H
    refine aJ H G G G G G ?_;clear H a;intro a H
    refine aJ H G G G G G ?_;clear H a;intro a H
    refine aJ H G G G G G ?_;clear H a;intro a H
    refine qF H<|qd rfl (fun _ S=>(aU G G G))<|qK ?_;clear H a;intro a H
    refine bK ?_
    refine k14 _ _ ?_
    clear k14 K14
    refine cond_ H rfl (fun hc3=>?_) (fun hc3=>?_)
    ·skip
     skip
     replace H:=H.keep [11] rfl
     refine sS H fun K15 k15=>sr 3 rfl<|sE ?_;clear H a;intro a H
     refine k15 _ ?_;clear k15 K15
     refine wp_ret ?_
     refine ret2 (fn:=Tryd.f79) rfl H G G ?_
     have e9:jJ (fun k=>wornB (⟨rates,pwn,ptn,pag⟩:Part) l k (e (bT (⟨rates,pwn,ptn,pag⟩:Part) l k))) l.length=k:=mE (by omega) (by show wornB _ _ _ _=true;unfold wornB;rw [decide_eq_true hB];simp) hp.2.2
     unfold dY;rw [if_neg (by omega),e9];exact ⟨rfl,(S.sel [] G G)⟩
    skip
    cases hc3
   ·skip
    replace H:=H.keep [2,3,8,10,11,12,22,23,24] rfl
    replace S:=S.drew
    refine seq_wq [(0,true),(1,true),(2,true),(3,true),(4,true),(5,true),(6,true),(7,true),(8,true),(9,true),(10,true),(11,true),(12,true),(13,true),(14,true),(15,true),(16,true),(17,true),(18,true),(19,true),(20,true),(21,true),(22,true)] (by kernel_rfl) (by kernel_rfl) (S.sel [0,1,2] G G) fun K16 k16=>?_
    refine qF H<|qr 1 rfl<|qd rfl (fun _ S=>(aB nI rfl))<|qd rfl (fun _ S=>aH aF rfl (boxM.rd S (i:=2) G G))<|qd rfl (fun _ S=>kN G G hB.1)<|qr 1 rfl<|qK ?_;clear H a;intro a H
    refine aG H G G G G (fun _ S=>(aB jE rfl)) ?_;clear H a;intro a H
    refine aG H G G G G (fun _ S=>aH aF rfl (boxM.rd S (i:=0) G G)) ?_;clear H a;intro a H
    refine aG H G G G G (fun _ S=>(aB rY rfl)) ?_;clear H a;intro a H
    refine aG H G G G G (fun _ S=>aH aF rfl (boxM.rd S (i:=2) G G)) ?_;clear H a;intro a H
    refine aG H G G G G (fun _ S=>pQ G G hB.2) ?_;clear H a;intro a H
    refine qF H<|qd rfl (fun _ S=>(aW G G G))<|qr 1 rfl<|qK ?_;clear H a;intro a H
    refine aJ H G G G G G ?_;clear H a;intro a H
    refine aJ H G G G G G ?_;clear H a;intro a H
    refine aJ H G G G G G ?_;clear H a;intro a H
    refine aJ H G G G G G ?_;clear H a;intro a H
    refine aJ H G G G G G ?_;clear H a;intro a H
    refine aJ H G G G G G ?_;clear H a;intro a H
    refine aJ H G G G G G ?_;clear H a;intro a H
    refine aJ H G G G G G ?_;clear H a;intro a H
    refine aJ H G G G G G ?_;clear H a;intro a H
    refine aJ H G G G G G ?_;clear H a;intro a H
    refine qF H<|qd rfl (fun _ S=>(aU G G G))<|qK ?_;clear H a;intro a H
    refine bK ?_
    refine k16 _ _ ?_
    clear k16 K16
    refine cond_ H rfl (fun hc4=>?_) (fun hc4=>?_)
    ·skip
     skip
     replace H:=H.keep [11] rfl
     refine sS H fun K17 k17=>sr 3 rfl<|sE ?_;clear H a;intro a H
     refine k17 _ ?_;clear k17 K17
     refine wp_ret ?_
     refine ret2 (fn:=Tryd.f79) rfl H G G ?_
     have e9:jJ (fun k=>wornB (⟨rates,pwn,ptn,pag⟩:Part) l k (e (bT (⟨rates,pwn,ptn,pag⟩:Part) l k))) l.length=k:=mE (by omega) (by show wornB _ _ _ _=true;unfold wornB;rw [decide_eq_true hB.2];simp) hp.2.2
     unfold dY;rw [if_neg (by omega),e9];exact ⟨rfl,(S.sel [] G G)⟩
    skip
    cases hc4
   replace H:=H.keep [2,3,8,10,11,12,22,23,24] rfl
   replace S:=S.drew
   refine seq_wq [(0,true),(1,true),(2,true),(3,true),(4,true),(5,true),(6,true),(7,true),(8,true),(9,true),(10,true),(11,true),(12,true),(13,true),(14,true),(15,true),(16,true),(18,true),(19,true),(20,true),(17,false),(21,true),(22,true)] (by kernel_rfl) (by kernel_rfl) (S.sel [0,1,2] G G) fun K18 k18=>?_
   refine qF H<|qr 1 rfl<|qd rfl (fun _ S=>(aB nI rfl))<|qd rfl (fun _ S=>aH aF rfl (boxM.rd S (i:=2) G G))<|qd rfl (fun _ S=>kN G G hB.1)<|qr 1 rfl<|qK ?_;clear H a;intro a H
   refine aG H G G G G (fun _ S=>(aB jE rfl)) ?_;clear H a;intro a H
   refine aG H G G G G (fun _ S=>aH aF rfl (boxM.rd S (i:=0) G G)) ?_;clear H a;intro a H
   refine aG H G G G G (fun _ S=>(aB rY rfl)) ?_;clear H a;intro a H
   refine aG H G G G G (fun _ S=>aH aF rfl (boxM.rd S (i:=2) G G)) ?_;clear H a;intro a H
   refine aG H G G G G (fun _ S=>kN G G hB.2) ?_;clear H a;intro a H
   refine qF H<|qd rfl (fun _ S=>(aW G G G))<|qr 1 rfl<|qK ?_;clear H a;intro a H
   refine aG H G G G G (fun _ S=>aM rfl) ?_;clear H a;intro a H
   refine aG H G G G G (fun _ S=>aM rfl) ?_;clear H a;intro a H
   refine aG H G G G G (fun _ S=>aM rfl) ?_;clear H a;intro a H
   refine aG H G G G G (fun _ S=>dK cR aP G G (ownM.adr S (i:=1) rfl (by omega)) (by omega)) ?_;clear H a;intro a H
   refine aG H G G G G (fun _ S=>(kT bB aP rfl S (i:=1) rfl (by omega) (by omega))) ?_;clear H a;intro a H
   refine aG H G G G G (fun _ S=>(aB yO rfl)) ?_;clear H a;intro a H
   refine aG H G G G G (fun _ S=>aH aF rfl (boxM.rd S (i:=2) G G)) ?_;clear H a;intro a H
   refine aG H G G G G (fun _ S=>kQ G G (by unfold i64ok;omega)) ?_;clear H a;intro a H
   refine aS rfl ?_
   refine aY H G G ?_
   refine kG (fs:=[]) (cs:=[]) (vs:=[.agg [.int .i64 (bT (⟨rates,pwn,ptn,pag⟩:Part) l k).1,.int .i64 (bT (⟨rates,pwn,ptn,pag⟩:Part) l k).2].toArray]) H G G G (hf) (hfb) (hfn) (by exact hcall (bT (⟨rates,pwn,ptn,pag⟩:Part) l k).1 (bT (⟨rates,pwn,ptn,pag⟩:Part) l k).2 _) ?_;clear H a
   rintro _ _ a ⟨rfl,S2⟩ H
   replace S:=S.call S2;clear S2
   refine wpList_nil (And.intro (S.sel [0,1,2] G G) ?_)
   refine aG H G G G G (fun _ S=>bQ G G) ?_;clear H a;intro a H
   refine qF H<|qd rfl (fun _ S=>(aW G G G))<|qK ?_;clear H a;intro a H
   refine bK ?_
   refine k18 _ _ ?_
   clear k18 K18
   refine cond_ H rfl (fun hc5=>?_) (fun hc5=>?_)
   ·skip
    skip
    replace H:=H.keep [11] rfl
    refine sS H fun K19 k19=>sr 3 rfl<|sE ?_;clear H a;intro a H
    refine k19 _ ?_;clear k19 K19
    refine wp_ret ?_
    refine ret2 (fn:=Tryd.f79) rfl H G G ?_
    have e9:jJ (fun k=>wornB (⟨rates,pwn,ptn,pag⟩:Part) l k (e (bT (⟨rates,pwn,ptn,pag⟩:Part) l k))) l.length=k:=mE (by omega) (by show wornB _ _ _ _=true;unfold wornB;rw [decide_eq_false hB.1,decide_eq_false hB.2];exact hc5) hp.2.2
    unfold dY;rw [if_neg (by omega),e9];exact ⟨rfl,(S.sel [] G G)⟩
   skip
   refine wp_skip ?_
   refine k11 _ _ ?_
   refine sO H<|sd (aK G G (by unfold i64ok;omega))<|sr 1 rfl<|sE ?_;clear H a;intro a H
   exact k8 (g1-1) (k+1) a _ (by omega) (⟨by omega,by omega,fun q hq=>by
     by_cases h:q=k
     · subst h;show wornB _ _ _ _=false;unfold wornB;rw [decide_eq_false hB.1,decide_eq_false hB.2];exact hc5
     · exact hp.2.2 q (by omega)⟩) (S.sel [1,2] G G) (H.keep [10,24,2,3,8,22,23] rfl)
  refine wp_exit ?_
  refine k6 _ _ ?_
  refine sS H fun K21 k21=>sr 2 rfl<|sE ?_;clear H a;intro a H
  refine k21 _ ?_;clear k21 K21
  refine wp_ret ?_
  refine ret2 (fn:=Tryd.f79) rfl H G G ?_
  have hk9:k=l.length:=by omega
  subst hk9
  unfold dY;rw [if_neg (by omega),vC hp.2.2];exact ⟨rfl,(S.sel [] G G)⟩
 skip
 replace H:=H.keep [1,2,3] rfl
 refine seq_list fun K22 k22=>?_
 refine ls 2 H<|sd ((aC fQ iR rfl S (i:=0) G G))<|sr 1 rfl<|sE ?_;clear H a;intro a H
 refine aA H G G Tryd.func71 G G (gD (kM rates pwn ptn pag RA rcp l A cp _ (hr.now S) hrn (hl.now S) hn) (fun _ _=>Gl hA)) ?_;clear H a
 rintro _ _ a ⟨rfl,S2⟩ H
 replace S:=S.call S2;clear S2
 refine ls 5 H<|sr 5 rfl<|sE ?_;clear H a;intro a H
 refine k22 _ _ ?_;clear k22 K22
 refine wp_seq_k fun K23 k23=>?_
 replace H:=H.keep [1,2,3,8,9] rfl
 refine sS H fun K24 k24=>sr 2 rfl<|sE ?_;clear H a;intro a H
 refine k24 _ ?_;clear k24 K24
 refine condN H rfl (fun hc6=>?_) (fun hc6=>?_)
 ·skip
  refine sS H fun K25 k25=>sr 3 rfl<|sE ?_;clear H a;intro a H
  refine k25 _ ?_;clear k25 K25
  refine wp_ret ?_
  refine ret2 (fn:=Tryd.f79) rfl H G G ?_
  unfold dY;rw [if_pos hA];exact ⟨rfl,(S.sel [] G G)⟩
 all_goals (exfalso;omega)
theorem tI (rates:List (Int×Int)) (pwn ptn pag:Int) (RA:Option Addr) (rcp:Nat) (l:List Use) (A:Option Addr) (cp:Nat) (w:World) (hr:InS w noF 2 RA rates.length (scell rates)) (hrn:rates.length≤9223372036854775807) (hl:InS w noF 6 A l.length (ucell l)) (hn:l.length≤9223372036854775807) :
    Calls Tryd.prog 72 [.agg [.slice RA rates.length rcp,.int .i64 pwn,.int .i64 ptn,.int .i64 pag].toArray,.slice A l.length cp].toArray w (Ret (fun v w'=>v = .tuple #[.int .i64 (dY (⟨rates,pwn,ptn,pag⟩:Part) l Prod.snd).1,.int .i64 (dY (⟨rates,pwn,ptn,pag⟩:Part) l Prod.snd).2]∧St w noF [] w')):=by
 refine enter Tryd.func72 rfl Tryd.ntmps72 rfl (fun a H=>?_)
 have S:=St.start w
 refine seq_list fun K1 k1=>?_
 refine aQ H rfl S G G ?_;clear H a S;intro b2 _ a hb2 hbw2 S H
 refine ls 2 H<|sr 2 rfl<|sE ?_;clear H a;intro a H
 refine k1 _ _ ?_;clear k1 K1
 replace H:=H.keep [1,2] rfl
 refine seq_list fun K2 k2=>?_
 refine ls 2 H<|sd ((aC fQ iR rfl S (i:=0) G G))<|sr 1 rfl<|sE ?_;clear H a;intro a H
 refine aA H G G Tryd.func79 G G (vV rates pwn ptn pag RA rcp l A cp 80 _ Prod.snd _ (hr.now S) hrn (hl.now S) hn Tryd.func80 G G (fun a b w'=>pP a b w')) ?_;clear H a
 rintro _ _ a ⟨rfl,S2⟩ H
 replace S:=S.call S2;clear S2
 refine ls 4 H<|sr 4 rfl<|sE ?_;clear H a;intro a H
 refine k2 _ _ ?_;clear k2 K2
 refine wp_ret ?_
 refine ret2 (fn:=Tryd.f72) rfl H G G ?_
 exact ⟨rfl,(S.sel [] G G)⟩
end
section
theorem Gm {w:World} {p:Part} {l:List Use} {v:Value} {w':World} (h:WearR w p l v w'):∃ A n c,v = .tuple #[.slice A n c,.int .i64 (wearE p l)]∧St w noF [] w':=by
  rcases h with ⟨h0,A,c,rfl,S⟩|⟨_,rfl,S⟩
  · exact ⟨A,_,c,by rw [h0],S.sel [] rfl rfl⟩
  · exact ⟨none,0,0,rfl,S⟩
theorem yC {l:List Use} {k:Nat} (h:k+1=l.length):(l.getD k Use.zero).day=prevD l l.length:=by rw [←h];rfl
theorem vW {p:Part} {l:List Use} (h:wearE p l=0):0≤prevD l l.length∧p.rates.length≤4:=by
  have h1:=mD (pE h).1
  have h2:=h1.hdr
  unfold iK at h2
  simp only [decide_eq_true_eq] at h2
  exact ⟨tH h1.uses,h2.2.1⟩
theorem vX {P:Int} {ps:List Psg} {xs:List Int} (V:StV P ps xs) {n:Nat} (hn:n<ps.length):(∀ j,j<n→0≤(ps.getD n Psg.zero).mach→(ps.getD j Psg.zero).mach≠(ps.getD n Psg.zero).mach)∧∀ j,j<n→(ps.getD n Psg.zero).mach<0→(ps.getD j Psg.zero).mach=(ps.getD n Psg.zero).mach→(ps.getD j Psg.zero).mach<0:=
  ⟨fun j hj h0=>V.mach n hn h0 j hj,fun j _ h0 e=>by omega⟩
theorem Kb {pl:Int} {ps:List Psg} {xs:List Int} {day:List Hq} {l:List Prm} (h:keptE pl ps xs day l=0):StV pl ps xs:=oY (zH (uX h).1).1
theorem Kc {pl:Int} {ps:List Psg} {xs:List Int} {day:List Hq} {l:List Prm}:(keptV pl ps xs day l).2.2.2=keptE pl ps xs day l:=by
  unfold keptV
  split
  · rfl
  · split
    · dsimp only;omega
    · dsimp only;omega
theorem vY {days:Int} {s:Spr}:sprB days s=true↔((0≤s.day∧s.day≤days-1)∧(0≤s.kind∧s.kind≤3)∧(1≤s.many∧s.many≤8)):=by unfold sprB;rw [decide_eq_true_eq]
theorem Gn {pe:List Int} {k:Nat} (h:∀ q,q<k→0≤pe.getD q 0∧pe.getD q 0≤1000) (hk:0≤pe.getD k 0∧pe.getD k 0≤1000):∀ q,q<k+1→0≤pe.getD q 0∧pe.getD q 0≤1000:=fun q hq=>by
  by_cases e:q=k
  · subst e;exact hk
  · exact h q (by omega)
theorem iB {f:Nat→Bool} {k:Nat} (h:∀ q,q<k→f q=true) (hk:f k=true):∀ q,q<k+1→f q=true:=fun q hq=>by
  by_cases e:q=k
  · subst e;exact hk
  · exact h q (by omega)
theorem bJ (n lo hi:Int) (w:World) :
    Calls Tryd.prog 37 [.int .i64 n,.int .i64 lo,.int .i64 hi].toArray w (Ret (fun v w'=>v = .bool (decide (lo≤n)&&decide (n≤hi))∧w'=w)):=by
 refine enter Tryd.func37 rfl Tryd.ntmps37 rfl (fun a H=>?_)
 have S:=St.start w
 refine sS H fun K1 k1=>sr 1 rfl<|sE ?_;clear H a;intro a H
 refine k1 _ ?_;clear k1 K1
 replace H:=H.keep [0,1,2] rfl
 refine sS H fun K2 k2=>sr 4 rfl<|sg 3 3 10 13 true G G (fun hg4=>sy hg4<|sr 1 rfl<|sy hg4<|sr 1 rfl<|sy hg4<|sr 1 rfl<|sz 3 G G G)<|sa G G G<|sr 1 rfl<|sE ?_;clear H a;intro a H
 refine k2 _ ?_;clear k2 K2
 refine wp_ret ?_
 refine ret1 (fn:=Tryd.f37) rfl H rfl ?_
 exact ⟨rfl,rfl⟩
theorem Kd (u:Unt) (ps:List Psg) (us:List Unt) (i mb:Nat) (w:World) (F:Nat→Prop) (S:St w F [mapK (fun n:Int=>Value.int .i64 n) mb (macP ps us ps.length i)] w) (hur:InS w F 2 u.RA u.rates.length (scell u.rates)) (hurn:u.rates.length≤9223372036854775807) (huu:InS w F 6 u.UA u.uses.length (ucell u.uses)) (huun:u.uses.length≤9223372036854775807) :
    Calls Tryd.prog 62 [.agg [.int .i64 u.mach,.int .i64 u.every,.int .i64 u.seen,.slice u.RA u.rates.length u.rc,.int .i64 u.worn,.int .i64 u.turns,.int .i64 u.age,.slice u.UA u.uses.length u.uc,.int .i64 u.old,.int .i64 u.tn,.int .i64 u.cl,.int .i64 u.kind].toArray,.map (some mb)].toArray w (Ret (fun v w'=>v = .bool (untU ps us i u)∧St w F [mapK (fun n:Int=>Value.int .i64 n) mb (macP ps us ps.length i)] w')):=by
 refine enter Tryd.func62 rfl Tryd.ntmps62 rfl (fun a H=>?_)
 skip
 refine seq_list fun K1 k1=>?_
 refine aQ H rfl S G G ?_;clear H a S;intro b2 _ a hb2 hbw2 S H
 refine ls 1 H<|sr 1 rfl<|sE ?_;clear H a;intro a H
 refine k1 _ _ ?_;clear k1 K1
 refine wp_seq_k fun K2 k2=>?_
 replace H:=H.keep [1,2] rfl
 refine sS H fun K3 k3=>sr 1 rfl<|sf yP rfl<|sl S 0 aF G G G<|sd ((sV S (i:=1) rfl xA (gF rfl) G G G (fun h hh=>hh u.mach):Does _ _ _ _ (.bool (freeM ps us i u.mach))))<|sr 2 rfl<|sg 4 5 14 18 false G G (fun hg6=>sy hg6<|sf rZ rfl<|sy hg6<|sl S 0 aF G G G<|sy hg6<|sc rfl Tryd.func37 G G (bJ _ _ _ _)<|sy hg6<|sr 1 rfl<|sz 4 G G G)<|so G G G<|sr 1 rfl<|sg 4 11 20 24 false G G (fun hg12=>sy hg12<|sf yQ rfl<|sy hg12<|sl S 0 aF G G G<|sy hg12<|sc rfl Tryd.func37 G G (bJ _ _ _ _)<|sy hg12<|sr 1 rfl<|sz 4 G G G)<|so G G G<|sr 1 rfl<|sg 4 17 26 30 false G G (fun hg18=>sy hg18<|sf Hs rfl<|sy hg18<|sl S 0 aF G G G<|sy hg18<|sc rfl Tryd.func37 G G (bJ _ _ _ _)<|sy hg18<|sr 1 rfl<|sz 4 G G G)<|so G G G<|sE ?_;clear H a;intro a H
 refine k3 _ ?_;clear k3 K3
 refine cond_ H rfl (fun hc1=>?_) (fun hc1=>?_)
 ·skip
  try simp only [o1,o2,o3,o4,o5,o6,o7,o8,o9,oa] at hc1
  replace H:=H.keep [] rfl
  refine sS H fun K4 k4=>sr 1 rfl<|sE ?_;clear H a;intro a H
  refine k4 _ ?_;clear k4 K4
  refine wp_ret ?_
  refine ret1 (fn:=Tryd.f62) rfl H rfl ?_
  rw [vK (ps:=ps) (us:=us) (i:=i) (u:=u) (fun h=>by have h1:=h.free;have h2:=h.i;unfold untI at h2;rw [h1] at hc1;simp only [Bool.true_eq_false,Bool.not_true,Bool.false_eq_true,not_true_eq_false,false_or] at hc1;omega)];exact ⟨rfl,(S.sel [1] G G)⟩
 try simp only [o1,o2,o3,o4,o5,o6,o7,o8,o9,oa] at hc1
 refine wp_skip ?_
 refine k2 _ _ ?_
 refine wp_seq_k fun K5 k5=>?_
 replace H:=H.keep [2] rfl
 refine seq_list fun K6 k6=>?_
 refine ls 4 H<|sf sA rfl<|sd ((aC fQ iR rfl S (i:=0) G G))<|sf lE rfl<|sl S 0 oF G G G<|sE ?_;clear H a;intro a H
 refine aA H G G Tryd.func71 G G (gD (kM u.rates u.worn u.turns u.age u.RA u.rc u.uses u.UA u.uc _ (hur.now S) hurn (huu.now S) huun) (fun _ _ h=>Gm h)) ?_;clear H a
 rintro _ _ a ⟨WA,wn,wc,rfl,S2⟩ H
 replace S:=S.call S2;clear S2
 refine ls 5 H<|sr 5 rfl<|sE ?_;clear H a;intro a H
 refine k6 _ _ ?_;clear k6 K6
 replace H:=H.keep [2,6] rfl
 refine sS H fun K7 k7=>sr 3 rfl<|sg 4 2 42 46 false G G (fun hg3=>sy hg3<|sf lE rfl<|sy hg3<|sl S 0 oF G G G<|sy hg3<|sL dM rfl<|sy hg3<|sr 1 rfl<|sz 4 G G G)<|so G G G<|sE ?_;clear H a;intro a H
 refine k7 _ ?_;clear k7 K7
 refine cond_ H rfl (fun hc2=>?_) (fun hc2=>?_)
 ·skip
  try simp only [o1,o2,o3,o4,o5,o6,o7,o8,o9,oa] at hc2
  refine sS H fun K8 k8=>sr 1 rfl<|sE ?_;clear H a;intro a H
  refine k8 _ ?_;clear k8 K8
  refine wp_ret ?_
  refine ret1 (fn:=Tryd.f62) rfl H rfl ?_
  rw [vK (ps:=ps) (us:=us) (i:=i) (u:=u) (fun h=>by have h1:=h.wear;have h2:=h.i;unfold untI at h2;rcases hc2 with h9|h9;exact h9 h1;omega)];exact ⟨rfl,(S.sel [1] rfl rfl)⟩
 try simp only [o1,o2,o3,o4,o5,o6,o7,o8,o9,oa] at hc2
 have hwe:wearE u.part u.uses=0:=by have h9:=hc2;show wearE ⟨u.rates,u.worn,u.turns,u.age⟩ u.uses=0;omega
 have hpv:=vW hwe
 refine wp_skip ?_
 refine k5 _ _ ?_
 replace H:=H.keep [2] rfl
 refine sS H fun K9 k9=>sr 1 rfl<|sE ?_;clear H a;intro a H
 refine k9 _ ?_;clear k9 K9
 have SR:=(S.sel [0,1] G G)
 refine meet_sr (X:=Int) [2] H rfl (fun x=>[(7,.int .i64 x)]) (fun x=>[]) (fun x=>x=prevD u.uses u.uses.length) SR (fun K11 k11=>?_) ?_
 ·skip
  refine sS H fun K12 k12=>sf lE rfl<|sl S 0 oF G G G<|sL dM rfl<|sr 1 rfl<|sE ?_;clear H a;intro a H
  refine k12 _ ?_;clear k12 K12
  refine sS H fun K13 k13=>sr 2 rfl<|sE ?_;clear H a;intro a H
  refine k13 _ ?_;clear k13 K13
  refine condL H rfl (fun hc3=>?_) (fun hc3=>?_)
  ·skip
   replace H:=H.keep [2,8] rfl
   refine sO H<|sf lE rfl<|sl S 0 oF G G G<|sr 1 rfl<|sd (aT G G (by unfold i64ok;omega))<|sI dM dD G G (huu.adr (by omega)) (by omega) (by omega)<|sp jE rfl<|slm aF rfl (huu.rd S (by omega) (by omega))<|sr 1 rfl<|sE ?_;clear H a;intro a H
   exact k11 _ a _ (yC (k:=((u.uses.length:Int)-1).toNat) (by omega)) (S.sel [0,1] G G) (H.keep [7,2] rfl)
  refine wp_skip ?_
  exact k11 _ a _ (by rw [show u.uses.length=0 by omega];rfl) (S.sel [0,1] G G) (H.keep [7,2] rfl)
 clear SR H S a
 intro xm a wm hp S H
 obtain ⟨x,rfl⟩:∃ y,y=xm:=⟨_,rfl⟩
 replace H:=H.keep [2,7] rfl
 refine sS H fun K15 k15=>sf yR rfl<|sl S 0 aF G G G<|sr 1 rfl<|sc rfl Tryd.func37 G G (bJ _ _ _ _)<|sr 1 rfl<|sg 3 4 64 67 true G G (fun hg5=>sy hg5<|sf sB rfl<|sy hg5<|sl S 0 aF G G G<|sy hg5<|sc rfl Tryd.func37 G G (bJ _ _ _ _)<|sz 3 G G G)<|sa G G G<|sr 1 rfl<|sg 8 9 69 77 true G G (fun hg10=>sy hg10<|sf sC rfl<|sy hg10<|sl S 0 aF G G G<|sy hg10<|sf sA rfl<|sy hg10<|sf lD rfl<|sy hg10<|sl S 0 oE G G G<|sy hg10<|sL cR rfl<|sy hg10<|sd (aT G G (by unfold i64ok;omega))<|sy hg10<|sc rfl Tryd.func37 G G (bJ _ _ _ _)<|sz 8 G G G)<|sa G G G<|sr 1 rfl<|sE ?_;clear H a;intro a H
 refine k15 _ ?_;clear k15 K15
 refine wp_ret ?_
 refine ret1 (fn:=Tryd.f62) rfl H rfl ?_
 refine ⟨congrArg Value.bool ?_,(S.sel [1] G G)⟩
 rw [Bool.eq_iff_iff,pG]
 simp only [Bool.and_eq_true,decide_eq_true_eq]
 constructor
 · intro h9
   refine ⟨?_,?_,hwe⟩
   · rcases hc1 with ⟨⟨⟨h1,_⟩,_⟩,_⟩;exact h1
   · unfold untI;omega
 · intro h9
   have h2:=h9.i
   unfold untI at h2
   omega
theorem Ke (y:Yr) (w:World) (hy:YIn w noF y) (hyb:YBd y) :
    Calls Tryd.prog 52 [.agg [.int .i64 y.days,.int .i64 y.pl,.slice y.PA y.ps.length y.pc,.slice y.XA y.xs.length y.xc,.slice y.BA y.pe.length y.bc,.int .i64 y.limit,.bool y.help,.slice y.QA y.prs.length y.qc,.slice y.VA y.us.length y.vc,.int .i64 y.crew,.slice y.SA y.sps.length y.sc].toArray].toArray w (Ret (fun v w'=>v = .int .i64 (yearE y)∧St w noF [] w')):=by
 have hn1:=hyb.psn;have hn2:=hyb.pen;have hn3:=hyb.usn;have hn4:=hyb.spn
 refine enter Tryd.func52 rfl Tryd.ntmps52 rfl (fun a H=>?_)
 have S:=St.start w
 refine seq_list fun K1 k1=>?_
 refine aQ H rfl S G G ?_;clear H a S;intro b1 _ a hb1 hbw1 S H
 refine ls 1 H<|sr 1 rfl<|sE ?_;clear H a;intro a H
 refine k1 _ _ ?_;clear k1 K1
 refine wp_seq_k fun K2 k2=>?_
 replace H:=H.keep [1] rfl
 refine seq_list fun K3 k3=>?_
 refine ls 4 H<|sf sG rfl<|sd ((aC kK mR rfl S (i:=0) G G))<|sf Hu rfl<|sl S 0 Lh G G G<|sE ?_;clear H a;intro a H
 refine aA H G G Tryd.func61 G G (Cg y.pl y.ps y.PA y.pc y.xs y.XA y.xc ([]:List Hq) none 0 (fun _=>none) (fun _=>0) y.prs y.QA y.qc _ (hy.ps.now S) hyb.psn (hy.xs.now S) hyb.xsn InS.nil (by decide) (fun k hk=>absurd hk (Nat.not_lt_zero k)) (fun k hk=>absurd hk (Nat.not_lt_zero k)) (hy.prs.now S) hyb.prn) ?_;clear H a
 rintro _ _ a ⟨rfl,S2⟩ H
 replace S:=S.call S2;clear S2
 rw [Kc] at H
 refine ls 9 H<|sr 9 rfl<|sE ?_;clear H a;intro a H
 refine k3 _ _ ?_;clear k3 K3
 replace H:=H.keep [1,6] rfl
 refine sS H fun K4 k4=>sr 2 rfl<|sE ?_;clear H a;intro a H
 refine k4 _ ?_;clear k4 K4
 refine condN H rfl (fun hc1=>?_) (fun hc1=>?_)
 ·skip
  refine sS H fun K5 k5=>sr 2 rfl<|sE ?_;clear H a;intro a H
  refine k5 _ ?_;clear k5 K5
  refine wp_ret ?_
  refine ret1 (fn:=Tryd.f52) rfl H rfl ?_
  exact ⟨congrArg _ (xJ hc1).symm,(S.sel [] G G)⟩
 have hke:keptE y.pl y.ps y.xs [] y.prs=0:=by omega
 have hV:=Kb hke
 refine wp_skip ?_
 refine k2 _ _ ?_
 refine wp_seq_k fun K6 k6=>?_
 replace H:=H.keep [1] rfl
 refine sS H fun K7 k7=>sf fZ rfl<|sl S 0 aF G G G<|sc rfl Tryd.func37 G G (bJ _ _ _ _)<|sr 2 rfl<|sg 7 4 33 40 false G G (fun hg5=>by
     have hq5:=hg5;try simp only [o1,o2,o3,o4,o5,o6,o7,o8,o9,oa] at hq5
     exact sy hg5<|sf yS rfl<|sy hg5<|sl S 0 bD G G G<|sy hg5<|sL aR rfl<|sy hg5<|sf sG rfl<|sy hg5<|sf gV rfl<|sy hg5<|sl S 0 aF G G G<|sy hg5<|sr 1 rfl<|sz 7 G G G)<|so G G G<|sr 1 rfl<|sg 4 13 42 46 false G G (fun hg14=>by
     have hq14:=hg14;try simp only [o1,o2,o3,o4,o5,o6,o7,o8,o9,oa] at hq14
     exact sy hg14<|sf Ht rfl<|sy hg14<|sl S 0 aF G G G<|sy hg14<|sc rfl Tryd.func37 G G (bJ _ _ _ _)<|sy hg14<|sr 1 rfl<|sz 4 G G G)<|so G G G<|sr 1 rfl<|sg 4 19 48 52 false G G (fun hg20=>by
     have hq20:=hg20;try simp only [o1,o2,o3,o4,o5,o6,o7,o8,o9,oa] at hq20
     exact sy hg20<|sf Hv rfl<|sy hg20<|sl S 0 aF G G G<|sy hg20<|sc rfl Tryd.func37 G G (bJ _ _ _ _)<|sy hg20<|sr 1 rfl<|sz 4 G G G)<|so G G G<|sr 1 rfl<|sg 4 25 54 58 false G G (fun hg26=>by
     have hq26:=hg26;try simp only [o1,o2,o3,o4,o5,o6,o7,o8,o9,oa] at hq26
     exact sy hg26<|sf yT rfl<|sy hg26<|sl S 0 Dh G G G<|sy hg26<|sL Dl rfl<|sy hg26<|sr 1 rfl<|sz 4 G G G)<|so G G G<|sE ?_;clear H a;intro a H
 refine k7 _ ?_;clear k7 K7
 refine cond_ H rfl (fun hc2=>?_) (fun hc2=>?_)
 ·skip
  try simp only [o1,o2,o3,o4,o5,o6,o7,o8,o9,oa] at hc2
  replace H:=H.keep [] rfl
  refine sS H fun K8 k8=>sr 1 rfl<|sE ?_;clear H a;intro a H
  refine k8 _ ?_;clear k8 K8
  refine wp_ret ?_
  refine ret1 (fn:=Tryd.f52) rfl H rfl ?_
  rw [pF hke (fun h=>by unfold yrI at h;omega)];exact ⟨rfl,(S.sel [] G G)⟩
 try simp only [o1,o2,o3,o4,o5,o6,o7,o8,o9,oa] at hc2
 refine wp_skip ?_
 refine k6 _ _ ?_
 refine wp_seq_k fun K9 k9=>?_
 refine sS H fun K10 k10=>sf yS rfl<|sl S 0 bD G G G<|sL aR rfl<|sr 1 rfl<|sE ?_;clear H a;intro a H
 refine k10 _ ?_;clear k10 K10
 refine wp_block ?_
 refine loop_st (X:=Nat) (R0:=_) [1,61,62] H rfl (fun k=>[(63,.int .i64 (k:Int))]) (fun k=>[]) (fun g k=>k≤y.pe.length∧g+k=y.pe.length∧∀ q,q<k→0≤y.pe.getD q 0∧y.pe.getD q 0≤1000) (y.pe.length) 0 ?_ (S.sel [0] G G) (H.keep [63,1,61,62] rfl) ?_
 · exact ⟨by omega,by omega,fun q hq=>absurd hq (Nat.not_lt_zero q)⟩
 clear H S a
 intro g1 x1 a w1 hp S H K11 k11
 obtain ⟨k,rfl⟩:∃ y,y=x1:=⟨_,rfl⟩
 refine sS H fun K12 k12=>sr 1 rfl<|sE ?_;clear H a;intro a H
 refine k12 _ ?_;clear k12 K12
 refine wp_seq_k fun K13 k13=>?_
 refine condL H rfl (fun hc3=>?_) (fun hc3=>?_)
 ·skip
  refine wp_skip ?_
  refine k13 _ _ ?_
  refine wp_seq_k fun K14 k14=>?_
  refine wp_block ?_
  refine sS H fun K15 k15=>si aR bE G G (hy.pe.adr (by omega)) (by omega)<|slm aF rfl (hy.pe.rd S (by omega) (by omega))<|sr 1 rfl<|sE ?_;clear H a;intro a H
  refine k15 _ ?_;clear k15 K15
  refine sS H fun K16 k16=>sr 1 rfl<|sc rfl Tryd.func37 G G (bJ _ _ _ _)<|sr 1 rfl<|sE ?_;clear H a;intro a H
  refine k16 _ ?_;clear k16 K16
  refine cond_ H rfl (fun hc4=>?_) (fun hc4=>?_)
  ·skip
   try simp only [o1,o2,o3,o4,o5,o6,o7,o8,o9,oa] at hc4
   refine sS H fun K17 k17=>sr 1 rfl<|sE ?_;clear H a;intro a H
   refine k17 _ ?_;clear k17 K17
   refine wp_ret ?_
   refine ret1 (fn:=Tryd.f52) rfl H rfl ?_
   rw [pF hke (fun h=>by have h9:=h.2.1.2 k (by omega);omega)];exact ⟨rfl,(S.sel [] G G)⟩
  try simp only [o1,o2,o3,o4,o5,o6,o7,o8,o9,oa] at hc4
  refine wp_skip ?_
  refine k14 _ _ ?_
  replace H:=H.keep [1,61,62,63] rfl
  refine sO H<|sd (aK G G (by unfold i64ok;omega))<|sr 1 rfl<|sE ?_;clear H a;intro a H
  exact k11 (g1-1) (k+1) a _ (by omega) (⟨by omega,by omega,Gn hp.2.2 (by omega)⟩) (S.sel [0] G G) (H.keep [63,1,61,62] rfl)
 refine wp_exit ?_
 refine k9 _ _ ?_
 refine wp_seq_k fun K19 k19=>?_
 refine sS H fun K20 k20=>sf yT rfl<|sl S 0 Dh G G G<|sL Dl rfl<|sr 1 rfl<|sE ?_;clear H a;intro a H
 refine k20 _ ?_;clear k20 K20
 refine wp_block ?_
 have hpe9:∀ q,q<y.pe.length→0≤y.pe.getD q 0∧y.pe.getD q 0≤1000:=fun q hq=>hp.2.2 q (by omega)
 refine loop_st (X:=Nat) (R0:=_) [1,72,73] H rfl (fun k=>[(74,.int .i64 (k:Int))]) (fun k=>[]) (fun g k=>k≤y.sps.length∧g+k=y.sps.length∧∀ q,q<k→sprB y.days (y.sps.getD q Spr.zero)=true) (y.sps.length) 0 ?_ (S.sel [0] G G) (H.keep [74,1,72,73] rfl) ?_
 · exact ⟨by omega,by omega,fun q hq=>absurd hq (Nat.not_lt_zero q)⟩
 clear H S a
 intro g2 x2 a w2 hp S H K21 k21
 obtain ⟨k,rfl⟩:∃ y,y=x2:=⟨_,rfl⟩
 refine sS H fun K22 k22=>sr 1 rfl<|sE ?_;clear H a;intro a H
 refine k22 _ ?_;clear k22 K22
 refine wp_seq_k fun K23 k23=>?_
 refine condL H rfl (fun hc5=>?_) (fun hc5=>?_)
 ·skip
  refine wp_skip ?_
  refine k23 _ _ ?_
  refine wp_seq_k fun K24 k24=>?_
  refine wp_block ?_
  refine seq_list fun K25 k25=>?_
  refine ls 2 H<|si Dl wV G G (hy.sps.adr (by omega)) (by omega)<|sd ((aZ Hn wV rfl S hy.sps (by omega) (by omega)))<|sE ?_;clear H a;intro a H
  refine aI H rfl S Ll ?_;clear H a S;intro b10 _ a hb10 hbw10 S H
  refine aD H S (i:=0) G G G G wV G G ?_
  clear H a S;intro _ a S H
  refine k25 _ _ ?_;clear k25 K25
  replace H:=H.keep [1,10,72,73,74] rfl
  refine sS H fun K26 k26=>sf Dp rfl<|sl S 0 aF G G G<|sf fZ rfl<|sl S 1 aF G G G<|sd (aT G G (by unfold i64ok;omega))<|sc rfl Tryd.func37 G G (bJ _ _ _ _)<|sr 2 rfl<|sg 4 7 85 89 false G G (fun hg8=>by
      have hq8:=hg8;try simp only [o1,o2,o3,o4,o5,o6,o7,o8,o9,oa] at hq8
      exact sy hg8<|sf Dq rfl<|sy hg8<|sl S 0 aF G G G<|sy hg8<|sc rfl Tryd.func37 G G (bJ _ _ _ _)<|sy hg8<|sr 1 rfl<|sz 4 G G G)<|so G G G<|sr 1 rfl<|sg 4 13 91 95 false G G (fun hg14=>by
      have hq14:=hg14;try simp only [o1,o2,o3,o4,o5,o6,o7,o8,o9,oa] at hq14
      exact sy hg14<|sf Dr rfl<|sy hg14<|sl S 0 aF G G G<|sy hg14<|sc rfl Tryd.func37 G G (bJ _ _ _ _)<|sy hg14<|sr 1 rfl<|sz 4 G G G)<|so G G G<|sE ?_;clear H a;intro a H
  refine k26 _ ?_;clear k26 K26
  refine cond_ H rfl (fun hc6=>?_) (fun hc6=>?_)
  ·skip
   try simp only [o1,o2,o3,o4,o5,o6,o7,o8,o9,oa] at hc6
   replace H:=H.keep [] rfl
   refine sS H fun K27 k27=>sr 1 rfl<|sE ?_;clear H a;intro a H
   refine k27 _ ?_;clear k27 K27
   refine wp_ret ?_
   refine ret1 (fn:=Tryd.f52) rfl H rfl ?_
   rw [pF hke (fun h=>by have h9:=vY.1 (h.2.2.2.2.2 k (by omega));omega)];exact ⟨rfl,(S.sel [] G G)⟩
  try simp only [o1,o2,o3,o4,o5,o6,o7,o8,o9,oa] at hc6
  refine wp_skip ?_
  refine k24 _ _ ?_
  refine sO H<|sd (aK G G (by unfold i64ok;omega))<|sr 1 rfl<|sE ?_;clear H a;intro a H
  exact k21 (g2-1) (k+1) a _ (by omega) (⟨by omega,by omega,iB (f:=fun q=>sprB y.days (y.sps.getD q Spr.zero)) hp.2.2 (vY.2 (by omega))⟩) (S.sel [1] G G) (H.keep [74,1,72,73] rfl)
 refine wp_exit ?_
 refine k19 _ _ ?_
 refine wp_seq_k fun K29 k29=>?_
 refine sS H fun K30 k30=>sf gW rfl<|sl S 0 iZ G G G<|sL kF rfl<|sr 1 rfl<|sE ?_;clear H a;intro a H
 refine k30 _ ?_;clear k30 K30
 refine condL H rfl (fun hc7=>?_) (fun hc7=>?_)
 ·skip
  refine sS H fun K31 k31=>sr 1 rfl<|sE ?_;clear H a;intro a H
  refine k31 _ ?_;clear k31 K31
  refine wp_ret ?_
  refine ret1 (fn:=Tryd.f52) rfl H rfl ?_
  rw [xK hke (by
    unfold yrI
    have h9:=hp.2.2
    exact ⟨by omega,⟨by omega,hpe9⟩,by omega,by omega,by omega,fun q hq=>h9 q (by omega)⟩) (by omega)];exact ⟨rfl,(S.sel [] G G)⟩
 refine wp_skip ?_
 refine k29 _ _ ?_
 replace H:=H.keep [1] rfl
 refine seq_list fun K32 k32=>?_
 refine fJ (fun n:Int=>Value.int .i64 n) (macP y.ps y.us 0 0) Bh H rfl S ?_;clear H a S;intro mb _ a hmb S H
 refine ls 1 H<|sr 1 rfl<|sE ?_;clear H a;intro a H
 refine k32 _ _ ?_;clear k32 K32
 refine wp_seq_k fun K33 k33=>?_
 refine sS H fun K34 k34=>sf sG rfl<|sf nH rfl<|sl S 1 rQ G G G<|sL mT rfl<|sr 1 rfl<|sE ?_;clear H a;intro a H
 refine k34 _ ?_;clear k34 K34
 refine wp_block ?_
 have hyi:yrI y:=by
   unfold yrI
   have h9:=hp.2.2
   exact ⟨by omega,⟨by omega,hpe9⟩,by omega,by omega,by omega,fun q hq=>h9 q (by omega)⟩
 refine loop_st (X:=Nat) (R0:=_) [1,11,105,106] H rfl (fun k=>[(107,.int .i64 (k:Int))]) (fun k=>[mapK (fun n:Int=>Value.int .i64 n) mb (macP y.ps y.us k 0)]) (fun g k=>k≤y.ps.length∧g+k=y.ps.length) (y.ps.length) 0 ?_ (S.sel [0,1] G G) (H.keep [107,1,11,105,106] rfl) ?_
 · exact ⟨by omega,by omega⟩
 clear H S a
 intro g3 x3 a w3 hp S H K35 k35
 obtain ⟨k,rfl⟩:∃ y,y=x3:=⟨_,rfl⟩
 refine sS H fun K36 k36=>sr 1 rfl<|sE ?_;clear H a;intro a H
 refine k36 _ ?_;clear k36 K36
 refine wp_seq_k fun K37 k37=>?_
 refine condL H rfl (fun hc8=>?_) (fun hc8=>?_)
 ·skip
  refine wp_skip ?_
  refine k37 _ _ ?_
  refine wp_seq_k fun K38 k38=>?_
  refine wp_block ?_
  refine seq_list fun K39 k39=>?_
  refine ls 2 H<|si mT iQ G G (hy.ps.adr (by omega)) (by omega)<|sd ((aZ oD iQ rfl S hy.ps (by omega) (by omega)))<|sE ?_;clear H a;intro a H
  refine aI H rfl S uO ?_;clear H a S;intro b13 _ a hb13 hbw13 S H
  refine aD H S (i:=0) G G G G iQ G G ?_
  clear H a S;intro _ a S H
  refine k39 _ _ ?_;clear k39 K39
  replace H:=H.keep [1,11,13,105,106,107] rfl
  refine one_list ?_
  refine ls 6 H<|sr 1 rfl<|sf fY rfl<|sl S 0 aF G G G<|sf fY rfl<|sl S 0 aF G G G<|sr 1 rfl<|sE ?_;clear H a;intro a H
  refine fS (k:=(y.ps.getD k Psg.zero).mach) (macP y.ps y.us (k+1) 0) H S (i:=1) rfl xA (gF rfl) G G G (Iw (vX hV (by omega)).1 (vX hV (by omega)).2) ?_;clear H a S;intro _ a S H
  refine k38 _ _ ?_
  refine sO H<|sd (aK G G (by unfold i64ok;omega))<|sr 1 rfl<|sE ?_;clear H a;intro a H
  exact k35 (g3-1) (k+1) a _ (by omega) (⟨by omega,by omega⟩) (S.sel [1,2] G G) (H.keep [107,1,11,105,106] rfl)
 refine wp_exit ?_
 refine k33 _ _ ?_
 refine wp_seq_k fun K42 k42=>?_
 replace H:=H.keep [1,11] rfl
 refine sS H fun K43 k43=>sf gW rfl<|sl S 1 iZ G G G<|sL kF rfl<|sr 1 rfl<|sE ?_;clear H a;intro a H
 refine k43 _ ?_;clear k43 K43
 refine wp_block ?_
 obtain rfl:k=y.ps.length:=by omega
 refine loop_st (X:=Nat) (R0:=_) [11,119,120] H rfl (fun k=>[(121,.int .i64 (k:Int))]) (fun k=>[mapK (fun n:Int=>Value.int .i64 n) mb (macP y.ps y.us y.ps.length k)]) (fun g k=>k≤y.us.length∧g+k=y.us.length∧∀ q,q<k→untB y.ps y.us q=true) (y.us.length) 0 ?_ (S.sel [0,1] G G) (H.keep [121,11,119,120] rfl) ?_
 · exact ⟨by omega,by omega,fun q hq=>absurd hq (Nat.not_lt_zero q)⟩
 clear H S a
 intro g4 x4 a w4 hp S H K44 k44
 obtain ⟨k,rfl⟩:∃ y,y=x4:=⟨_,rfl⟩
 refine sS H fun K45 k45=>sr 1 rfl<|sE ?_;clear H a;intro a H
 refine k45 _ ?_;clear k45 K45
 refine wp_seq_k fun K46 k46=>?_
 refine condL H rfl (fun hc9=>?_) (fun hc9=>?_)
 ·skip
  refine wp_skip ?_
  refine k46 _ _ ?_
  refine wp_seq_k fun K47 k47=>?_
  refine wp_block ?_
  refine seq_list fun K48 k48=>?_
  refine ls 2 H<|si kF mS G G (hy.us.adr (by omega)) (by omega)<|sd ((aZ rR mS rfl S hy.us (by omega) (by omega)))<|sE ?_;clear H a;intro a H
  refine aI H rfl S Dy ?_;clear H a S;intro b15 _ a hb15 hbw15 S H
  refine aD H S (i:=0) G G G G mS G G ?_
  clear H a S;intro _ a S H
  refine k48 _ _ ?_;clear k48 K48
  refine wp_seq_k fun K49 k49=>?_
  refine seq_list fun K50 k50=>?_
  refine ls 2 H<|sd ((aC rR mS rfl S (i:=0) G G))<|sr 1 rfl<|sE ?_;clear H a;intro a H
  refine aA H G G Tryd.func62 G G (Kd (y.u k) y.ps y.us k mb _ _ ((S.sel [1] G G).startR) ((hy.rt k (by omega)).nowR (S.sel [1] G G)) (hyb.rtn (by omega)) ((hy.ul k (by omega)).nowR (S.sel [1] G G)) (hyb.uln (by omega))) ?_;clear H a
  rintro _ _ a ⟨rfl,S2⟩ H
  replace S:=St.callR (M:=[_]) (S.sel [1,0,2] G G) S2;clear S2
  refine ls 1 H<|sr 1 rfl<|sE ?_;clear H a;intro a H
  refine k50 _ _ ?_;clear k50 K50
  refine cond_ H rfl (fun hc10=>?_) (fun hc10=>?_)
  ·skip
   try simp only [o1,o2,o3,o4,o5,o6,o7,o8,o9,oa] at hc10
   replace H:=H.keep [] rfl
   refine sS H fun K51 k51=>sr 1 rfl<|sE ?_;clear H a;intro a H
   refine k51 _ ?_;clear k51 K51
   refine wp_ret ?_
   refine ret1 (fn:=Tryd.f52) rfl H rfl ?_
   rw [xL hke hyi (by omega) (show k<y.us.length by omega) hc10];exact ⟨rfl,(S.sel [] G G)⟩
  try simp only [o1,o2,o3,o4,o5,o6,o7,o8,o9,oa] at hc10
  refine wp_skip ?_
  refine k49 _ _ ?_
  refine one_list ?_
  refine ls 3 H<|sr 1 rfl<|sf yP rfl<|sl S 1 aF G G G<|sE ?_;clear H a;intro a H
  refine fS (k:=(y.us.getD k Unt.zero).mach) (macP y.ps y.us y.ps.length (k+1)) H S (i:=0) rfl xA (gF rfl) G G G Ix ?_;clear H a S;intro _ a S H
  refine k47 _ _ ?_
  refine sO H<|sd (aK G G (by unfold i64ok;omega))<|sr 1 rfl<|sE ?_;clear H a;intro a H
  exact k44 (g4-1) (k+1) a _ (by omega) (⟨by omega,by omega,iB (f:=untB y.ps y.us) hp.2.2 hc10⟩) (S.sel [0,2] G G) (H.keep [121,11,119,120] rfl)
 refine wp_exit ?_
 refine k42 _ _ ?_
 refine sS H fun K54 k54=>sr 1 rfl<|sE ?_;clear H a;intro a H
 refine k54 _ ?_;clear k54 K54
 refine wp_ret ?_
 refine ret1 (fn:=Tryd.f52) rfl H rfl ?_
 rw [vH hke hyi (by omega) (bL.2 fun q hq=>hp.2.2 q (by omega))];exact ⟨rfl,(S.sel [] G G)⟩
end
section
theorem chk5 (A B C:Prop) [Decidable A] [Decidable B] [Decidable C] (k:Nat):¬ A∨(A∧¬ B)∨(A∧B∧¬ C)∨(A∧B∧C∧k=0)∨(A∧B∧C∧0<k):=by
  by_cases hA:A <;> by_cases hB:B <;> by_cases hC:C <;> by_cases hk:k=0 <;> simp [hA,hB,hC,hk] <;> omega
section
variable {P:Program} {w:World} {L:List (Nat×Value)} {ty:TypeId} {pos:String} {af:Array Edge} {dd:Option Nat} {g:Option (Nat×Bool)}
theorem jM {x:Operand} {xt:TypeId} {lo n hi:Int} (hx:ev L x=some (.bool (decide (lo≤n)&&decide (n≤hi)))) (h:¬ (lo≤n∧n≤hi)):Does P L ⟨dd,.unOp .not xt x,ty,pos,af,g⟩ w (.bool true):=by
  have h1:=cC (P:=P) (d:=dd) (w:=w) (ty:=ty) (pos:=pos) (af:=af) (g:=g) (xt:=xt) hx
  have e:(!(decide (lo≤n)&&decide (n≤hi)))=true:=by simp only [Bool.not_eq_true',Bool.and_eq_false_iff,decide_eq_false_iff_not];omega
  rw [e] at h1
  exact h1
theorem dB {x:Operand} {xt:TypeId} {lo n hi:Int} (hx:ev L x=some (.bool (decide (lo≤n)&&decide (n≤hi)))) (h:lo≤n∧n≤hi):Does P L ⟨dd,.unOp .not xt x,ty,pos,af,g⟩ w (.bool false):=by
  have h1:=cC (P:=P) (d:=dd) (w:=w) (ty:=ty) (pos:=pos) (af:=af) (g:=g) (xt:=xt) hx
  rw [decide_eq_true h.1,decide_eq_true h.2] at h1
  exact h1
end
section
variable {y:Yr} {l:List Tsk} {k:Nat}
def tskI (y:Yr) (t:Tsk):Prop:=(0≤t.day∧t.day≤y.days-1)∧(0≤t.unit∧t.unit≤(y.us.length:Int)-1)∧(1≤t.kind∧t.kind≤2)
theorem pR (h:¬ ((0≤(l.getD k Tsk.zero).day∧(l.getD k Tsk.zero).day≤y.days-1)∧(0≤(l.getD k Tsk.zero).unit∧(l.getD k Tsk.zero).unit≤(y.us.length:Int)-1)∧(1≤(l.getD k Tsk.zero).kind∧(l.getD k Tsk.zero).kind≤2))):tskB y l k=false:=by
  unfold tskB;rw [decide_eq_false h,Bool.false_and]
theorem Gp (hB:(0≤(l.getD k Tsk.zero).day∧(l.getD k Tsk.zero).day≤y.days-1)∧(0≤(l.getD k Tsk.zero).unit∧(l.getD k Tsk.zero).unit≤(y.us.length:Int)-1)∧(1≤(l.getD k Tsk.zero).kind∧(l.getD k Tsk.zero).kind≤2)∧0<k) (h:befB (l.getD ((k:Int)-1).toNat Tsk.zero) (l.getD k Tsk.zero)=false):tskB y l k=false:=by
  rw [show ((k:Int)-1).toNat=k-1 by omega] at h
  unfold tskB;rw [h,decide_eq_false (show ¬ k=0 by omega),Bool.or_self,Bool.and_false]
theorem rD (hB:(0≤(l.getD k Tsk.zero).day∧(l.getD k Tsk.zero).day≤y.days-1)∧(0≤(l.getD k Tsk.zero).unit∧(l.getD k Tsk.zero).unit≤(y.us.length:Int)-1)∧(1≤(l.getD k Tsk.zero).kind∧(l.getD k Tsk.zero).kind≤2)∧k=0):tskB y l k=true:=by
  unfold tskB;rw [decide_eq_true ⟨hB.1,hB.2.1,hB.2.2.1⟩,decide_eq_true hB.2.2.2];rfl
theorem rE (hB:(0≤(l.getD k Tsk.zero).day∧(l.getD k Tsk.zero).day≤y.days-1)∧(0≤(l.getD k Tsk.zero).unit∧(l.getD k Tsk.zero).unit≤(y.us.length:Int)-1)∧(1≤(l.getD k Tsk.zero).kind∧(l.getD k Tsk.zero).kind≤2)∧0<k) (h:befB (l.getD ((k:Int)-1).toNat Tsk.zero) (l.getD k Tsk.zero)=true):tskB y l k=true:=by
  rw [show ((k:Int)-1).toNat=k-1 by omega] at h
  unfold tskB;rw [decide_eq_true ⟨hB.1,hB.2.1,hB.2.2.1⟩,h,Bool.or_true];rfl
end
theorem Ci (a b:Tsk) (w:World) :
    Calls Tryd.prog 53 [.agg [.int .i64 a.day,.int .i64 a.unit,.int .i64 a.kind].toArray,.agg [.int .i64 b.day,.int .i64 b.unit,.int .i64 b.kind].toArray].toArray w (Ret (fun v w'=>v = .bool (befB a b)∧St w noF [] w')):=by
 refine enter Tryd.func53 rfl Tryd.ntmps53 rfl (fun a H=>?_)
 have S:=St.start w
 refine seq_list fun K1 k1=>?_
 refine aQ H rfl S G G ?_;clear H a S;intro b2 _ a hb2 hbw2 S H
 refine aQ H rfl S G G ?_;clear H a S;intro b3 _ a hb3 hbw3 S H
 refine ls 1 H<|sr 1 rfl<|sE ?_;clear H a;intro a H
 refine k1 _ _ ?_;clear k1 K1
 refine wp_seq_k fun K2 k2=>?_
 refine sS H fun K3 k3=>sf fH rfl<|sl S 1 aF G G G<|sf fH rfl<|sl S 0 aF G G G<|sr 1 rfl<|sE ?_;clear H a;intro a H
 refine k3 _ ?_;clear k3 K3
 refine condN H rfl (fun hc1=>?_) (fun hc1=>?_)
 ·skip
  replace H:=H.keep [2,3] rfl
  refine sS H fun K4 k4=>sf fH rfl<|sl S 1 aF G G G<|sf fH rfl<|sl S 0 aF G G G<|sr 2 rfl<|sE ?_;clear H a;intro a H
  refine k4 _ ?_;clear k4 K4
  refine wp_ret ?_
  refine ret1 (fn:=Tryd.f53) rfl H rfl ?_
  refine ⟨?_,(S.sel [] G G)⟩;unfold befB;rw [if_pos hc1]
 refine wp_skip ?_
 refine k2 _ _ ?_
 refine wp_seq_k fun K5 k5=>?_
 replace H:=H.keep [2,3] rfl
 refine sS H fun K6 k6=>sf gA rfl<|sl S 1 aF G G G<|sf gA rfl<|sl S 0 aF G G G<|sr 1 rfl<|sE ?_;clear H a;intro a H
 refine k6 _ ?_;clear k6 K6
 refine condN H rfl (fun hc2=>?_) (fun hc2=>?_)
 ·skip
  replace H:=H.keep [2,3] rfl
  refine sS H fun K7 k7=>sf gA rfl<|sl S 1 aF G G G<|sf gA rfl<|sl S 0 aF G G G<|sr 2 rfl<|sE ?_;clear H a;intro a H
  refine k7 _ ?_;clear k7 K7
  refine wp_ret ?_
  refine ret1 (fn:=Tryd.f53) rfl H rfl ?_
  refine ⟨?_,(S.sel [] G G)⟩;unfold befB;rw [if_neg (fun h=>h (by omega)),if_pos hc2]
 refine wp_skip ?_
 refine k5 _ _ ?_
 replace H:=H.keep [2,3] rfl
 refine sS H fun K8 k8=>sf jU rfl<|sl S 1 aF G G G<|sf jU rfl<|sl S 0 aF G G G<|sr 2 rfl<|sE ?_;clear H a;intro a H
 refine k8 _ ?_;clear k8 K8
 refine wp_ret ?_
 refine ret1 (fn:=Tryd.f53) rfl H rfl ?_
 refine ⟨?_,(S.sel [] G G)⟩;unfold befB;rw [if_neg (fun h=>h (by omega)),if_neg (fun h=>h (by omega))]
theorem Gq (y:Yr) (l:List Tsk) (LA:Option Addr) (lc:Nat) (w:World) (hy:YIn w noF y) (hyb:YBd y) (hl:InS w noF 3 LA l.length (eJ l)) (hln:l.length≤9223372036854775807) :
    Calls Tryd.prog 36 [.agg [.int .i64 y.days,.int .i64 y.pl,.slice y.PA y.ps.length y.pc,.slice y.XA y.xs.length y.xc,.slice y.BA y.pe.length y.bc,.int .i64 y.limit,.bool y.help,.slice y.QA y.prs.length y.qc,.slice y.VA y.us.length y.vc,.int .i64 y.crew,.slice y.SA y.sps.length y.sc].toArray,.slice LA l.length lc].toArray w (Ret (fun v w'=>v = .int .i64 (taskE y l)∧St w noF [] w')):=by
 have hn3:=hyb.usn
 refine enter Tryd.func36 rfl Tryd.ntmps36 rfl (fun a H=>?_)
 have S:=St.start w
 refine seq_list fun K1 k1=>?_
 refine aQ H rfl S G G ?_;clear H a S;intro b2 _ a hb2 hbw2 S H
 refine ls 1 H<|sr 1 rfl<|sE ?_;clear H a;intro a H
 refine k1 _ _ ?_;clear k1 K1
 refine wp_seq_k fun K2 k2=>?_
 refine seq_list fun K3 k3=>?_
 refine ls 1 H<|sd ((aC lX oG rfl S (i:=0) G G))<|sE ?_;clear H a;intro a H
 refine aA H G G Tryd.func52 G G (Ke y _ (hy.now S) hyb) ?_;clear H a
 rintro _ _ a ⟨rfl,S2⟩ H
 replace S:=S.call S2;clear S2
 refine ls 1 H<|sr 1 rfl<|sE ?_;clear H a;intro a H
 refine k3 _ _ ?_;clear k3 K3
 refine sS H fun K4 k4=>sr 2 rfl<|sE ?_;clear H a;intro a H
 refine k4 _ ?_;clear k4 K4
 refine condN H rfl (fun hc1=>?_) (fun hc1=>?_)
 ·skip
  refine sS H fun K5 k5=>sr 2 rfl<|sE ?_;clear H a;intro a H
  refine k5 _ ?_;clear k5 K5
  refine wp_ret ?_
  refine ret1 (fn:=Tryd.f36) rfl H rfl ?_
  exact ⟨congrArg _ (xM hc1).symm,(S.sel [] G G)⟩
 have hye:yearE y=0:=by omega
 have hyi:=(sW hye).yr
 unfold yrI at hyi
 refine wp_skip ?_
 refine k2 _ _ ?_
 refine wp_seq_k fun K6 k6=>?_
 replace H:=H.keep [1,2] rfl
 refine sS H fun K7 k7=>sr 1 rfl<|sL mU rfl<|sr 1 rfl<|sE ?_;clear H a;intro a H
 refine k7 _ ?_;clear k7 K7
 refine condL H rfl (fun hc2=>?_) (fun hc2=>?_)
 ·skip
  refine sS H fun K8 k8=>sr 1 rfl<|sE ?_;clear H a;intro a H
  refine k8 _ ?_;clear k8 K8
  refine wp_ret ?_
  refine ret1 (fn:=Tryd.f36) rfl H rfl ?_
  rw [xN hye (by omega)];exact ⟨rfl,(S.sel [] G G)⟩
 refine wp_skip ?_
 refine k6 _ _ ?_
 refine wp_seq_k fun K9 k9=>?_
 refine sS H fun K10 k10=>sr 1 rfl<|sL mU rfl<|sr 1 rfl<|sE ?_;clear H a;intro a H
 refine k10 _ ?_;clear k10 K10
 refine wp_block ?_
 refine loop_st (X:=Nat) (R0:=_) [1,2,16,17] H rfl (fun k=>[(18,.int .i64 (k:Int))]) (fun k=>[]) (fun g k=>k≤l.length∧g+k=l.length∧∀ q,q<k→tskB y l q=true) (l.length) 0 ?_ (S.sel [0] G G) (H.keep [18,1,2,16,17] rfl) ?_
 · exact ⟨by omega,by omega,fun q hq=>absurd hq (Nat.not_lt_zero q)⟩
 clear H S a
 intro g1 x1 a w1 hp S H K11 k11
 obtain ⟨k,rfl⟩:∃ y,y=x1:=⟨_,rfl⟩
 refine sS H fun K12 k12=>sr 1 rfl<|sE ?_;clear H a;intro a H
 refine k12 _ ?_;clear k12 K12
 refine wp_seq_k fun K13 k13=>?_
 refine condL H rfl (fun hc3=>?_) (fun hc3=>?_)
 ·skip
  refine wp_skip ?_
  refine k13 _ _ ?_
  refine wp_seq_k fun K14 k14=>?_
  refine wp_block ?_
  refine seq_list fun K15 k15=>?_
  refine ls 3 H<|sr 1 rfl<|si mU jA G G (hl.adr (by omega)) (by omega)<|sd ((aZ rS jA rfl S hl (by omega) (by omega)))<|sE ?_;clear H a;intro a H
  refine aI H rfl S uP ?_;clear H a S;intro b7 _ a hb7 hbw7 S H
  refine ls 1 H<|sr 1 rfl<|sE ?_;clear H a;intro a H
  refine aD H S (i:=0) G G G G jA G G ?_
  clear H a S;intro _ a S H
  refine k15 _ _ ?_;clear k15 K15
  rcases chk5 (0≤(l.getD k Tsk.zero).day∧(l.getD k Tsk.zero).day≤y.days-1) (0≤(l.getD k Tsk.zero).unit∧(l.getD k Tsk.zero).unit≤(y.us.length:Int)-1) (1≤(l.getD k Tsk.zero).kind∧(l.getD k Tsk.zero).kind≤2) k with hB|hB|hB|hB|hB
  ·skip
   skip
   replace H:=H.keep [1,2,6,7,16,17,18] rfl
   replace S:=S.drew
   refine seq_wq [(0,true),(1,true),(2,true),(3,true),(4,true),(5,false),(6,true),(7,true),(8,true),(9,true),(10,true),(11,true),(12,true),(13,true),(14,true),(15,true),(16,true),(17,true),(18,true),(19,true),(20,true),(21,true),(22,true),(23,true),(24,true),(25,true),(26,true),(27,true),(28,true),(29,true),(30,true),(31,true),(32,true),(33,true),(34,true),(35,true),(36,true)] (by kernel_rfl) (by kernel_rfl) (S.sel [0,1] G G) fun K16 k16=>?_
   refine qF H<|qd rfl (fun _ S=>(aB fH rfl))<|qd rfl (fun _ S=>aH aF rfl (boxM.rd S (i:=0) G G))<|qd rfl (fun _ S=>(aB fZ rfl))<|qd rfl (fun _ S=>aH aF rfl (boxM.rd S (i:=1) G G))<|qd rfl (fun _ S=>aT G G (by unfold i64ok;omega))<|qK ?_;clear H a;intro a H
   refine aS rfl ?_
   refine aA H G G Tryd.func37 G G (bJ _ _ _ _) ?_;clear H a
   rintro _ _ a ⟨rfl,rfl⟩ H
   refine wpList_nil (And.intro (S.sel [0,1] G G) ?_)
   refine qF H<|qd rfl (fun _ S=>jM rfl (by omega))<|qr 1 rfl<|qK ?_;clear H a;intro a H
   refine aJ H G G G G G ?_;clear H a;intro a H
   refine aJ H G G G G G ?_;clear H a;intro a H
   refine aJ H G G G G G ?_;clear H a;intro a H
   refine aJ H G G G G G ?_;clear H a;intro a H
   refine aJ H G G G G G ?_;clear H a;intro a H
   refine aJ H G G G G G ?_;clear H a;intro a H
   refine aJ H G G G G G ?_;clear H a;intro a H
   refine aJ H G G G G G ?_;clear H a;intro a H
   refine qF H<|qd rfl (fun _ S=>(aU G G G))<|qr 1 rfl<|qK ?_;clear H a;intro a H
   refine aJ H G G G G G ?_;clear H a;intro a H
   refine aJ H G G G G G ?_;clear H a;intro a H
   refine aJ H G G G G G ?_;clear H a;intro a H
   refine aJ H G G G G G ?_;clear H a;intro a H
   refine qF H<|qd rfl (fun _ S=>(aU G G G))<|qr 1 rfl<|qK ?_;clear H a;intro a H
   refine aJ H G G G G G ?_;clear H a;intro a H
   refine aJ H G G G G G ?_;clear H a;intro a H
   refine aJ H G G G G G ?_;clear H a;intro a H
   refine dS H G G G G ?_;clear H a;intro a H
   refine dS H G G G G ?_;clear H a;intro a H
   refine dS H G G G G ?_;clear H a;intro a H
   refine dS H G G G G ?_;clear H a;intro a H
   refine dS H G G G G ?_;clear H a;intro a H
   refine dS H G G G G ?_;clear H a;intro a H
   refine dS H G G G G ?_;clear H a;intro a H
   refine dS H G G G G ?_;clear H a;intro a H
   refine aJ H G G G G G ?_;clear H a;intro a H
   refine qF H<|qd rfl (fun _ S=>(aU G G G))<|qK ?_;clear H a;intro a H
   refine bK ?_
   refine k16 _ _ ?_
   clear k16 K16
   refine cond_ H rfl (fun hc4=>?_) (fun hc4=>?_)
   ·skip
    skip
    replace H:=H.keep [] rfl
    refine sS H fun K17 k17=>sr 1 rfl<|sE ?_;clear H a;intro a H
    refine k17 _ ?_;clear k17 K17
    refine wp_ret ?_
    refine ret1 (fn:=Tryd.f36) rfl H rfl ?_
    rw [jZ hye (by omega) (show k<l.length by omega) (pR (by omega))];exact ⟨rfl,(S.sel [] G G)⟩
   skip
   cases hc4
  ·skip
   skip
   replace H:=H.keep [1,2,6,7,16,17,18] rfl
   replace S:=S.drew
   refine seq_wq [(0,true),(1,true),(2,true),(3,true),(4,true),(5,false),(6,true),(7,true),(8,true),(9,true),(10,true),(11,true),(12,true),(13,true),(14,false),(15,true),(16,true),(17,true),(18,true),(19,true),(20,true),(21,true),(22,true),(23,true),(24,true),(25,true),(26,true),(27,true),(28,true),(29,true),(30,true),(31,true),(32,true),(33,true),(34,true),(35,true),(36,true)] (by kernel_rfl) (by kernel_rfl) (S.sel [0,1] G G) fun K18 k18=>?_
   refine qF H<|qd rfl (fun _ S=>(aB fH rfl))<|qd rfl (fun _ S=>aH aF rfl (boxM.rd S (i:=0) G G))<|qd rfl (fun _ S=>(aB fZ rfl))<|qd rfl (fun _ S=>aH aF rfl (boxM.rd S (i:=1) G G))<|qd rfl (fun _ S=>aT G G (by unfold i64ok;omega))<|qK ?_;clear H a;intro a H
   refine aS rfl ?_
   refine aA H G G Tryd.func37 G G (bJ _ _ _ _) ?_;clear H a
   rintro _ _ a ⟨rfl,rfl⟩ H
   refine wpList_nil (And.intro (S.sel [0,1] G G) ?_)
   refine qF H<|qd rfl (fun _ S=>dB rfl (by omega))<|qr 1 rfl<|qK ?_;clear H a;intro a H
   refine aG H G G G G (fun _ S=>(aB gA rfl)) ?_;clear H a;intro a H
   refine aG H G G G G (fun _ S=>aH aF rfl (boxM.rd S (i:=0) G G)) ?_;clear H a;intro a H
   refine aG H G G G G (fun _ S=>(aB gW rfl)) ?_;clear H a;intro a H
   refine aG H G G G G (fun _ S=>aH iZ rfl (boxM.rd S (i:=1) G G)) ?_;clear H a;intro a H
   refine aG H G G G G (fun _ S=>cD kF rfl) ?_;clear H a;intro a H
   refine aG H G G G G (fun _ S=>aT G G (by unfold i64ok;omega)) ?_;clear H a;intro a H
   refine aS rfl ?_
   refine aY H G G ?_
   refine aA H G G Tryd.func37 G G (bJ _ _ _ _) ?_;clear H a
   rintro _ _ a ⟨rfl,rfl⟩ H
   refine wpList_nil (And.intro (S.sel [0,1] G G) ?_)
   refine aG H G G G G (fun _ S=>jM rfl (by omega)) ?_;clear H a;intro a H
   refine qF H<|qd rfl (fun _ S=>(aW G G G))<|qr 1 rfl<|qK ?_;clear H a;intro a H
   refine aJ H G G G G G ?_;clear H a;intro a H
   refine aJ H G G G G G ?_;clear H a;intro a H
   refine aJ H G G G G G ?_;clear H a;intro a H
   refine aJ H G G G G G ?_;clear H a;intro a H
   refine qF H<|qd rfl (fun _ S=>(aU G G G))<|qr 1 rfl<|qK ?_;clear H a;intro a H
   refine aJ H G G G G G ?_;clear H a;intro a H
   refine aJ H G G G G G ?_;clear H a;intro a H
   refine aJ H G G G G G ?_;clear H a;intro a H
   refine dS H G G G G ?_;clear H a;intro a H
   refine dS H G G G G ?_;clear H a;intro a H
   refine dS H G G G G ?_;clear H a;intro a H
   refine dS H G G G G ?_;clear H a;intro a H
   refine dS H G G G G ?_;clear H a;intro a H
   refine dS H G G G G ?_;clear H a;intro a H
   refine dS H G G G G ?_;clear H a;intro a H
   refine dS H G G G G ?_;clear H a;intro a H
   refine aJ H G G G G G ?_;clear H a;intro a H
   refine qF H<|qd rfl (fun _ S=>(aU G G G))<|qK ?_;clear H a;intro a H
   refine bK ?_
   refine k18 _ _ ?_
   clear k18 K18
   refine cond_ H rfl (fun hc5=>?_) (fun hc5=>?_)
   ·skip
    skip
    replace H:=H.keep [] rfl
    refine sS H fun K19 k19=>sr 1 rfl<|sE ?_;clear H a;intro a H
    refine k19 _ ?_;clear k19 K19
    refine wp_ret ?_
    refine ret1 (fn:=Tryd.f36) rfl H rfl ?_
    rw [jZ hye (by omega) (show k<l.length by omega) (pR (by omega))];exact ⟨rfl,(S.sel [] G G)⟩
   skip
   cases hc5
  ·skip
   skip
   replace H:=H.keep [1,2,6,7,16,17,18] rfl
   replace S:=S.drew
   refine seq_wq [(0,true),(1,true),(2,true),(3,true),(4,true),(5,false),(6,true),(7,true),(8,true),(9,true),(10,true),(11,true),(12,true),(13,true),(14,false),(15,true),(16,true),(17,true),(18,true),(19,true),(20,false),(21,true),(22,true),(23,true),(24,true),(25,true),(26,true),(27,true),(28,true),(29,true),(30,true),(31,true),(32,true),(33,true),(34,true),(35,true),(36,true)] (by kernel_rfl) (by kernel_rfl) (S.sel [0,1] G G) fun K20 k20=>?_
   refine qF H<|qd rfl (fun _ S=>(aB fH rfl))<|qd rfl (fun _ S=>aH aF rfl (boxM.rd S (i:=0) G G))<|qd rfl (fun _ S=>(aB fZ rfl))<|qd rfl (fun _ S=>aH aF rfl (boxM.rd S (i:=1) G G))<|qd rfl (fun _ S=>aT G G (by unfold i64ok;omega))<|qK ?_;clear H a;intro a H
   refine aS rfl ?_
   refine aA H G G Tryd.func37 G G (bJ _ _ _ _) ?_;clear H a
   rintro _ _ a ⟨rfl,rfl⟩ H
   refine wpList_nil (And.intro (S.sel [0,1] G G) ?_)
   refine qF H<|qd rfl (fun _ S=>dB rfl (by omega))<|qr 1 rfl<|qK ?_;clear H a;intro a H
   refine aG H G G G G (fun _ S=>(aB gA rfl)) ?_;clear H a;intro a H
   refine aG H G G G G (fun _ S=>aH aF rfl (boxM.rd S (i:=0) G G)) ?_;clear H a;intro a H
   refine aG H G G G G (fun _ S=>(aB gW rfl)) ?_;clear H a;intro a H
   refine aG H G G G G (fun _ S=>aH iZ rfl (boxM.rd S (i:=1) G G)) ?_;clear H a;intro a H
   refine aG H G G G G (fun _ S=>cD kF rfl) ?_;clear H a;intro a H
   refine aG H G G G G (fun _ S=>aT G G (by unfold i64ok;omega)) ?_;clear H a;intro a H
   refine aS rfl ?_
   refine aY H G G ?_
   refine aA H G G Tryd.func37 G G (bJ _ _ _ _) ?_;clear H a
   rintro _ _ a ⟨rfl,rfl⟩ H
   refine wpList_nil (And.intro (S.sel [0,1] G G) ?_)
   refine aG H G G G G (fun _ S=>dB rfl (by omega)) ?_;clear H a;intro a H
   refine qF H<|qd rfl (fun _ S=>(aW G G G))<|qr 1 rfl<|qK ?_;clear H a;intro a H
   refine aG H G G G G (fun _ S=>(aB jU rfl)) ?_;clear H a;intro a H
   refine aG H G G G G (fun _ S=>aH aF rfl (boxM.rd S (i:=0) G G)) ?_;clear H a;intro a H
   refine aS rfl ?_
   refine aY H G G ?_
   refine aA H G G Tryd.func37 G G (bJ _ _ _ _) ?_;clear H a
   rintro _ _ a ⟨rfl,rfl⟩ H
   refine wpList_nil (And.intro (S.sel [0,1] G G) ?_)
   refine aG H G G G G (fun _ S=>jM rfl (by omega)) ?_;clear H a;intro a H
   refine qF H<|qd rfl (fun _ S=>(aW G G G))<|qr 1 rfl<|qK ?_;clear H a;intro a H
   refine aJ H G G G G G ?_;clear H a;intro a H
   refine aJ H G G G G G ?_;clear H a;intro a H
   refine aJ H G G G G G ?_;clear H a;intro a H
   refine dS H G G G G ?_;clear H a;intro a H
   refine dS H G G G G ?_;clear H a;intro a H
   refine dS H G G G G ?_;clear H a;intro a H
   refine dS H G G G G ?_;clear H a;intro a H
   refine dS H G G G G ?_;clear H a;intro a H
   refine dS H G G G G ?_;clear H a;intro a H
   refine dS H G G G G ?_;clear H a;intro a H
   refine dS H G G G G ?_;clear H a;intro a H
   refine aJ H G G G G G ?_;clear H a;intro a H
   refine qF H<|qd rfl (fun _ S=>(aU G G G))<|qK ?_;clear H a;intro a H
   refine bK ?_
   refine k20 _ _ ?_
   clear k20 K20
   refine cond_ H rfl (fun hc6=>?_) (fun hc6=>?_)
   ·skip
    skip
    replace H:=H.keep [] rfl
    refine sS H fun K21 k21=>sr 1 rfl<|sE ?_;clear H a;intro a H
    refine k21 _ ?_;clear k21 K21
    refine wp_ret ?_
    refine ret1 (fn:=Tryd.f36) rfl H rfl ?_
    rw [jZ hye (by omega) (show k<l.length by omega) (pR (by omega))];exact ⟨rfl,(S.sel [] G G)⟩
   skip
   cases hc6
  ·skip
   skip
   replace H:=H.keep [1,2,6,7,16,17,18] rfl
   replace S:=S.drew
   refine seq_wq [(0,true),(1,true),(2,true),(3,true),(4,true),(5,false),(6,true),(7,true),(8,true),(9,true),(10,true),(11,true),(12,true),(13,true),(14,false),(15,true),(16,true),(17,true),(18,true),(19,true),(20,false),(21,true),(22,true),(23,true),(24,true),(25,true),(26,true),(27,true),(28,true),(29,true),(30,true),(31,true),(32,true),(33,true),(34,true),(35,true),(36,true)] (by kernel_rfl) (by kernel_rfl) (S.sel [0,1] G G) fun K22 k22=>?_
   refine qF H<|qd rfl (fun _ S=>(aB fH rfl))<|qd rfl (fun _ S=>aH aF rfl (boxM.rd S (i:=0) G G))<|qd rfl (fun _ S=>(aB fZ rfl))<|qd rfl (fun _ S=>aH aF rfl (boxM.rd S (i:=1) G G))<|qd rfl (fun _ S=>aT G G (by unfold i64ok;omega))<|qK ?_;clear H a;intro a H
   refine aS rfl ?_
   refine aA H G G Tryd.func37 G G (bJ _ _ _ _) ?_;clear H a
   rintro _ _ a ⟨rfl,rfl⟩ H
   refine wpList_nil (And.intro (S.sel [0,1] G G) ?_)
   refine qF H<|qd rfl (fun _ S=>dB rfl (by omega))<|qr 1 rfl<|qK ?_;clear H a;intro a H
   refine aG H G G G G (fun _ S=>(aB gA rfl)) ?_;clear H a;intro a H
   refine aG H G G G G (fun _ S=>aH aF rfl (boxM.rd S (i:=0) G G)) ?_;clear H a;intro a H
   refine aG H G G G G (fun _ S=>(aB gW rfl)) ?_;clear H a;intro a H
   refine aG H G G G G (fun _ S=>aH iZ rfl (boxM.rd S (i:=1) G G)) ?_;clear H a;intro a H
   refine aG H G G G G (fun _ S=>cD kF rfl) ?_;clear H a;intro a H
   refine aG H G G G G (fun _ S=>aT G G (by unfold i64ok;omega)) ?_;clear H a;intro a H
   refine aS rfl ?_
   refine aY H G G ?_
   refine aA H G G Tryd.func37 G G (bJ _ _ _ _) ?_;clear H a
   rintro _ _ a ⟨rfl,rfl⟩ H
   refine wpList_nil (And.intro (S.sel [0,1] G G) ?_)
   refine aG H G G G G (fun _ S=>dB rfl (by omega)) ?_;clear H a;intro a H
   refine qF H<|qd rfl (fun _ S=>(aW G G G))<|qr 1 rfl<|qK ?_;clear H a;intro a H
   refine aG H G G G G (fun _ S=>(aB jU rfl)) ?_;clear H a;intro a H
   refine aG H G G G G (fun _ S=>aH aF rfl (boxM.rd S (i:=0) G G)) ?_;clear H a;intro a H
   refine aS rfl ?_
   refine aY H G G ?_
   refine aA H G G Tryd.func37 G G (bJ _ _ _ _) ?_;clear H a
   rintro _ _ a ⟨rfl,rfl⟩ H
   refine wpList_nil (And.intro (S.sel [0,1] G G) ?_)
   refine aG H G G G G (fun _ S=>dB rfl (by omega)) ?_;clear H a;intro a H
   refine qF H<|qd rfl (fun _ S=>(aW G G G))<|qr 1 rfl<|qK ?_;clear H a;intro a H
   refine aG H G G G G (fun _ S=>aM rfl) ?_;clear H a;intro a H
   refine aG H G G G G (fun _ S=>Ai G G (by omega)) ?_;clear H a;intro a H
   refine aG H G G G G (fun _ S=>aM rfl) ?_;clear H a;intro a H
   refine aJ H G G G G G ?_;clear H a;intro a H
   refine aJ H G G G G G ?_;clear H a;intro a H
   refine aJ H G G G G G ?_;clear H a;intro a H
   refine aJ H G G G G G ?_;clear H a;intro a H
   refine aJ H G G G G G ?_;clear H a;intro a H
   refine aJ H G G G G G ?_;clear H a;intro a H
   refine aJ H G G G G G ?_;clear H a;intro a H
   refine aJ H G G G G G ?_;clear H a;intro a H
   refine aG H G G G G (fun _ S=>(aU G G G)) ?_;clear H a;intro a H
   refine qF H<|qd rfl (fun _ S=>(aW G G G))<|qK ?_;clear H a;intro a H
   refine bK ?_
   refine k22 _ _ ?_
   clear k22 K22
   refine cond_ H rfl (fun hc7=>?_) (fun hc7=>?_)
   ·skip
    skip
    cases hc7
   skip
   refine wp_skip ?_
   refine k14 _ _ ?_
   replace H:=H.keep [1,2,16,17,18] rfl
   refine sO H<|sd (aK G G (by unfold i64ok;omega))<|sr 1 rfl<|sE ?_;clear H a;intro a H
   exact k11 (g1-1) (k+1) a _ (by omega) (by first|exact ⟨by omega,by omega,iB (f:=tskB y l) hp.2.2 (rD hB)⟩|exact ⟨by omega,by omega,iB (f:=tskB y l) hp.2.2 (rE hB hc8)⟩) (S.sel [1] G G) (H.keep [18,1,2,16,17] rfl)
  skip
  replace H:=H.keep [1,2,6,7,16,17,18] rfl
  replace S:=S.drew
  refine seq_wq [(0,true),(1,true),(2,true),(3,true),(4,true),(5,false),(6,true),(7,true),(8,true),(9,true),(10,true),(11,true),(12,true),(13,true),(14,false),(15,true),(16,true),(17,true),(18,true),(19,true),(20,false),(21,true),(22,true),(23,true),(24,true),(25,true),(26,true),(27,true),(28,true),(29,true),(30,true),(31,true),(32,true),(33,false),(34,true),(35,true),(36,true)] (by kernel_rfl) (by kernel_rfl) (S.sel [0,1] G G) fun K24 k24=>?_
  refine qF H<|qd rfl (fun _ S=>(aB fH rfl))<|qd rfl (fun _ S=>aH aF rfl (boxM.rd S (i:=0) G G))<|qd rfl (fun _ S=>(aB fZ rfl))<|qd rfl (fun _ S=>aH aF rfl (boxM.rd S (i:=1) G G))<|qd rfl (fun _ S=>aT G G (by unfold i64ok;omega))<|qK ?_;clear H a;intro a H
  refine aS rfl ?_
  refine aA H G G Tryd.func37 G G (bJ _ _ _ _) ?_;clear H a
  rintro _ _ a ⟨rfl,rfl⟩ H
  refine wpList_nil (And.intro (S.sel [0,1] G G) ?_)
  refine qF H<|qd rfl (fun _ S=>dB rfl (by omega))<|qr 1 rfl<|qK ?_;clear H a;intro a H
  refine aG H G G G G (fun _ S=>(aB gA rfl)) ?_;clear H a;intro a H
  refine aG H G G G G (fun _ S=>aH aF rfl (boxM.rd S (i:=0) G G)) ?_;clear H a;intro a H
  refine aG H G G G G (fun _ S=>(aB gW rfl)) ?_;clear H a;intro a H
  refine aG H G G G G (fun _ S=>aH iZ rfl (boxM.rd S (i:=1) G G)) ?_;clear H a;intro a H
  refine aG H G G G G (fun _ S=>cD kF rfl) ?_;clear H a;intro a H
  refine aG H G G G G (fun _ S=>aT G G (by unfold i64ok;omega)) ?_;clear H a;intro a H
  refine aS rfl ?_
  refine aY H G G ?_
  refine aA H G G Tryd.func37 G G (bJ _ _ _ _) ?_;clear H a
  rintro _ _ a ⟨rfl,rfl⟩ H
  refine wpList_nil (And.intro (S.sel [0,1] G G) ?_)
  refine aG H G G G G (fun _ S=>dB rfl (by omega)) ?_;clear H a;intro a H
  refine qF H<|qd rfl (fun _ S=>(aW G G G))<|qr 1 rfl<|qK ?_;clear H a;intro a H
  refine aG H G G G G (fun _ S=>(aB jU rfl)) ?_;clear H a;intro a H
  refine aG H G G G G (fun _ S=>aH aF rfl (boxM.rd S (i:=0) G G)) ?_;clear H a;intro a H
  refine aS rfl ?_
  refine aY H G G ?_
  refine aA H G G Tryd.func37 G G (bJ _ _ _ _) ?_;clear H a
  rintro _ _ a ⟨rfl,rfl⟩ H
  refine wpList_nil (And.intro (S.sel [0,1] G G) ?_)
  refine aG H G G G G (fun _ S=>dB rfl (by omega)) ?_;clear H a;intro a H
  refine qF H<|qd rfl (fun _ S=>(aW G G G))<|qr 1 rfl<|qK ?_;clear H a;intro a H
  refine aG H G G G G (fun _ S=>aM rfl) ?_;clear H a;intro a H
  refine aG H G G G G (fun _ S=>Ah G G (by omega)) ?_;clear H a;intro a H
  refine aG H G G G G (fun _ S=>aM rfl) ?_;clear H a;intro a H
  refine aG H G G G G (fun _ S=>aM rfl) ?_;clear H a;intro a H
  refine aG H G G G G (fun _ S=>aM rfl) ?_;clear H a;intro a H
  refine aG H G G G G (fun _ S=>aT G G (by unfold i64ok;omega)) ?_;clear H a;intro a H
  refine aG H G G G G (fun _ S=>bM mU jA G G (hl.adr (by omega)) (by omega) (by omega)) ?_;clear H a;intro a H
  refine aG H G G G G (fun _ S=>(aZ rS jA rfl S hl (by omega) (by omega))) ?_;clear H a;intro a H
  refine aG H G G G G (fun _ S=>(aC rS jA rfl S (i:=0) G G)) ?_;clear H a;intro a H
  refine aS rfl ?_
  refine aY H G G ?_
  refine aA H G G Tryd.func53 G G (Ci (l.getD ((k:Int)-1).toNat Tsk.zero) (l.getD k Tsk.zero) _) ?_;clear H a
  rintro _ _ a ⟨rfl,S2⟩ H
  replace S:=S.call S2;clear S2
  refine wpList_nil (And.intro (S.sel [0,1] G G) ?_)
  refine aG H G G G G (fun _ S=>cC rfl) ?_;clear H a;intro a H
  refine aG H G G G G (fun _ S=>(eR G G G)) ?_;clear H a;intro a H
  refine qF H<|qd rfl (fun _ S=>(aW G G G))<|qK ?_;clear H a;intro a H
  refine bK ?_
  refine k24 _ _ ?_
  clear k24 K24
  refine cond_ H rfl (fun hc8=>?_) (fun hc8=>?_)
  ·skip
   try simp only [o1,o2,o3,o4,o5,o6,o7,o8,o9,oa] at hc8
   replace hc8:befB (l.getD ((k:Int)-1).toNat Tsk.zero) (l.getD k Tsk.zero)=false:=by simpa using hc8
   replace H:=H.keep [] rfl
   refine sS H fun K25 k25=>sr 1 rfl<|sE ?_;clear H a;intro a H
   refine k25 _ ?_;clear k25 K25
   refine wp_ret ?_
   refine ret1 (fn:=Tryd.f36) rfl H rfl ?_
   rw [jZ hye (by omega) (show k<l.length by omega) (Gp hB hc8)];exact ⟨rfl,(S.sel [] G G)⟩
  try simp only [o1,o2,o3,o4,o5,o6,o7,o8,o9,oa] at hc8
  replace hc8:befB (l.getD ((k:Int)-1).toNat Tsk.zero) (l.getD k Tsk.zero)=true:=by simpa using hc8
  refine wp_skip ?_
  refine k14 _ _ ?_
  refine sO H<|sd (aK G G (by unfold i64ok;omega))<|sr 1 rfl<|sE ?_;clear H a;intro a H
  exact k11 (g1-1) (k+1) a _ (by omega) (by first|exact ⟨by omega,by omega,iB (f:=tskB y l) hp.2.2 (rD hB)⟩|exact ⟨by omega,by omega,iB (f:=tskB y l) hp.2.2 (rE hB hc8)⟩) (S.sel [1] G G) (H.keep [18,1,2,16,17] rfl)
 refine wp_exit ?_
 refine k9 _ _ ?_
 refine sS H fun K27 k27=>sr 1 rfl<|sE ?_;clear H a;intro a H
 refine k27 _ ?_;clear k27 K27
 refine wp_ret ?_
 refine ret1 (fn:=Tryd.f36) rfl H rfl ?_
 rw [vI hye (by omega) (bL.2 fun q hq=>hp.2.2 q (by omega))];exact ⟨rfl,(S.sel [] G G)⟩
end
section
theorem six {p:Nat→Prop} (h0:p 0) (h1:p 1) (h2:p 2) (h3:p 3) (h4:p 4) (h5:p 5):∀ j,j<6→p j:=by
  intro j hj
  match j,hj with
  | 0,_=>exact h0
  | 1,_=>exact h1
  | 2,_=>exact h2
  | 3,_=>exact h3
  | 4,_=>exact h4
  | 5,_=>exact h5
theorem pS {l:List Use} {x:Use} {vs:List Value} (h:∀ j,j<6→vs.getD j undef=x.cell j):∀ q j,q<l.length+1→j<6→capp l.length (ucell l) (fun k' j=>([vs].getD k' []).getD j undef) q j=ucell (l++[x]) q j:=by
  intro q j hq hj
  unfold capp ucell
  by_cases h1:q<l.length
  · rw [if_pos h1,List.getD_eq_getElem?_getD,List.getD_eq_getElem?_getD,List.getElem?_append_left h1]
  · rw [if_neg h1]
    have e:q=l.length:=by omega
    subst e
    rw [Nat.sub_self,List.getD_eq_getElem?_getD (l:=l++[x]),List.getElem?_append_right (Nat.le_refl _),Nat.sub_self]
    exact h j hj
theorem Kf {w:World} {p:Part} {l:List Use} {v:Value} {w':World} (h:v = .tuple #[.int .i64 (dY p l Prod.snd).1,.int .i64 (dY p l Prod.snd).2]∧St w noF [] w'):∃ n e:Int,v = .tuple #[.int .i64 n,.int .i64 e]∧bydB p l=(!decide (e=0)||decide (0≤n))∧St w noF [] w':=⟨_,_,h.1,rfl,h.2⟩
theorem Gr {w:World} {F:Nat→Prop} {sz n:Nat} {A:Option Addr} {cell:Nat→Nat→Value} (h:InS w F sz A n cell):A=none→n=0∧n=0:=fun e=>by
  rcases Nat.eq_zero_or_pos n with h0|h0
  · exact ⟨h0,h0⟩
  · obtain ⟨b,o,h1,_⟩:=h h0
    rw [e] at h1;cases h1
theorem Cj (u:Unt) (l:List Use) (LA:Option Addr) (lc:Nat) (age:Int) (w:World) (hur:InS w noF 2 u.RA u.rates.length (scell u.rates)) (hurn:u.rates.length≤9223372036854775807) (huu:InS w noF 6 u.UA u.uses.length (ucell u.uses)) (huun:u.uses.length≤9223372036854775807) (hl:InS w noF 6 LA l.length (ucell l)) (hln:l.length≤1000000) (hlc:l.length≤lc) :
    Calls Tryd.prog 63 [.agg [.int .i64 u.mach,.int .i64 u.every,.int .i64 u.seen,.slice u.RA u.rates.length u.rc,.int .i64 u.worn,.int .i64 u.turns,.int .i64 u.age,.slice u.UA u.uses.length u.uc,.int .i64 u.old,.int .i64 u.tn,.int .i64 u.cl,.int .i64 u.kind].toArray,.slice LA l.length lc,.int .i64 age].toArray w (Ret (fun v w'=>v = .bool (bydB u.part (l++[⟨age,u.tn,u.cl,false,0,0⟩]))∧St w noF [] w')):=by
 refine enter Tryd.func63 rfl Tryd.ntmps63 rfl (fun a H=>?_)
 have S:=St.start w
 refine seq_list fun K1 k1=>?_
 refine aQ H rfl S G G ?_;clear H a S;intro b3 _ a hb3 hbw3 S H
 refine ls 1 H<|sr 1 rfl<|sE ?_;clear H a;intro a H
 refine k1 _ _ ?_;clear k1 K1
 replace H:=H.keep [1,2,3] rfl
 refine seq_list fun K2 k2=>?_
 refine ls 6 H<|sr 1 rfl<|sf sB rfl<|sl S 0 aF G G G<|sf sC rfl<|sl S 0 aF G G G<|sd (aN Ee G G)<|sE ?_;clear H a;intro a H
 refine aI H rfl S iH ?_;clear H a S;intro b7 _ a hb7 hbw7 S H
 refine aD H S (i:=0) G G G G dD G G ?_
 clear H a S;intro _ a S H
 refine k2 _ _ ?_;clear k2 K2
 replace H:=H.keep [1,3,7] rfl
 replace S:=S.drew
 refine seq_wt 999999 (.q 0 (.q 1 (.q 2 (.q 3 (.q 4 (.q 5 (.q 6 (.q 7 (.q 8 (.e 9 (.e 10 (.e 11 (.q 12 (.q 13 (.q 14 (.q 15 (.q 16 .nil))))))))))))))))) (by kernel_rfl) (by kernel_rfl) (S.sel [0,1] G G) fun K3 k3=>?_
 refine aE H G G (fun _ S=>(aB sA rfl)) ?_;clear H a;intro a H
 refine aE H G G (fun _ S=>(aC fQ iR rfl S (i:=1) G G)) ?_;clear H a;intro a H
 refine aE H G G (fun _ S=>aM rfl) ?_;clear H a;intro a H
 refine aE H G G (fun _ S=>aM rfl) ?_;clear H a;intro a H
 refine aE H G G (fun _ S=>cD dM rfl) ?_;clear H a;intro a H
 refine aE H G G (fun _ S=>aM rfl) ?_;clear H a;intro a H
 refine aE H G G (fun _ S=>cD dM rfl) ?_;clear H a;intro a H
 refine aE H G G (fun _ S=>mX dM dD G G G hlc) ?_;clear H a;intro a H
 refine aE H G G (fun _ S=>(aC jR dD rfl S (i:=0) G G)) ?_;clear H a;intro a H
 refine aL rfl ?_
 refine aX H rfl S dM dD iH G G G G G G G G G ?_;clear H a S;intro A1 _ a hA1 S H
 refine wpList_nil (And.intro (Or.inr (S.sel [1,2] G G)) ?_)
 refine aL rfl ?_
 refine lR H rfl S dM dD iH Ea G G G G (n:=l.length) (cell:=ucell l) (cell':=_) (hl.now S) (Gr (hl.now S)) (by omega) (by omega) (ownM.inS S (i:=0) rfl) (fC (six G G G G G G)) (by omega) (by omega) ?_;clear H a S;intro A2 c2 _ a S H
 replace S:=S.recell (i:=0) rfl (cell':=ucell (l++[⟨age,u.tn,u.cl,false,0,0⟩])) (pS (x:=⟨age,u.tn,u.cl,false,0,0⟩) (six G G G G G G))
 refine wpList_nil (And.intro (Or.inr (S.sel [2,3] G G)) ?_)
 refine aL rfl ?_
 rw [show l.length+1=(l++[(⟨age,u.tn,u.cl,false,0,0⟩:Use)]).length by simp] at H S
 have hcl9:=gD (tI u.rates u.worn u.turns u.age u.RA u.rc (l++[⟨age,u.tn,u.cl,false,0,0⟩]) A2 c2 _ (hur.now S) hurn ((ownM.inS S (i:=0) rfl)) (by simp;omega)) (fun _ _ h=>Kf h)
 refine aA H G G Tryd.func72 G G hcl9 ?_;clear H a hcl9
 rintro _ _ a ⟨n9,e9,rfl,hb9,S2⟩ H
 replace S:=S.call S2;clear S2
 refine wpList_nil (And.intro (Or.inr (S.sel [2,3] G G)) ?_)
 refine aE H G G (fun _ S=>aM rfl) ?_;clear H a;intro a H
 refine aE H G G (fun _ S=>aO G G) ?_;clear H a;intro a H
 refine aE H G G (fun _ S=>aO G G) ?_;clear H a;intro a H
 refine aE H G G (fun _ S=>bF rfl) ?_;clear H a;intro a H
 refine aE H G G (fun _ S=>bF rfl) ?_;clear H a;intro a H
 refine bA ?_
 refine k3 _ _ ?_
 clear k3 K3
 replace H:=H.keep [8,9] rfl
 refine sS H fun K4 k4=>sr 3 rfl<|sg 2 2 33 35 false G G (fun hg3=>sy hg3<|sr 1 rfl<|sy hg3<|sr 1 rfl<|sz 2 G G G)<|so G G G<|sr 1 rfl<|sE ?_;clear H a;intro a H
 refine k4 _ ?_;clear k4 K4
 refine wp_ret ?_
 refine ret1 (fn:=Tryd.f63) rfl H rfl ?_
 exact ⟨congrArg Value.bool hb9.symm,(S.sel [] G G)⟩
theorem Kg (u:Unt) (J:Nat→Int) (dy:Nat) (w:World) (hur:InS w noF 2 u.RA u.rates.length (scell u.rates)) (hurn:u.rates.length≤9223372036854775807) (huu:InS w noF 6 u.UA u.uses.length (ucell u.uses)) (huun:u.uses.length≤9223372036854775807) (hucp:u.uses.length≤u.uc) (hui:untI u) (ho0:0≤u.old) (hJ:∀ d,0≤J d∧J d≤6) (hdy:dy≤20) :
    Calls Tryd.prog 54 [.agg [.int .i64 u.mach,.int .i64 u.every,.int .i64 u.seen,.slice u.RA u.rates.length u.rc,.int .i64 u.worn,.int .i64 u.turns,.int .i64 u.age,.slice u.UA u.uses.length u.uc,.int .i64 u.old,.int .i64 u.tn,.int .i64 u.cl,.int .i64 u.kind].toArray,.agg ((List.range 20).map fun k=>Value.int .i64 (J k)).toArray,.int .i64 (dy:Int)].toArray w (Ret (fun v w'=>v = .agg [.int .i64 (bsum (runB' u J) dy),.int .i64 (bsum (certB u J) dy)].toArray∧St w noF [] w')):=by
 have hmx:maxLen=9223372036854775807:=rfl
 unfold untI at hui
 refine enter Tryd.func54 rfl Tryd.ntmps54 rfl (fun a H=>?_)
 have S:=St.start w
 refine seq_list fun K1 k1=>?_
 refine aQ H rfl S G G ?_;clear H a S;intro b3 _ a hb3 hbw3 S H
 refine aQ H rfl S G G ?_;clear H a S;intro b4 _ a hb4 hbw4 S H
 refine aI H rfl S mV ?_;clear H a S;intro b6 _ a hb6 hbw6 S H
 refine k1 _ _ ?_;clear k1 K1
 replace S:=Ja S (i:=1) rfl (by omega)
 refine seq_list fun K2 k2=>?_
 refine aI H rfl S mV ?_;clear H a S;intro b7 _ a hb7 hbw7 S H
 refine k2 _ _ ?_;clear k2 K2
 replace H:=H.keep [2,3,4,6,7] rfl
 replace S:=S.drew
 refine sD H fun K3 k3=>sf lE rfl<|sl S 3 oF G G G<|sf yR rfl<|sl S 3 aF G G G<|sd (fL rfl (by unfold i64ok;omega))<|sf yQ rfl<|sl S 3 aF G G G<|sr 3 rfl<|sE ?_;clear H a;intro a H
 refine k3 _ ?_;clear k3 K3
 refine wp_seq_k fun K4 k4=>?_
 replace H:=H.keep [2,3,4,6,7,8,9,10] rfl
 refine sS H fun K5 k5=>sr 2 rfl<|sE ?_;clear H a;intro a H
 refine k5 _ ?_;clear k5 K5
 refine wp_block ?_
 replace S:=S.frz0
 refine loop_st (X:=Nat×LSt×Option Addr×Nat×(Nat→Prop)×World) (R0:=_) [3,4,6,7,21] H rfl (fun ⟨d,st,A9,c9,B9,wz⟩=>[(8,.slice A9 st.uses.length c9),(9,.int .i64 st.born),(10,.int .i64 st.seen),(22,.int .i64 (d:Int))]) (fun ⟨d,st,A9,c9,B9,wz⟩=>[boxM b7 94 [.int .i64 (bsum (runB' u J) d),.int .i64 (bsum (certB u J) d)],frzM B9 wz]) (fun g ⟨d,st,A9,c9,B9,wz⟩=>(d≤dy∧g+d=dy)∧(RdF w noF B9 wz 6 A9 st.uses.length (ucell st.uses)∧st.uses.length≤c9)∧st=lifeS u J d) (dy) (0,lifeS u J 0,u.UA,u.uc,noF,_) ?_ (S.sel [1,0,2,3,4] G G) (H.keep [8,9,10,22,3,4,6,7,21] rfl) ?_
 · exact ⟨⟨by omega,by omega⟩,⟨RdF.base huu,hucp⟩,rfl⟩
 clear H S a
 intro g1 x1 a w1 hp S H K6 k6
 obtain ⟨d,st,A9,c9,B9,wz⟩:=x1
 dsimp only at hp S H
 obtain ⟨⟨hdl,hgd⟩,⟨hrd,hcap⟩,hst9⟩:=hp
 subst hst9
 have hln:=Bi (u:=u) (J:=J) d
 have hbo:=xQ (u:=u) (J:=J) (by omega) d
 have hsn:=xR (u:=u) (J:=J) (by omega) d
 skip
 refine sS H fun K7 k7=>sr 1 rfl<|sE ?_;clear H a;intro a H
 refine k7 _ ?_;clear k7 K7
 refine wp_seq_k fun K8 k8=>?_
 refine condL H rfl (fun hc1=>?_) (fun hc1=>?_)
 ·skip
  refine wp_skip ?_
  refine k8 _ _ ?_
  refine wp_seq_k fun K9 k9=>?_
  refine wp_block ?_
  refine sS H fun K10 k10=>sr 2 rfl<|sE ?_;clear H a;intro a H
  refine k10 _ ?_;clear k10 K10
  have hJd:=hJ d
  replace H:=H.keep [3,4,6,7,8,9,10,11,21,22] rfl
  replace S:=S.drew
  refine sD H fun K11 k11=>sr 1 rfl<|sd (dP Tryd.underlying139 bE G G (by omega) (by omega))<|slm aF rfl (ownM.rd S (i:=3) (k:=d) (j:=0) rfl (by omega) (by omega))<|sd (fM G G (by omega) (by omega))<|sd (eL G G)<|sr 2 rfl<|sd (dP Tryd.underlying139 bE G G (by omega) (by omega))<|slm aF rfl (ownM.rd S (i:=3) (k:=d) (j:=0) rfl (by omega) (by omega))<|sd (fM G G (by omega) (by omega))<|sd (eL G G)<|sr 3 rfl<|sE ?_;clear H a;intro a H
  refine k11 _ ?_;clear k11 K11
  have SR:=(S.sel [0,1,2,3,4] G G)
  refine meet_sr (X:=Int) [3,4,6,7,8,9,11,13,21,22] H rfl (fun x=>[(10,.int .i64 x)]) (fun x=>[]) (fun x=>x=seenN (lifeS u J d) (J d) d) SR (fun K13 k13=>?_) ?_
  ·skip
   replace H:=H.keep [3,4,6,7,8,9,10,11,12,13,21,22] rfl
   refine sS H fun K14 k14=>sr 1 rfl<|sE ?_;clear H a;intro a H
   refine k14 _ ?_;clear k14 K14
   refine condE H rfl (fun hc2=>?_) (fun hc2=>?_)
   ·skip
    refine sO H<|sr 2 rfl<|sE ?_;clear H a;intro a H
    exact k13 _ a _ ((if_pos (show insp (J d)=true from decide_eq_true hc2)).symm) (S.sel [0,1,2,3,4] G G) (H.keep [10,3,4,6,7,8,9,11,13,21,22] rfl)
   refine wp_skip ?_
   exact k13 _ a _ ((if_neg (show ¬ insp (J d)=true from fun h=>hc2 (of_decide_eq_true h))).symm) (S.sel [0,1,2,3,4] G G) (H.keep [10,3,4,6,7,8,9,11,13,21,22] rfl)
  clear SR H S a
  intro xm a wm hp S H
  obtain ⟨x,rfl⟩:∃ y,y=xm:=⟨_,rfl⟩
  have hx9:=hp
  have hxb:=vL (s:=(lifeS u J d)) (j:=J d) (d:=d) hsn
  rw [←hx9] at hxb
  have SR:=(S.sel [1,2,3,4] G G)
  refine meet_sr (X:=Unit) [3,4,6,7,8,9,10,11,13,21,22] H rfl (fun u3=>[]) (fun u3=>[boxM b7 94 [.int .i64 (bsum (runB' u J) d),.int .i64 (bsum (certB u J) (d+1))]]) (fun u3=>True) SR (fun K17 k17=>?_) ?_
  ·skip
   refine sS H fun K18 k18=>sr 2 rfl<|sd (aT G G (by unfold i64ok;omega))<|sf rZ rfl<|sl S 4 aF G G G<|sr 1 rfl<|sE ?_;clear H a;intro a H
   refine k18 _ ?_;clear k18 K18
   refine condG H rfl (fun hc3=>?_) (fun hc3=>?_)
   ·skip
    replace H:=H.keep [3,4,6,7,8,9,10,11,13,21,22] rfl
    refine kR 6 (by kernel_rfl) (by kernel_rfl) ?_
    replace S:=S.drew
    refine sF H<|sf sK rfl<|sl S 0 aF G G G<|sr 1 rfl<|sd (cY G G (by omega) (by omega) (Fm (by omega)))<|sd (pJ G G (mF _ (by omega)) (by omega) (zN (Nat.le_refl d)))<|sf sK rfl<|sE ?_;clear H a;intro a H
    refine aD H S (i:=0) G G G G bE G G ?_
    clear H a S;intro _ a S H
    replace S:=boxM.same S (i:=0) rfl (cs':=[.int .i64 (bsum (runB' u J) d),.int .i64 (bsum (certB u J) (d+1))]) (by rw [←xO (f:=certB u J) (n:=d) ((vN u J d x hx9).symm.trans (decide_eq_true hc3))] <;> rfl)
    exact k17 () a _ (trivial) (S.sel [0,1,2,3,4] G G) (H.keep [3,4,6,7,8,9,10,11,13,21,22] rfl)
   refine wp_skip ?_
   replace S:=boxM.same S (i:=0) rfl (cs':=[.int .i64 (bsum (runB' u J) d),.int .i64 (bsum (certB u J) (d+1))]) (by rw [←xP (f:=certB u J) (n:=d) ((vN u J d x hx9).symm.trans (decide_eq_false (by omega)))] <;> rfl)
   exact k17 () a _ (trivial) (S.sel [0,1,2,3,4] G G) (H.keep [3,4,6,7,8,9,10,11,13,21,22] rfl)
  clear SR H S a
  intro xm a wm hp S H
  obtain ⟨u3,rfl⟩:∃ y,y=xm:=⟨_,rfl⟩
  skip
  have SR:=(S.sel [2,3,4] G G)
  refine meet_sr (X:=Option Addr×Nat×(Nat→Prop)×World) [3,4,6,7,9,10,11,13,21,22] H rfl (fun ⟨A8,c8,B8,wy⟩=>[(8,.slice A8 (usesN u J d).length c8)]) (fun ⟨A8,c8,B8,wy⟩=>[boxM b7 94 [.int .i64 (bsum (runB' u J) (d+1)),.int .i64 (bsum (certB u J) (d+1))],frzM B8 wy]) (fun ⟨A8,c8,B8,wy⟩=>RdF w noF B8 wy 6 A8 (usesN u J d).length (ucell (usesN u J d))∧(usesN u J d).length≤c8) SR (fun K21 k21=>?_) ?_
  ·skip
   replace H:=H.keep [3,4,6,7,8,9,10,11,13,21,22] rfl
   refine seq_list fun K22 k22=>?_
   refine ls 13 H<|sr 1 rfl<|sd (dP Tryd.underlying139 bE G G (by omega) (by omega))<|slm aF rfl (ownM.rd S (i:=3) (k:=d) (j:=0) rfl (by omega) (by omega))<|sr 2 rfl<|sg 6 4 55 61 true G G (fun hg5=>sy hg5<|sr 1 rfl<|sy hg5<|sr 1 rfl<|sy hg5<|sd (aT G G (by unfold i64ok;omega))<|sy hg5<|sf rZ rfl<|sy hg5<|sl S 4 aF G G G<|sy hg5<|sr 1 rfl<|sz 6 G G G)<|sa G G G<|sr 1 rfl<|sE ?_;clear H a;intro a H
   apply cJ (i:=12) (g:=63) (t:=70) (b:=true) 7 H S G G (by kernel_rfl) (by kernel_rfl) G G
   case h1=>
    intro hg13
    refine ls 5 H<|sy hg13<|sd ((aC rR mS rfl S (i:=4) G G))<|sy hg13<|sr 1 rfl<|sy hg13<|sr 1 rfl<|sy hg13<|sr 1 rfl<|sy hg13<|sd (aT G G (by unfold i64ok;omega))<|sE ?_;intro a H
    refine cV H G G (by assumption) ?_
    refine aA H G G Tryd.func63 G G (Cj u (lifeS u J d).uses A9 c9 ((d:Int)-(lifeS u J d).born) _ (hur.now S) hurn (huu.now S) huun (hrd.now S (i:=1) rfl) (by omega) hcap) ?_
    rintro _ _ a ⟨rfl,S2⟩ H
    replace S:=S.call S2;clear S2
    refine ls 1 H<|sy hg13<|sr 1 rfl<|sE ?_;intro a H
    exact wpList_nil ⟨H.strip 7 G G,(S.sel [0,1,2,3,4] G G)⟩
   clear H a S;intro a _ H S
   refine ls 1 H<|sa G G G<|sE ?_;clear H a;intro a H
   refine k22 _ _ ?_;clear k22 K22
   refine cond_ H rfl (fun hc4=>?_) (fun hc4=>?_)
   ·skip
    rw [zO u J d x hx9] at hc4
    replace H:=H.keep [3,4,6,7,8,9,10,11,13,21,22] rfl
    refine Cy 6 (by kernel_rfl) (by kernel_rfl) fun K23 k23=>?_
    replace S:=S.drew
    refine sF H<|sf yV rfl<|sl S 0 aF G G G<|sr 1 rfl<|sd (cY G G (by omega) (by omega) (Fm (by omega)))<|sd (pJ G G (mF _ (by omega)) (by omega) (zN (Nat.le_refl d)))<|sf yV rfl<|sE ?_;clear H a;intro a H
    refine aD H S (i:=0) G G G G bE G G ?_
    clear H a S;intro _ a S H
    refine k23 _ _ ?_;clear k23 K23
    replace H:=H.keep [3,4,6,7,8,9,10,11,13,21,22] rfl
    replace S:=S.drew
    refine one_wq [(0,true),(1,true),(2,true),(3,true),(4,true),(5,true),(6,true),(7,true),(8,true),(9,true),(10,true),(11,true),(12,true),(13,true),(14,false),(15,false),(16,true)] (by kernel_rfl) (by kernel_rfl) (S.sel [0,1,2,3,4] G G) ?_
    refine qF H<|qr 2 rfl<|qd rfl (fun _ S=>cD dM rfl)<|qr 1 rfl<|qd rfl (fun _ S=>cD dM rfl)<|qd rfl (fun _ S=>mX dM dD G G G hcap)<|qr 2 rfl<|qd rfl (fun _ S=>aT G G (by unfold i64ok;omega))<|qd rfl (fun _ S=>(aB sB rfl))<|qd rfl (fun _ S=>aH aF rfl (boxM.rd S (i:=4) G G))<|qd rfl (fun _ S=>(aB sC rfl))<|qd rfl (fun _ S=>aH aF rfl (boxM.rd S (i:=4) G G))<|qd rfl (fun _ S=>aN Ee G G)<|qK ?_;clear H a;intro a H
    refine aS rfl ?_
    refine aX H rfl S dM dD iH G G G G G G G G G ?_;clear H a S;intro A1 _ a hA1 S H
    refine wpList_nil (And.intro (S.sel [1,2,3,4,5] G G) ?_)
    refine aS rfl ?_
    refine lR H rfl S dM dD iH Ea G G G G (n:=(lifeS u J d).uses.length) (cell:=ucell (lifeS u J d).uses) (cell':=_) (hrd.now S (i:=2) rfl) (Gr (hrd.now S (i:=2) rfl)) (by omega) (by omega) (ownM.inS S (i:=0) rfl) (fC (six G G G G G G)) (by omega) (by omega) ?_;clear H a S;intro A3 c3 _ a S H
    replace S:=S.recell (i:=0) rfl (cell':=ucell ((lifeS u J d).uses++[useAt u d (lifeS u J d).born])) (pS (x:=useAt u d (lifeS u J d).born) (six G G G G G G))
    refine wpList_nil (And.intro (S.sel [2,3,4,5,6] G G) ?_)
    refine qF H<|qr 1 rfl<|qK ?_;clear H a;intro a H
    refine bK ?_
    replace S:=boxM.same S (i:=2) rfl (cs':=[.int .i64 (bsum (runB' u J) (d+1)),.int .i64 (bsum (certB u J) (d+1))]) (by rw [←xO (f:=runB' u J) (n:=d) hc4] <;> rfl)
    replace S:=(S.sel [0,1,2,3,4,5,6] G G)
    have hle3:=ownM.le S (i:=0) rfl
    obtain ⟨B2,S,hA2,_⟩:=St.freeze S (i:=2) rfl
    rw [show (lifeS u J d).uses.length+1=(usesN u J d).length by unfold usesN;rw [if_pos hc4];simp] at H
    exact k21 (A3,c3,B2,_) a _ (⟨by rw [zP hc4,List.length_append];exact hA2,by rw [zP hc4,List.length_append];exact hle3.1⟩) (S.sel [1,2,3,4,5] G G) (H.keep [8,3,4,6,7,9,10,11,13,21,22] rfl)
   rw [zO u J d x hx9] at hc4
   refine wp_skip ?_
   replace S:=boxM.same S (i:=0) rfl (cs':=[.int .i64 (bsum (runB' u J) (d+1)),.int .i64 (bsum (certB u J) (d+1))]) (by rw [←xP (f:=runB' u J) (n:=d) hc4] <;> rfl)
   rw [←sX hc4] at H
   exact k21 (A9,c9,B9,wz) a _ (⟨by rw [sX hc4];exact hrd,by rw [sX hc4];exact hcap⟩) (S.sel [0,1,2,3,4] G G) (H.keep [8,3,4,6,7,9,10,11,13,21,22] rfl)
  clear SR H S a
  intro xm a wm hp S H
  obtain ⟨A8,c8,B8,wy⟩:=xm
  rw [show Value.bool (decide (J d/2^(2:Int).toNat%2=1))=Value.bool (renw (J d)) from rfl] at H
  replace H:=H.keep [3,4,6,7,8,9,10,11,13,21,22] rfl
  refine sS H fun K25 k25=>sr 1 rfl<|sE ?_;clear H a;intro a H
  refine k25 _ ?_;clear k25 K25
  refine cond_ H rfl (fun hc5=>?_) (fun hc5=>?_)
  ·skip
   skip
   refine sO H<|sr 3 rfl<|sE ?_;clear H a;intro a H
   refine k9 _ _ ?_
   refine sO H<|sd (aK G G (by unfold i64ok;omega))<|sr 1 rfl<|sE ?_;clear H a;intro a H
   have hp8:=hp
   exact k6 (g1-1) (d+1,⟨[],(d:Int),x⟩,none,0,B8,wy) a _ (by omega) (⟨⟨by omega,by omega⟩,⟨RdF.nil,Nat.le_refl 0⟩,Mj hc5 hx9⟩) (S.sel [0,1,2,3,4] G G) (H.keep [8,9,10,22,3,4,6,7,21] rfl)
  skip
  refine wp_skip ?_
  refine k9 _ _ ?_
  refine sO H<|sd (aK G G (by unfold i64ok;omega))<|sr 1 rfl<|sE ?_;clear H a;intro a H
  have hp8:=hp
  exact k6 (g1-1) (d+1,⟨usesN u J d,(lifeS u J d).born,x⟩,A8,c8,B8,wy) a _ (by omega) (⟨⟨by omega,by omega⟩,hp8,Mk hc5 hx9⟩) (S.sel [0,1,2,3,4] G G) (H.keep [8,9,10,22,3,4,6,7,21] rfl)
 refine wp_exit ?_
 refine k4 _ _ ?_
 replace H:=H.keep [6,7] rfl
 refine seq_list fun K29 k29=>?_
 refine ls 1 H<|sd ((aC gZ eM rfl S (i:=0) G G))<|sE ?_;clear H a;intro a H
 refine aD H S (i:=2) G G G G eM G G ?_
 clear H a S;intro _ a S H
 refine k29 _ _ ?_;clear k29 K29
 refine wp_ret ?_
 refine retA (fn:=Tryd.f54) rfl H rfl gZ (by exact eM) (cM S (i:=2) rfl) ?_
 obtain rfl:d=dy:=by omega
 exact ⟨rfl,(S.sel [] G G)⟩
end
section
theorem keyOK:KeyOk Tryd.prog 141 (encN (n:=21)):=
  Iv (Fj Tryd.underlying141 oJ (.cons (by decide) rfl (PartK.int2 Tryd.underlying3 aF) (.cons (by decide) rfl (PartK.of (Fi Tryd.underlying139 Dj (PartK.int Tryd.underlying3 aF) bE)) (.nil 21))) (by kernel_rfl)) (by omega) (by rw [Tryd.underlying141])
theorem YIn.nowR {w w0:World} {F0:Nat→Prop} {R:List Mem} {y:Yr} (h:YIn w0 F0 y) (S:St w0 F0 R w):YIn w (fps R) y:=
  ⟨h.ps.nowR S,h.xs.nowR S,h.pe.nowR S,h.prs.nowR S,h.us.nowR S,h.sps.nowR S,fun k hk=>(h.rt k hk).nowR S,fun k hk=>(h.ul k hk).nowR S⟩
theorem YOk.days {y:Yr} (h:YOk y):1≤y.days∧y.days≤20:=h.yr.1
theorem YOk.unit {y:Yr} (h:YOk y) {i:Nat} (hi:i<y.us.length):UntOk y.ps y.us (y.us.getD i Unt.zero) i:=vJ.1 (h.un i hi)
theorem YOk.old {y:Yr} (h:YOk y) {i:Nat} (hi:i<y.us.length):0≤(y.us.getD i Unt.zero).old:=by
  have h1:=h.unit hi
  have h2:=vW h1.wear
  have h3:=h1.i
  unfold untI at h3
  omega
theorem Kh (y:Yr) (w:World) :
    Calls Tryd.prog 38 [.agg [.int .i64 y.days,.int .i64 y.pl,.slice y.PA y.ps.length y.pc,.slice y.XA y.xs.length y.xc,.slice y.BA y.pe.length y.bc,.int .i64 y.limit,.bool y.help,.slice y.QA y.prs.length y.qc,.slice y.VA y.us.length y.vc,.int .i64 y.crew,.slice y.SA y.sps.length y.sc].toArray].toArray w (Ret (fun v w'=>∃ cb bl bs bk,v = .pointer (some ⟨cb,0,none⟩)∧St w noF [boxM cb 138 [.int .i64 y.days,.int .i64 y.pl,.slice y.PA y.ps.length y.pc,.slice y.XA y.xs.length y.xc,.slice y.BA y.pe.length y.bc,.int .i64 y.limit,.bool y.help,.slice y.QA y.prs.length y.qc,.slice y.VA y.us.length y.vc,.int .i64 y.crew,.slice y.SA y.sps.length y.sc,.map (some bl),.map (some bs),.map (some bk)],mapK (encN (n:=21)) bl (livP y),mapK (fun n:Int=>Value.int .i64 n) bs (safP y),mapK enc2 bk (kepP y)] w')):=by
 refine enter Tryd.func38 rfl Tryd.ntmps38 rfl (fun a H=>?_)
 have S:=St.start w
 refine seq_list fun K1 k1=>?_
 refine aQ H rfl S G G ?_;clear H a S;intro b1 _ a hb1 hbw1 S H
 refine ls 1 H<|sr 1 rfl<|sE ?_;clear H a;intro a H
 refine k1 _ _ ?_;clear k1 K1
 refine seq_list fun K2 k2=>?_
 refine ls 1 H<|sd ((aC lX oG rfl S (i:=0) G G))<|sE ?_;clear H a;intro a H
 refine fJ (encN (n:=21)) (livP y) Bn H rfl S ?_;clear H a S;intro bl _ a hbl S H
 refine fJ (fun n:Int=>Value.int .i64 n) (safP y) Bo H rfl S ?_;clear H a S;intro bs _ a hbs S H
 refine fJ enc2 (kepP y) Bp H rfl S ?_;clear H a S;intro bk _ a hbk S H
 refine ls 1 H<|sd (aN Lq G G)<|sE ?_;clear H a;intro a H
 refine aQ H rfl S G G ?_;clear H a S;intro b8 _ a hb8 hbw8 S H
 refine ls 1 H<|sr 1 rfl<|sE ?_;clear H a;intro a H
 refine k2 _ _ ?_;clear k2 K2
 refine wp_ret ?_
 refine ret1 (fn:=Tryd.f38) rfl H rfl ?_
 exact ⟨b8,bl,bs,bk,rfl,(S.sel [0,3,2,1] G G)⟩
theorem Gs (y:Yr) (cb bl bs bk:Nat) (i:Nat) (l:List Tsk) (LA:Option Addr) (lc:Nat) (w:World) (F:Nat→Prop) (S:St w F [boxM cb 138 [.int .i64 y.days,.int .i64 y.pl,.slice y.PA y.ps.length y.pc,.slice y.XA y.xs.length y.xc,.slice y.BA y.pe.length y.bc,.int .i64 y.limit,.bool y.help,.slice y.QA y.prs.length y.qc,.slice y.VA y.us.length y.vc,.int .i64 y.crew,.slice y.SA y.sps.length y.sc,.map (some bl),.map (some bs),.map (some bk)],mapK (encN (n:=21)) bl (livP y),mapK (fun n:Int=>Value.int .i64 n) bs (safP y),mapK enc2 bk (kepP y)] w) (hy:YIn w F y) (hyb:YBd y) (hok:YOk y) (hi:i<y.us.length) (hl:InS w F 3 LA l.length (eJ l)) (hln:l.length≤9223372036854775807) (htk:∀ k,k<l.length→tskI y (l.getD k Tsk.zero)) :
    Calls Tryd.prog 39 [.pointer (some ⟨cb,0,none⟩),.int .i64 (i:Int),.slice LA l.length lc].toArray w (Ret (fun v w'=>v=lifeV (y.us.getD i Unt.zero) (jobF l i) y.days.toNat∧St w F [boxM cb 138 [.int .i64 y.days,.int .i64 y.pl,.slice y.PA y.ps.length y.pc,.slice y.XA y.xs.length y.xc,.slice y.BA y.pe.length y.bc,.int .i64 y.limit,.bool y.help,.slice y.QA y.prs.length y.qc,.slice y.VA y.us.length y.vc,.int .i64 y.crew,.slice y.SA y.sps.length y.sc,.map (some bl),.map (some bs),.map (some bk)],mapK (encN (n:=21)) bl (livP y),mapK (fun n:Int=>Value.int .i64 n) bs (safP y),mapK enc2 bk (kepP y)] w')):=by
 have hmx:maxLen=9223372036854775807:=rfl
 have hdy:=hok.days;have husn:=hyb.usn
 have hD:((y.days.toNat:Nat):Int)=y.days:=by omega
 refine enter Tryd.func39 rfl Tryd.ntmps39 rfl (fun a H=>?_)
 skip
 refine seq_list fun K1 k1=>?_
 refine aI H rfl S mV ?_;clear H a S;intro b6 _ a hb6 hbw6 S H
 refine k1 _ _ ?_;clear k1 K1
 refine seq_list fun K2 k2=>?_
 refine ls 2 H<|sr 1 rfl<|sd (aN Lr G G)<|sE ?_;clear H a;intro a H
 refine aI H rfl S Dz ?_;clear H a S;intro b7 _ a hb7 hbw7 S H
 refine aD H S (i:=0) G G G G oJ G G ?_
 clear H a S;intro _ a S H
 refine k2 _ _ ?_;clear k2 K2
 refine wp_seq_k fun K3 k3=>?_
 replace S:=boxM.same S (i:=0) rfl (cs':=[.int .i64 (i:Int),.int .i64 0,.int .i64 0,.int .i64 0,.int .i64 0,.int .i64 0,.int .i64 0,.int .i64 0,.int .i64 0,.int .i64 0,.int .i64 0,.int .i64 0,.int .i64 0,.int .i64 0,.int .i64 0,.int .i64 0,.int .i64 0,.int .i64 0,.int .i64 0,.int .i64 0,.int .i64 0]) rfl
 replace S:=Fo S (i:=0) rfl (by show 21≤maxLen;decide)
 replace S:=S.recell (i:=0) rfl (cell':=kcl i (jobP l 0 i)) (fun k j hk hj=>Ft hk hj)
 refine sS H fun K4 k4=>sr 1 rfl<|sL mU rfl<|sr 1 rfl<|sE ?_;clear H a;intro a H
 refine k4 _ ?_;clear k4 K4
 refine wp_block ?_
 refine loop_st (X:=Nat) (R0:=_) [0,1,6,7,14,15] H rfl (fun k=>[(16,.int .i64 (k:Int))]) (fun k=>[ownM 141 1 (some ⟨b7,0,none⟩) 21 21 (kcl i (jobP l k i))]) (fun g k=>k≤l.length∧g+k=l.length) (l.length) 0 ?_ (S.sel [0,1,2,3,4,5] G G) (H.keep [16,0,1,6,7,14,15] rfl) ?_
 · exact ⟨by omega,by omega⟩
 clear H S a
 intro g1 x1 a w1 hp S H K5 k5
 obtain ⟨k,rfl⟩:∃ y,y=x1:=⟨_,rfl⟩
 refine sS H fun K6 k6=>sr 1 rfl<|sE ?_;clear H a;intro a H
 refine k6 _ ?_;clear k6 K6
 refine wp_seq_k fun K7 k7=>?_
 refine condL H rfl (fun hc1=>?_) (fun hc1=>?_)
 ·skip
  refine wp_skip ?_
  refine k7 _ _ ?_
  refine wp_seq_k fun K8 k8=>?_
  refine wp_block ?_
  refine seq_list fun K9 k9=>?_
  refine ls 2 H<|si mU jA G G (hl.adr (by omega)) (by omega)<|sd ((aZ rS jA rfl S hl (by omega) (by omega)))<|sE ?_;clear H a;intro a H
  refine aI H rfl S uP ?_;clear H a S;intro b9 _ a hb9 hbw9 S H
  refine aD H S (i:=0) G G G G jA G G ?_
  clear H a S;intro _ a S H
  refine k9 _ _ ?_;clear k9 K9
  have htt:=htk k (by omega);unfold tskI at htt
  refine sS H fun K10 k10=>sf gA rfl<|sl S 0 aF G G G<|sr 2 rfl<|sE ?_;clear H a;intro a H
  refine k10 _ ?_;clear k10 K10
  refine condE H rfl (fun hc2=>?_) (fun hc2=>?_)
  ·skip
   replace H:=H.keep [0,1,6,7,9,14,15,16] rfl
   refine kR 11 (by kernel_rfl) (by kernel_rfl) ?_
   replace S:=S.drew
   refine sF H<|sf fH rfl<|sl S 0 aF G G G<|sf oN rfl<|sd ((dP Tryd.underlying139 bE G G (by omega) (by omega)).to (v' := .pointer (some (pt (some ⟨b7,0,none⟩) 1 ((l.getD k Tsk.zero).day.toNat+1) 0))) (congrArg (fun o=>Value.pointer (some ⟨b7,o,none⟩)) (show 0+1+(l.getD k Tsk.zero).day.toNat*1=0+((l.getD k Tsk.zero).day.toNat+1)*1+0 by omega)))<|slm aF rfl (ownM.rd S (i:=1) (k:=(l.getD k Tsk.zero).day.toNat+1) (j:=0) rfl (by omega) (by omega))<|sf jU rfl<|sl S 0 aF G G G<|sd (cY G G (by omega) (by omega) (Je htt.2.2))<|sd (Fp G G (Bk _ _ _) (by omega))<|sf oN rfl<|sd ((dP Tryd.underlying139 bE G G (by omega) (by omega)).to (v' := .pointer (some (pt (some ⟨b7,0,none⟩) 1 ((l.getD k Tsk.zero).day.toNat+1) 0))) (congrArg (fun o=>Value.pointer (some ⟨b7,o,none⟩)) (show 0+1+(l.getD k Tsk.zero).day.toNat*1=0+((l.getD k Tsk.zero).day.toNat+1)*1+0 by omega)))<|sE ?_;clear H a;intro a H
   refine bX H S (i:=1) G G G (by omega) (by omega) bE rfl ?_
   clear H a S;intro _ a S H
   refine k8 _ _ ?_
   replace H:=H.keep [0,1,6,7,14,15,16] rfl
   refine sO H<|sd (aK G G (by unfold i64ok;omega))<|sr 1 rfl<|sE ?_;clear H a;intro a H
   replace S:=S.recell (i:=1) rfl (cell':=kcl i (jobP l (k+1) i)) (fun k9 j9 hk9 hj9=>Jg (d:=(l.getD k Tsk.zero).day.toNat) (by omega) htt.2.2 (by omega) (by omega) k9 j9 hj9)
   exact k5 (g1-1) (k+1) a _ (by omega) (⟨by omega,by omega⟩) (S.sel [1,2,3,4,5,6] G G) (H.keep [16,0,1,6,7,14,15] rfl)
  refine wp_skip ?_
  refine k8 _ _ ?_
  refine sO H<|sd (aK G G (by unfold i64ok;omega))<|sr 1 rfl<|sE ?_;clear H a;intro a H
  rw [←Jf (l:=l) (n:=k) (i:=i) (by omega) htt.2.2 (by omega)] at S
  exact k5 (g1-1) (k+1) a _ (by omega) (⟨by omega,by omega⟩) (S.sel [1,2,3,4,5,6] G G) (H.keep [16,0,1,6,7,14,15] rfl)
 refine wp_exit ?_
 refine k3 _ _ ?_
 obtain rfl:k=l.length:=by omega
 rw [Fs] at S
 replace S:=Jd S (i:=0) rfl
 obtain ⟨h0,hh0,S⟩:=mapK.fix S (i:=3) rfl
 rcases hk0:h0 (keyOf i (jobF l i)) with _|v0
 ·skip
  skip
  replace H:=H.keep [0,1,6,7] rfl
  replace S:=S.drew
  refine seq_wq [(0,true),(1,true),(2,true),(3,true),(4,true),(5,true),(6,true),(7,true),(8,true),(9,false),(10,false),(11,true)] (by kernel_rfl) (by kernel_rfl) (S.sel [0,1,2,3,4,5] G G) fun K14 k14=>?_
  refine qF H<|qr 2 rfl<|qd rfl (fun _ S=>(aB oM rfl))<|qd rfl (fun _ S=>aH rU rfl (boxM.rd S (i:=2) G G))<|qd rfl (fun _ S=>(aC rV oJ rfl S (i:=0) G G))<|qd rfl (fun _ S=>jK S (i:=3) rfl wZ keyOK Kx rfl (k:=keyOf i (jobF l i)) rfl (fun h e=>by subst e;rw [hk0];exact ⟨rfl,rfl⟩))<|qr 3 rfl<|qK ?_;clear H a;intro a H
  refine aS rfl ?_
  refine aI H rfl S mV ?_;clear H a S;intro b10 _ a hb10 hbw10 S H
  refine wpList_nil (And.intro (S.sel [1,2,3,4,5,6] G G) ?_)
  refine aS rfl ?_
  refine aD H S (i:=0) G G G G eM G G ?_
  clear H a S;intro _ a S H
  refine wpList_nil (And.intro (S.sel [1,2,3,4,5,6] G G) ?_)
  refine qF H<|qr 1 rfl<|qK ?_;clear H a;intro a H
  refine bK ?_
  refine k14 _ _ ?_
  clear k14 K14
  refine wp_seq_k fun K15 k15=>?_
  replace H:=H.keep [0,1,6,7,10,11] rfl
  refine sS H fun K16 k16=>sr 2 rfl<|sE ?_;clear H a;intro a H
  refine k16 _ ?_;clear k16 K16
  refine cond_ H rfl (fun hc3=>?_) (fun hc3=>?_)
  ·skip
   skip
   replace H:=H.keep [0,1,6,7,10] rfl
   replace S:=S.drew
   refine seq_wq [(0,true),(1,true),(2,true),(3,true),(4,true),(5,true),(6,true),(7,true),(8,true),(9,true),(10,true),(11,true),(12,true),(13,true),(14,true),(15,false),(16,false)] (by kernel_rfl) (by kernel_rfl) (S.sel [1,2,3,4,5,6] G G) fun K17 k17=>?_
   refine qF H<|qr 2 rfl<|qd rfl (fun _ S=>(aB uI rfl))<|qd rfl (fun _ S=>(aB gW rfl))<|qd rfl (fun _ S=>aH iZ rfl (boxM.rd S (i:=2) G G))<|qr 1 rfl<|qd rfl (fun _ S=>dK kF mS G G (hy.us.adr (by omega)) (by omega))<|qd rfl (fun _ S=>(aZ rR mS rfl S hy.us (by omega) (by omega)))<|qd rfl (fun _ S=>(aB oN rfl))<|qd rfl (fun _ S=>(aC Hm Dj rfl S (i:=0) G G))<|qr 2 rfl<|qd rfl (fun _ S=>(aB uI rfl))<|qd rfl (fun _ S=>(aB fZ rfl))<|qd rfl (fun _ S=>aH aF rfl (boxM.rd S (i:=2) G G))<|qK ?_;clear H a;intro a H
   refine aS rfl ?_
   rw [←hD] at H
   refine aA H G G Tryd.func54 G G (Kg (y.us.getD i Unt.zero) (jobF l i) y.days.toNat _ ((hy.rt i hi).now S) (hyb.rtn hi) ((hy.ul i hi).now S) (hyb.uln hi) (hyb.cap i hi) (hok.unit hi).i (hok.old hi) (fun d=>Jc _ _ _) (by omega)) ?_;clear H a
   rintro _ _ a ⟨rfl,S2⟩ H
   replace S:=S.call S2;clear S2
   refine wpList_nil (And.intro (S.sel [1,2,3,4,5,6] G G) ?_)
   refine aS rfl ?_
   refine aD H S (i:=0) G G G G eM G G ?_
   clear H a S;intro _ a S H
   refine wpList_nil (And.intro (S.sel [1,2,3,4,5,6] G G) ?_)
   refine bK ?_
   refine k17 _ _ ?_
   clear k17 K17
   replace H:=H.keep [0,6,7,10] rfl
   refine kR 6 (by kernel_rfl) (by kernel_rfl) ?_
   replace S:=S.drew
   refine sF H<|sr 2 rfl<|sf oM rfl<|sl S 3 rU G G G<|sd ((aC rV oJ rfl S (i:=1) G G))<|sd ((aC gZ eM rfl S (i:=0) G G))<|sE ?_;clear H a;intro a H
   refine fS (k:=keyOf i (jobF l i)) (livP y) H S (i:=4) rfl wZ keyOK G G G (fun h e=>by subst e;exact Fu (by omega) rfl h hh0) ?_;clear H a S;intro _ a S H
   refine k15 _ _ ?_
   refine seq_list fun K19 k19=>?_
   refine ls 1 H<|sd ((aC gZ eM rfl S (i:=0) G G))<|sE ?_;clear H a;intro a H
   refine aD H S (i:=2) G G G G eM G G ?_
   clear H a S;intro _ a S H
   refine k19 _ _ ?_;clear k19 K19
   refine wp_ret ?_
   refine retA (fn:=Tryd.f39) rfl H rfl gZ (by exact eM) (cM S (i:=2) rfl) ?_
   exact ⟨rfl,(S.sel [3,4,5,6] G G)⟩
  skip
  cases hc3
 obtain rfl:=hh0 _ _ _ hi hk0
 replace H:=H.keep [0,1,6,7] rfl
 replace S:=S.drew
 refine seq_wq [(0,true),(1,true),(2,true),(3,true),(4,true),(5,true),(6,true),(7,true),(8,true),(9,false),(10,false),(11,true)] (by kernel_rfl) (by kernel_rfl) (S.sel [0,1,2,3,4,5] G G) fun K20 k20=>?_
 refine qF H<|qr 2 rfl<|qd rfl (fun _ S=>(aB oM rfl))<|qd rfl (fun _ S=>aH rU rfl (boxM.rd S (i:=2) G G))<|qd rfl (fun _ S=>(aC rV oJ rfl S (i:=0) G G))<|qd rfl (fun _ S=>jK S (i:=3) rfl wZ keyOK Kx rfl (k:=keyOf i (jobF l i)) rfl (fun h e=>by subst e;rw [hk0];exact ⟨rfl,rfl⟩))<|qr 3 rfl<|qK ?_;clear H a;intro a H
 refine aS rfl ?_
 refine aI H rfl S mV ?_;clear H a S;intro b10 _ a hb10 hbw10 S H
 refine wpList_nil (And.intro (S.sel [1,2,3,4,5,6] G G) ?_)
 refine aS rfl ?_
 refine aD H S (i:=0) G G G G eM G G ?_
 clear H a S;intro _ a S H
 refine wpList_nil (And.intro (S.sel [1,2,3,4,5,6] G G) ?_)
 refine qF H<|qr 1 rfl<|qK ?_;clear H a;intro a H
 refine bK ?_
 refine k20 _ _ ?_
 clear k20 K20
 refine wp_seq_k fun K21 k21=>?_
 replace H:=H.keep [0,1,6,7,10,11] rfl
 refine sS H fun K22 k22=>sr 2 rfl<|sE ?_;clear H a;intro a H
 refine k22 _ ?_;clear k22 K22
 refine cond_ H rfl (fun hc4=>?_) (fun hc4=>?_)
 ·skip
  skip
  cases hc4
 skip
 refine wp_skip ?_
 refine k21 _ _ ?_
 refine seq_list fun K23 k23=>?_
 refine ls 1 H<|sd ((aC gZ eM rfl S (i:=0) G G))<|sE ?_;clear H a;intro a H
 refine aD H S (i:=2) G G G G eM G G ?_
 clear H a S;intro _ a S H
 refine k23 _ _ ?_;clear k23 K23
 refine wp_ret ?_
 refine retA (fn:=Tryd.f39) rfl H rfl gZ (by exact eM) (cM S (i:=2) rfl) ?_
 replace S:=mapK.weak S (i:=4) rfl (Φ':=livP y) (fun g e=>by subst e;exact hh0)
 exact ⟨rfl,(S.sel [3,4,5,6] G G)⟩
end
section
section
variable {y:Yr} {l r:List Tsk} {a b c t:Tsk} {d D k n:Nat}
theorem Ki:befB a b=true↔a.day<b.day∨(a.day=b.day∧(a.unit<b.unit∨(a.unit=b.unit∧a.kind<b.kind))):=by
  unfold befB
  split
  · rw [decide_eq_true_eq];omega
  · split
    · rw [decide_eq_true_eq];omega
    · rw [decide_eq_true_eq];omega
def Srt (l:List Tsk):Prop:=l.Pairwise fun a b=>befB a b=true
def inR (y:Yr) (t:Tsk):Prop:=(0≤t.day∧t.day≤y.days-1)∧(0≤t.unit∧t.unit≤(y.us.length:Int)-1)∧(1≤t.kind∧t.kind≤2)
theorem getT {q:Nat} (hq:q<l.length):l.getD q Tsk.zero=l[q]:=by rw [List.getD_eq_getElem?_getD,List.getElem?_eq_getElem hq];rfl
theorem Nd (hy:yearE y=0) (hl:l.length≤60) (hs:Srt l) (hr:∀ t ∈ l,inR y t):taskE y l=0:=by
  refine vI hy (by omega) (bL.2 fun i hi=>?_)
  have h1:=hr l[i] (List.getElem_mem hi)
  unfold tskB
  rw [Bool.and_eq_true,getT hi]
  refine ⟨decide_eq_true h1,?_⟩
  rw [Bool.or_eq_true]
  by_cases h0:i=0
  · exact .inl (decide_eq_true h0)
  · refine .inr ?_
    rw [getT (show i-1<l.length by omega)]
    exact List.pairwise_iff_getElem.1 hs (i-1) i (by omega) hi (by omega)
end
end
section
section
variable {P T:Nat} {ps:List Psg} {xs:List Int} {day:List Hq} {h:Nat}
end
section
variable {P:Nat} {ps:List Psg} {xs:List Int} {out:Int} {f:Nat→Bool}
end
end
section
section
variable {y:Yr} {l:List Tsk} {d k n:Nat}
end
end
section
section
variable {y:Yr} {l r:List Tsk} {d D k n J:Nat} {t:Tsk}
end
end
section
def nmB (l:List Int) (x:Int):Bool:=l.any fun a=>decide (a=x)
theorem Ne {l:List Int} {x:Int} {k:Nat} (hk:k<l.length) (h:l.getD k 0=x):nmB l x=true:=by
  rw [List.getD_eq_getElem?_getD,List.getElem?_eq_getElem hk,Option.getD_some] at h
  exact List.any_eq_true.2 ⟨_,List.getElem_mem hk,decide_eq_true h⟩
theorem Pm {l:List Int} {x:Int} (h:∀ q,q<l.length→¬ l.getD q 0=x):nmB l x=false:=by
  unfold nmB
  rw [List.any_eq_false]
  intro a ha h2
  obtain ⟨q,hq,rfl⟩:=List.getElem_of_mem ha
  have h3:=h q hq
  rw [List.getD_eq_getElem?_getD,List.getElem?_eq_getElem hq,Option.getD_some] at h3
  exact h3 (of_decide_eq_true h2)
section
variable {y:Yr} {l:List Tsk} {d i k n:Nat} {t:Tsk} {out:Int} {mu:List Nat}
end
end
section
theorem Gt (y:Yr) (l:List Tsk) (LA:Option Addr) (lc:Nat) (u:Int) (w:World) (hy:YIn w noF y) (hyb:YBd y) (hl:InS w noF 3 LA l.length (eJ l)) (hln:l.length≤9223372036854775807) :
    Calls Tryd.prog 25 [.agg [.int .i64 y.days,.int .i64 y.pl,.slice y.PA y.ps.length y.pc,.slice y.XA y.xs.length y.xc,.slice y.BA y.pe.length y.bc,.int .i64 y.limit,.bool y.help,.slice y.QA y.prs.length y.qc,.slice y.VA y.us.length y.vc,.int .i64 y.crew,.slice y.SA y.sps.length y.sc].toArray,.slice LA l.length lc,.int .i64 u].toArray w (Ret (fun v w'=>∃ a9 b9:Int,v = .tuple #[.agg [.int .i64 a9,.int .i64 b9].toArray,.int .i64 (askdE y l u)]∧(askdE y l u=0→a9=bsum (runB' (y.us.getD u.toNat Unt.zero) (jobF l u.toNat)) y.days.toNat∧b9=bsum (certB (y.us.getD u.toNat Unt.zero) (jobF l u.toNat)) y.days.toNat)∧St w noF [] w')):=by
 have hn3:=hyb.usn
 refine enter Tryd.func25 rfl Tryd.ntmps25 rfl (fun a H=>?_)
 have S:=St.start w
 refine seq_list fun K1 k1=>?_
 refine aQ H rfl S G G ?_;clear H a S;intro b3 _ a hb3 hbw3 S H
 refine aI H rfl S mV ?_;clear H a S;intro b6 _ a hb6 hbw6 S H
 refine ls 1 H<|sr 1 rfl<|sE ?_;clear H a;intro a H
 refine k1 _ _ ?_;clear k1 K1
 refine wp_seq_k fun K2 k2=>?_
 refine seq_list fun K3 k3=>?_
 refine ls 2 H<|sd ((aC lX oG rfl S (i:=1) G G))<|sr 1 rfl<|sE ?_;clear H a;intro a H
 refine aA H G G Tryd.func36 G G (Gq y l LA lc _ (hy.now S) hyb (hl.now S) hln) ?_;clear H a
 rintro _ _ a ⟨rfl,S2⟩ H
 replace S:=S.call S2;clear S2
 refine ls 1 H<|sr 1 rfl<|sE ?_;clear H a;intro a H
 refine k3 _ _ ?_;clear k3 K3
 refine sS H fun K4 k4=>sr 2 rfl<|sE ?_;clear H a;intro a H
 refine k4 _ ?_;clear k4 K4
 refine condN H rfl (fun hc1=>?_) (fun hc1=>?_)
 ·skip
  replace H:=H.keep [6,8] rfl
  refine seq_list fun K5 k5=>?_
  refine ls 2 H<|sd (aN Kw G G)<|sr 1 rfl<|sE ?_;clear H a;intro a H
  refine aD H S (i:=0) G G G G eM G G ?_
  clear H a S;intro _ a S H
  refine ls 1 H<|sr 1 rfl<|sE ?_;clear H a;intro a H
  refine k5 _ _ ?_;clear k5 K5
  refine wp_ret ?_
  refine retA1 (fn:=Tryd.f25) rfl H rfl gZ (by exact eM) (cM S (i:=0) rfl) rfl ?_
  refine ⟨0,0,by rw [qW (by omega)];rfl,fun h=>absurd h (by rw [qW (by omega)];omega),(S.sel [] G G)⟩
 have hte:taskE y l=0:=by omega
 have htk0:=zL hte
 have hok:=sW htk0.1
 have htk:∀ k,k<l.length→tskI y (l.getD k Tsk.zero):=fun k hk=>Mi (htk0.2.2 k hk)
 refine wp_skip ?_
 refine k2 _ _ ?_
 refine wp_seq_k fun K6 k6=>?_
 replace H:=H.keep [1,2,3,6] rfl
 refine sS H fun K7 k7=>sr 1 rfl<|sf gW rfl<|sl S 1 iZ G G G<|sL kF rfl<|sd (aT G G (by unfold i64ok;omega))<|sc rfl Tryd.func37 G G (bJ _ _ _ _)<|sr 1 rfl<|sE ?_;clear H a;intro a H
 refine k7 _ ?_;clear k7 K7
 refine cond_ H rfl (fun hc2=>?_) (fun hc2=>?_)
 ·skip
  try simp only [o1,o2,o3,o4,o5,o6,o7,o8,o9,oa] at hc2
  replace H:=H.keep [6] rfl
  refine seq_list fun K8 k8=>?_
  refine ls 1 H<|sd (aN Kw G G)<|sE ?_;clear H a;intro a H
  refine aD H S (i:=0) G G G G eM G G ?_
  clear H a S;intro _ a S H
  refine ls 1 H<|sr 1 rfl<|sE ?_;clear H a;intro a H
  refine k8 _ _ ?_;clear k8 K8
  refine wp_ret ?_
  refine retA1 (fn:=Tryd.f25) rfl H rfl gZ (by exact eM) (cM S (i:=0) rfl) rfl ?_
  refine ⟨0,0,by rw [vQ hte (by omega)];rfl,fun h=>absurd h (by rw [vQ hte (by omega)];decide),(S.sel [] G G)⟩
 try simp only [o1,o2,o3,o4,o5,o6,o7,o8,o9,oa] at hc2
 have hu:0≤u∧u≤(y.us.length:Int)-1:=by first|exact hc2|omega
 rw [show u=((u.toNat:Nat):Int) by omega] at H
 refine wp_skip ?_
 refine k6 _ _ ?_
 replace H:=H.keep [1,2,3,6] rfl
 refine seq_list fun K9 k9=>?_
 refine ls 1 H<|sd ((aC lX oG rfl S (i:=1) G G))<|sE ?_;clear H a;intro a H
 refine aA H G G Tryd.func38 G G (Kh y _) ?_;clear H a
 rintro _ _ a ⟨cb,bl,bs,bk,rfl,S2⟩ H
 replace S:=S.call S2;clear S2
 refine ls 2 H<|sr 2 rfl<|sE ?_;clear H a;intro a H
 refine aA H G G Tryd.func39 G G (Gs y cb bl bs bk u.toNat l LA lc _ _ ((S.sel [0,1,2,3] G G).startR) (hy.nowR (S.sel [0,1,2,3] G G)) hyb hok (by omega) (hl.nowR (S.sel [0,1,2,3] G G)) hln htk) ?_;clear H a
 rintro _ _ a ⟨rfl,S2⟩ H
 replace S:=St.callR (M:=[_,_,_,_]) (S.sel [0,1,2,3,4,5] G G) S2;clear S2
 refine aD H S (i:=4) G G G G eM G G ?_
 clear H a S;intro _ a S H
 refine ls 1 H<|sr 1 rfl<|sE ?_;clear H a;intro a H
 refine k9 _ _ ?_;clear k9 K9
 refine wp_ret ?_
 refine retA1 (fn:=Tryd.f25) rfl H rfl gZ (by exact eM) (cM S (i:=4) rfl) rfl ?_
 refine ⟨_,_,by rw [sY hte hu];rfl,fun h=>⟨rfl,rfl⟩,(S.sel [] G G)⟩
theorem Gu (y:Yr) (l:List Tsk) (LA:Option Addr) (lc:Nat) (u:Int) (w:World) (hy:YIn w noF y) (hyb:YBd y) (hl:InS w noF 3 LA l.length (eJ l)) (hln:l.length≤9223372036854775807) :
    Calls Tryd.prog 11 [.agg [.int .i64 y.days,.int .i64 y.pl,.slice y.PA y.ps.length y.pc,.slice y.XA y.xs.length y.xc,.slice y.BA y.pe.length y.bc,.int .i64 y.limit,.bool y.help,.slice y.QA y.prs.length y.qc,.slice y.VA y.us.length y.vc,.int .i64 y.crew,.slice y.SA y.sps.length y.sc].toArray,.slice LA l.length lc,.int .i64 u].toArray w (Ret (fun v w'=>∃ A c,v = .tuple #[.slice A (termL y l u).length c,.int .i64 (askdE y l u)]∧St w noF [ownM 45 2 A (termL y l u).length c (scell (termL y l u))] w')):=by
 refine enter Tryd.func11 rfl Tryd.ntmps11 rfl (fun a H=>?_)
 have S:=St.start w
 refine seq_list fun K1 k1=>?_
 refine aQ H rfl S G G ?_;clear H a S;intro b3 _ a hb3 hbw3 S H
 refine ls 2 H<|sr 2 rfl<|sE ?_;clear H a;intro a H
 refine k1 _ _ ?_;clear k1 K1
 replace H:=H.keep [1,2,3] rfl
 refine seq_list fun K2 k2=>?_
 refine ls 3 H<|sd ((aC lX oG rfl S (i:=0) G G))<|sr 2 rfl<|sE ?_;clear H a;intro a H
 refine aA H G G Tryd.func25 G G (Gt y l LA lc u _ (hy.now S) hyb (hl.now S) hln) ?_;clear H a
 rintro _ _ a ⟨a9,b9,rfl,hab,S2⟩ H
 replace S:=S.call S2;clear S2
 refine ls 3 H<|sr 3 rfl<|sE ?_;clear H a;intro a H
 refine aI H rfl S mV ?_;clear H a S;intro b8 _ a hb8 hbw8 S H
 refine aD H S (i:=0) G G G G eM G G ?_
 clear H a S;intro _ a S H
 refine ls 1 H<|sr 1 rfl<|sE ?_;clear H a;intro a H
 refine k2 _ _ ?_;clear k2 K2
 refine wp_seq_k fun K3 k3=>?_
 replace H:=H.keep [3,8,9] rfl
 refine sS H fun K4 k4=>sr 2 rfl<|sE ?_;clear H a;intro a H
 refine k4 _ ?_;clear k4 K4
 refine condN H rfl (fun hc1=>?_) (fun hc1=>?_)
 ·skip
  refine sS H fun K5 k5=>sr 3 rfl<|sE ?_;clear H a;intro a H
  refine k5 _ ?_;clear k5 K5
  refine wp_ret ?_
  refine ret2 (fn:=Tryd.f11) rfl H G G ?_
  have he:termL y l u=[]:=by unfold termL;rw [if_pos hc1]
  rw [he]
  exact ⟨none,0,rfl,(S.sel [] G G).newNil _ _ _⟩
 have hz:askdE y l u=0:=by omega
 obtain ⟨ha9,hb9⟩:=hab hz
 subst ha9;subst hb9
 have hok:=sW (zL (Bq hz).1).1
 have hdy:=hok.days
 have hD:((y.days.toNat:Nat):Int)=y.days:=by omega
 refine wp_skip ?_
 refine k3 _ _ ?_
 refine sS H fun K6 k6=>sr 1 rfl<|sE ?_;clear H a;intro a H
 refine k6 _ ?_;clear k6 K6
 refine wp_seq_k fun K7 k7=>?_
 refine sS H fun K8 k8=>sf fZ rfl<|sl S 1 aF G G G<|sr 1 rfl<|sE ?_;clear H a;intro a H
 refine k8 _ ?_;clear k8 K8
 refine wp_block ?_
 replace S:=S.newNil 45 2 (scell [])
 refine loop_st (X:=Nat×List (Int×Int)×Option Addr×Nat) (R0:=_) [8,24] H rfl (fun ⟨d,s9,A9,c9⟩=>[(10,.slice A9 s9.length c9),(25,.int .i64 (d:Int))]) (fun ⟨d,s9,A9,c9⟩=>[ownM 45 2 A9 s9.length c9 (scell s9)]) (fun g ⟨d,s9,A9,c9⟩=>d≤y.days.toNat∧g+d=y.days.toNat∧s9=spanN (certY y l u.toNat) d) (y.days.toNat) (0,[],none,0) ?_ (S.sel [0,1,2] G G) (H.keep [10,25,8,24] rfl) ?_
 · exact ⟨by omega,by omega,rfl⟩
 clear H S a
 intro g1 x1 a w1 hp S H K9 k9
 obtain ⟨d,s9,A9,c9⟩:=x1
 dsimp only at hp S H
 obtain ⟨hdl,hgd,hW⟩:=hp
 have hwn:s9.length≤d:=by rw [hW];exact Bs d
 refine sS H fun K10 k10=>sr 1 rfl<|sE ?_;clear H a;intro a H
 refine k10 _ ?_;clear k10 K10
 refine wp_seq_k fun K11 k11=>?_
 refine condL H rfl (fun hc2=>?_) (fun hc2=>?_)
 ·skip
  refine wp_skip ?_
  refine k11 _ _ ?_
  refine wp_seq_k fun K12 k12=>?_
  refine wp_block ?_
  refine sS H fun K13 k13=>sr 2 rfl<|sE ?_;clear H a;intro a H
  refine k13 _ ?_;clear k13 K13
  refine wp_seq_k fun K14 k14=>?_
  refine sS H fun K15 k15=>sf sK rfl<|sl S 1 aF G G G<|sr 1 rfl<|sd (fM G G (by omega) (by omega))<|sd (eL G G)<|sr 1 rfl<|sE ?_;clear H a;intro a H
  refine k15 _ ?_;clear k15 K15
  refine condE H rfl (fun hc3=>?_) (fun hc3=>?_)
  ·skip
   refine wp_exit ?_
   refine k12 _ _ ?_
   replace H:=H.keep [8,10,24,25] rfl
   refine sO H<|sd (aK G G (by unfold i64ok;omega))<|sr 1 rfl<|sE ?_;clear H a;intro a H
   exact k9 (g1-1) (d+1,_,_,_) a _ (by omega) (⟨by omega,by omega,by rw [hW];exact Ml (Mp (show d<y.days.toNat by omega) hc3)⟩) (S.sel [0,1,2] G G) (H.keep [10,25,8,24] rfl)
  refine wp_skip ?_
  refine k14 _ _ ?_
  refine sS H fun K17 k17=>sr 1 rfl<|sL cR rfl<|sr 1 rfl<|sE ?_;clear H a;intro a H
  refine k17 _ ?_;clear k17 K17
  replace H:=H.keep [8,10,11,12,24,25] rfl
  refine sS H fun K18 k18=>sr 3 rfl<|sg 9 2 38 47 true G G (fun hg3=>by
      have hq3:=hg3;try simp only [o1,o2,o3,o4,o5,o6,o7,o8,o9,oa] at hq3
      exact sy hg3<|sr 1 rfl<|sy hg3<|sr 1 rfl<|sy hg3<|sd (aT G G (by unfold i64ok;omega))<|sy hg3<|sI cR aP G G (ownM.adr S (i:=0) rfl (by omega)) (by omega) (by omega)<|sy hg3<|sp bH rfl<|sy hg3<|slm aF rfl (ownM.rd S (i:=0) (k:=((s9.length:Int)-1).toNat) (j:=1) rfl (by omega) (by omega))<|sy hg3<|sr 1 rfl<|sy hg3<|sd (aT G G (by unfold i64ok;omega))<|sy hg3<|sr 1 rfl<|sz 9 G G G)<|sa G G G<|sE ?_;clear H a;intro a H
  refine k18 _ ?_;clear k18 K18
  refine cond_ H rfl (fun hc4=>?_) (fun hc4=>?_)
  ·skip
   try simp only [o1,o2,o3,o4,o5,o6,o7,o8,o9,oa] at hc4
   replace H:=H.keep [8,10,11,12,24,25] rfl
   refine one_list ?_
   refine ls 6 H<|sr 2 rfl<|sd (aT G G (by unfold i64ok;omega))<|sr 1 rfl<|sI cR aP G G (ownM.adr S (i:=0) rfl (by omega)) (by omega) (by omega)<|sp bH rfl<|sE ?_;clear H a;intro a H
   refine bX H S (i:=0) (kk:=((s9.length:Int)-1).toNat) (j:=1) G G G (by omega) (by omega) bE rfl ?_
   clear H a S;intro _ a S H
   replace S:=S.recell (i:=0) rfl (cell':=scell (setHi s9 d)) (fun k j hk hj=>by rw [show ((s9.length:Int)-1).toNat=s9.length-1 by omega];exact Fv (by omega) k j hj)
   rw [show s9.length=(setHi s9 d).length from (qX _ _).symm] at H S
   refine k12 _ _ ?_
   refine sO H<|sd (aK G G (by unfold i64ok;omega))<|sr 1 rfl<|sE ?_;clear H a;intro a H
   exact k9 (g1-1) (d+1,_,_,_) a _ (by omega) (⟨by omega,by omega,Mm hW (Fw (show d<y.days.toNat by omega) hc3) (by rw [show ((s9.length:Int)-1).toNat=s9.length-1 by omega] at hc4;exact ⟨by omega,hc4.2⟩)⟩) (S.sel [0,1,2] G G) (H.keep [10,25,8,24] rfl)
  try simp only [o1,o2,o3,o4,o5,o6,o7,o8,o9,oa] at hc4
  replace H:=H.keep [8,10,11,24,25] rfl
  refine one_list ?_
  refine ls 4 H<|sr 3 rfl<|sd (aN dA G G)<|sE ?_;clear H a;intro a H
  refine aX H rfl S cR aP bU G G G G G G G G G ?_;clear H a S;intro A1 _ a hA1 S H
  refine cG H rfl S cR aP bU Dx G G (i:=1) G G G (ownM.inS S (i:=0) rfl) (fC (two G G)) (by omega) (by omega) ?_;clear H a S;intro A2 c2 _ a S H
  replace S:=S.recell (i:=1) rfl (cell':=scell (s9++[((d:Int),(d:Int))])) (fun k j hk hj=>xT k j hk hj)
  rw [show s9.length+1=(s9++[((d:Int),(d:Int))]).length by simp] at H S
  refine ls 1 H<|sr 1 rfl<|sE ?_;clear H a;intro a H
  refine k12 _ _ ?_
  refine sO H<|sd (aK G G (by unfold i64ok;omega))<|sr 1 rfl<|sE ?_;clear H a;intro a H
  exact k9 (g1-1) (d+1,_,_,_) a _ (by omega) (⟨by omega,by omega,Mn hW (Fw (show d<y.days.toNat by omega) hc3) (fun h9=>by rw [show ((s9.length:Int)-1).toNat=s9.length-1 by omega] at hc4;exact hc4.elim (fun h=>by omega) (fun h=>h h9.2))⟩) (S.sel [1,2,3] G G) (H.keep [10,25,8,24] rfl)
 refine wp_exit ?_
 refine k7 _ _ ?_
 replace H:=H.keep [10] rfl
 refine sS H fun K23 k23=>sr 3 rfl<|sE ?_;clear H a;intro a H
 refine k23 _ ?_;clear k23 K23
 refine wp_ret ?_
 refine ret2 (fn:=Tryd.f11) rfl H G G ?_
 obtain rfl:d=y.days.toNat:=by omega
 have he:termL y l u=s9:=by unfold termL;rw [if_neg (by omega),hW]
 rw [he,hz]
 exact ⟨A9,c9,rfl,(S.sel [0] G G)⟩
theorem Ck (l:List Int) (LA:Option Addr) (lc:Nat) (x:Int) (w:World) (hl:InS w noF 1 LA l.length (icl l)) (hln:l.length≤9223372036854775807) :
    Calls Tryd.prog 10 [.slice LA l.length lc,.int .i64 x].toArray w (Ret (fun u w'=>u = .bool (nmB l x)∧St w noF [] w')):=by
 refine enter Tryd.func10 rfl Tryd.ntmps10 rfl (fun a H=>?_)
 have S:=St.start w
 refine sS H fun K1 k1=>sr 1 rfl<|sE ?_;clear H a;intro a H
 refine k1 _ ?_;clear k1 K1
 refine wp_seq_k fun K2 k2=>?_
 refine sS H fun K3 k3=>sr 1 rfl<|sE ?_;clear H a;intro a H
 refine k3 _ ?_;clear k3 K3
 refine wp_block ?_
 refine loop_st (X:=Nat) (R0:=_) [0,1] H rfl (fun k=>[(5,.int .i64 (k:Int))]) (fun k=>[]) (fun g k=>k≤l.length∧g+k=l.length∧∀ q,q<k→¬ l.getD q 0=x) (l.length) 0 ?_ (S.sel [] G G) (H.keep [5,0,1] rfl) ?_
 · exact ⟨by omega,by omega,fun q hq=>absurd hq (Nat.not_lt_zero q)⟩
 clear H S a
 intro g1 x1 a w1 hp S H K4 k4
 obtain ⟨k,rfl⟩:∃ y,y=x1:=⟨_,rfl⟩
 refine wp_seq_k fun K5 k5=>?_
 refine sS H fun K6 k6=>sr 2 rfl<|sL aR rfl<|sr 1 rfl<|sE ?_;clear H a;intro a H
 refine k6 _ ?_;clear k6 K6
 refine condL H rfl (fun hc1=>?_) (fun hc1=>?_)
 ·skip
  refine wp_skip ?_
  refine k5 _ _ ?_
  refine wp_seq_k fun K7 k7=>?_
  refine wp_block ?_
  replace H:=H.keep [0,1,5] rfl
  refine sS H fun K8 k8=>sr 2 rfl<|si aR bE G G (hl.adr (by omega)) (by omega)<|slm aF rfl (hl.rd S (by omega) (by omega))<|sr 2 rfl<|sE ?_;clear H a;intro a H
  refine k8 _ ?_;clear k8 K8
  refine condE H rfl (fun hc2=>?_) (fun hc2=>?_)
  ·skip
   refine sS H fun K9 k9=>sr 1 rfl<|sE ?_;clear H a;intro a H
   refine k9 _ ?_;clear k9 K9
   refine wp_ret ?_
   refine ret1 (fn:=Tryd.f10) rfl H rfl ?_
   rw [Ne (k:=k) (by omega) hc2];exact ⟨rfl,(S.sel [] G G)⟩
  refine wp_skip ?_
  refine k7 _ _ ?_
  replace H:=H.keep [0,1,5] rfl
  refine sO H<|sr 1 rfl<|sd (aK G G (by unfold i64ok;omega))<|sr 1 rfl<|sE ?_;clear H a;intro a H
  exact k4 (g1-1) (k+1) a _ (by omega) (⟨by omega,by omega,fun q hq=>if h9:q<k then hp.2.2 q h9 else by
    obtain rfl:q=k:=by omega
    exact hc2⟩) (S.sel [] G G) (H.keep [5,0,1] rfl)
 refine wp_exit ?_
 refine k2 _ _ ?_
 refine sS H fun K11 k11=>sr 1 rfl<|sE ?_;clear H a;intro a H
 refine k11 _ ?_;clear k11 K11
 refine wp_ret ?_
 refine ret1 (fn:=Tryd.f10) rfl H rfl ?_
 rw [Pm (fun q hq=>hp.2.2 q (by omega))];exact ⟨rfl,(S.sel [] G G)⟩
end
section
section
variable {hz:Int} {sw:List Int} {ws:List Wr} {al:List Int} {a q n n2:Nat} {b:Int}
theorem tJ (h:pairB hz sw ws al (a:Int) b=true) (hb:b=(a:Int)+1+(q:Int)) (hn:n2=n+pcIn hz sw ws al a q):n2+1=n+pcIn hz sw ws al a (q+1):=by
  subst hb;rw [pcIn,if_pos h];omega
theorem has3:∀ x y:Bool,x=true∨(x=false∧y=true)∨(x=false∧y=false):=by decide
theorem tK (hA:hasC al (a:Int)=true):¬ pairB hz sw ws al (a:Int) b=true:=by unfold pairB;rw [hA];simp
theorem tL (hA:hasC al b=true):¬ pairB hz sw ws al (a:Int) b=true:=by unfold pairB;rw [hA];simp
theorem fT (hA:hasC al (a:Int)=false) (hB:hasC al b=false):pairB hz sw ws al (a:Int) b=decide (0<(wkN hz sw ws (lorI (1*2^(a:Int).toNat) (1*2^b.toNat)) hz.toNat).length):=by unfold pairB;rw [hA,hB];rfl
theorem fV (h:¬ pairB hz sw ws al (a:Int) b=true) (hb:b=(a:Int)+1+(q:Int)) (hn:n2=n+pcIn hz sw ws al a q):n2=n+pcIn hz sw ws al a (q+1):=by
  subst hb;rw [pcIn,if_neg h];exact hn
end
theorem cX (hz:Int) (sw:List Int) (SA:Option Addr) (sc:Nat) (ws:List Wr) (QA:Option Addr) (qc:Nat) (OA:Nat→Option Addr) (oc:Nat→Nat) (w:World) (hsw:InS w noF 1 SA sw.length (icl sw)) (hws:InS w noF 2 QA ws.length (cI ws OA oc)) (hof:∀ k,k<ws.length→InS w noF 1 (OA k) (ws.getD k Wr.zero).of.length (icl (ws.getD k Wr.zero).of)) (hE:circE hz sw ws=0) :
    Calls Tryd.prog 18 [.agg [.int .i64 hz,.slice SA sw.length sc,.slice QA ws.length qc].toArray].toArray w (Ret (fun u w'=>∃ A' c',u = .tuple #[.slice A' (pcOut hz sw ws (critN hz sw ws sw.length) sw.length) c',.int .i64 0]∧St w noF [] w')):=by
 have V:=eI (iI hE)
 have hns:=V.nsw
 have hnw:=V.nws
 have hzb:=V.hzb
 have hof9:=yY V
 have hcl9:=qJ (hz:=hz) (sw:=sw) (ws:=ws) sw.length
 refine enter Tryd.func18 rfl Tryd.ntmps18 rfl (fun a H=>?_)
 have S:=St.start w
 refine seq_list fun K1 k1=>?_
 refine aQ H rfl S G G ?_;clear H a S;intro b1 _ a hb1 hbw1 S H
 refine ls 2 H<|sr 2 rfl<|sE ?_;clear H a;intro a H
 refine k1 _ _ ?_;clear k1 K1
 replace H:=H.keep [1] rfl
 refine seq_list fun K2 k2=>?_
 refine ls 1 H<|sd ((aC bR bO rfl S (i:=0) G G))<|sE ?_;clear H a;intro a H
 refine aA H G G Tryd.func28 G G (sP hz sw SA sc ws QA qc OA oc _ (hsw.now S) (hws.now S) (fun k hk=>(hof k hk).now S) hE) ?_;clear H a
 rintro _ _ a ⟨A8,c8,rfl,S2⟩ H
 replace S:=S.call S2;clear S2
 refine ls 5 H<|sr 5 rfl<|sE ?_;clear H a;intro a H
 refine k2 _ _ ?_;clear k2 K2
 refine wp_seq_k fun K3 k3=>?_
 refine sS H fun K4 k4=>sr 2 rfl<|sE ?_;clear H a;intro a H
 refine k4 _ ?_;clear k4 K4
 refine condN H rfl (fun hc1=>?_) (fun hc1=>?_)
 ·skip
  replace H:=H.keep [5] rfl
  refine sS H fun K5 k5=>sr 3 rfl<|sE ?_;clear H a;intro a H
  refine k5 _ ?_;clear k5 K5
  refine wp_ret ?_
  refine ret2 (fn:=Tryd.f18) rfl H G G ?_
  exact absurd rfl hc1
 refine wp_skip ?_
 refine k3 _ _ ?_
 refine sS H fun K6 k6=>sr 1 rfl<|sE ?_;clear H a;intro a H
 refine k6 _ ?_;clear k6 K6
 refine wp_seq_k fun K7 k7=>?_
 refine sS H fun K8 k8=>sf dG rfl<|sl S 1 bD G G G<|sL aR rfl<|sr 1 rfl<|sE ?_;clear H a;intro a H
 refine k8 _ ?_;clear k8 K8
 refine wp_block ?_
 replace S:=S.newNil 106 2 (fun _ _=>undef)
 refine loop_st (X:=Nat×Nat×Option Addr×Nat×(Nat→Nat→Value)) (R0:=_) [1,4,19] H rfl (fun ⟨u,n,A9,c9,cl9⟩=>[(6,.slice A9 n c9),(20,.int .i64 (u:Int))]) (fun ⟨u,n,A9,c9,cl9⟩=>[ownM 106 2 A9 n c9 cl9]) (fun g ⟨u,n,A9,c9,cl9⟩=>u≤sw.length∧g+u=sw.length∧n=pcOut hz sw ws (critN hz sw ws sw.length) u) (sw.length) (0,0,none,0,fun _ _=>undef) ?_ (S.sel [0,1,2] G G) (H.keep [6,20,1,4,19] rfl) ?_
 · exact ⟨by omega,by omega,rfl⟩
 clear H S a
 intro g1 x1 a w1 hp S H K9 k9
 obtain ⟨u,n,A9,c9,cl9⟩:=x1
 dsimp only at hp S H
 obtain ⟨hu1,hu2,hn1⟩:=hp
 refine sS H fun K10 k10=>sr 1 rfl<|sE ?_;clear H a;intro a H
 refine k10 _ ?_;clear k10 K10
 refine wp_seq_k fun K11 k11=>?_
 refine condL H rfl (fun hc2=>?_) (fun hc2=>?_)
 ·skip
  refine wp_skip ?_
  refine k11 _ _ ?_
  refine wp_seq_k fun K12 k12=>?_
  refine wp_block ?_
  refine sS H fun K13 k13=>sr 2 rfl<|sE ?_;clear H a;intro a H
  refine k13 _ ?_;clear k13 K13
  refine sS H fun K14 k14=>sr 1 rfl<|sd (aK G G (by unfold i64ok;omega))<|sr 1 rfl<|sE ?_;clear H a;intro a H
  refine k14 _ ?_;clear k14 K14
  refine wp_block ?_
  refine loop_st (X:=Nat×Int×Nat×Option Addr×Nat×(Nat→Nat→Value)) (R0:=_) [1,4,7,19,20] H rfl (fun ⟨q,b,n2,A7,c7,cl7⟩=>[(6,.slice A7 n2 c7),(8,.int .i64 b)]) (fun ⟨q,b,n2,A7,c7,cl7⟩=>[ownM 106 2 A7 n2 c7 cl7]) (fun g ⟨q,b,n2,A7,c7,cl7⟩=>u+1+q≤sw.length∧g+u+1+q=sw.length∧n2=n+pcIn hz sw ws (critN hz sw ws sw.length) u q∧b=(u:Int)+1+(q:Int)) (sw.length-(u+1)) (0,(u:Int)+1,n,A9,c9,cl9) ?_ (S.sel [0,1,2] G G) (H.keep [6,8,1,4,7,19,20] rfl) ?_
  · exact ⟨by omega,by omega,rfl,by omega⟩
  clear H S a
  intro g2 x2 a w2 hp S H K15 k15
  obtain ⟨q,b,n2,A7,c7,cl7⟩:=x2
  dsimp only at hp S H
  obtain ⟨hq1,hq2,hn2,hb2⟩:=hp
  obtain ⟨y,rfl⟩:∃ y:Nat,b=y:=⟨u+1+q,by omega⟩
  refine wp_seq_k fun K16 k16=>?_
  refine sS H fun K17 k17=>sr 1 rfl<|sf dG rfl<|sl S 2 bD G G G<|sL aR rfl<|sr 1 rfl<|sE ?_;clear H a;intro a H
  refine k17 _ ?_;clear k17 K17
  refine condL H rfl (fun hc3=>?_) (fun hc3=>?_)
  ·skip
   refine wp_skip ?_
   refine k16 _ _ ?_
   refine wp_seq_k fun K18 k18=>?_
   refine wp_block ?_
   rcases has3 (hasC (critN hz sw ws sw.length) (u:Int)) (hasC (critN hz sw ws sw.length) (y:Int)) with hA|⟨hA,hB⟩|⟨hA,hB⟩
   ·skip
    have hsh:=pwc (h:=u) (by omega)
    have hsh2:=pwc (h:=y) (by omega)
    have hwl9:=nJ (hz:=hz) (sw:=sw) (ws:=ws) (cl:=lorI (1*2^(u:Int).toNat) (1*2^(y:Int).toNat)) hz.toNat
    replace H:=H.keep [1,4,6,7,8,19,20] rfl
    replace S:=S.drew
    refine seq_wq [(0,true),(1,true),(2,false),(3,true),(4,true),(5,true),(6,true),(7,true),(8,true),(9,true),(10,true),(11,true),(12,true),(13,true),(14,true),(15,true),(16,true),(17,true),(18,true),(19,true),(20,true)] (by kernel_rfl) (by kernel_rfl) (S.sel [0,1,2] G G) fun K19 k19=>?_
    refine qF H<|qr 2 rfl<|qK ?_;clear H a;intro a H
    refine aS rfl ?_
    refine aA H G G Tryd.func29 G G (eT (critN hz sw ws sw.length) A8 c8 _ _ (ownM.inS S (i:=1) rfl) (by omega)) ?_;clear H a
    rintro _ _ a ⟨rfl,S2⟩ H
    replace S:=S.call S2;clear S2
    first|rw [hA] at H|rw [hB] at H
    refine wpList_nil (And.intro (S.sel [0,1,2] G G) ?_)
    refine qF H<|qr 2 rfl<|qK ?_;clear H a;intro a H
    refine aJ H G G G G G ?_;clear H a;intro a H
    refine aJ H G G G G G ?_;clear H a;intro a H
    refine aJ H G G G G G ?_;clear H a;intro a H
    refine aJ H G G G G G ?_;clear H a;intro a H
    refine qF H<|qd rfl (fun _ S=>(aU G G G))<|qr 1 rfl<|qK ?_;clear H a;intro a H
    refine aJ H G G G G G ?_;clear H a;intro a H
    refine aJ H G G G G G ?_;clear H a;intro a H
    refine aJ H G G G G G ?_;clear H a;intro a H
    refine aJ H G G G G G ?_;clear H a;intro a H
    refine aJ H G G G G G ?_;clear H a;intro a H
    refine aJ H G G G G G ?_;clear H a;intro a H
    refine aJ H G G G G G ?_;clear H a;intro a H
    refine aJ H G G G G G ?_;clear H a;intro a H
    refine aJ H G G G G G ?_;clear H a;intro a H
    refine qF H<|qd rfl (fun _ S=>(aU G G G))<|qK ?_;clear H a;intro a H
    refine bK ?_
    refine k19 _ _ ?_
    clear k19 K19
    refine cond_ H rfl (fun hc4=>?_) (fun hc4=>?_)
    ·skip
     skip
     cases hc4
    skip
    refine wp_skip ?_
    refine k18 _ _ ?_
    replace H:=H.keep [1,4,6,7,8,19,20] rfl
    refine sO H<|sr 1 rfl<|sd (aK G G (by unfold i64ok;omega))<|sr 1 rfl<|sE ?_;clear H a;intro a H
    exact k15 (g2-1) (q+1,_,_,_,_,_) a _ (by omega) (⟨by omega,by omega,by first|exact tJ (by rw [fT hA hB];exact decide_eq_true (by omega)) hb2 hn2|exact fV (by rw [fT hA hB,decide_eq_true_eq];omega) hb2 hn2|exact fV (tK hA) hb2 hn2|exact fV (tL hB) hb2 hn2|exact fV (by rw [fT hA hB,decide_eq_true_eq];have h9:=hc6.resolve_left (fun h=>h.elim (fun h=>Bool.noConfusion h) (fun h=>Bool.noConfusion h));omega) hb2 hn2,by omega⟩) (S.sel [0,1,2] G G) (H.keep [6,8,1,4,7,19,20] rfl)
   ·skip
    have hsh:=pwc (h:=u) (by omega)
    have hsh2:=pwc (h:=y) (by omega)
    have hwl9:=nJ (hz:=hz) (sw:=sw) (ws:=ws) (cl:=lorI (1*2^(u:Int).toNat) (1*2^(y:Int).toNat)) hz.toNat
    replace H:=H.keep [1,4,6,7,8,19,20] rfl
    replace S:=S.drew
    refine seq_wq [(0,true),(1,true),(2,false),(3,true),(4,true),(5,true),(6,true),(7,false),(8,true),(9,true),(10,true),(11,true),(12,true),(13,true),(14,true),(15,true),(16,true),(17,true),(18,true),(19,true),(20,true)] (by kernel_rfl) (by kernel_rfl) (S.sel [0,1,2] G G) fun K21 k21=>?_
    refine qF H<|qr 2 rfl<|qK ?_;clear H a;intro a H
    refine aS rfl ?_
    refine aA H G G Tryd.func29 G G (eT (critN hz sw ws sw.length) A8 c8 _ _ (ownM.inS S (i:=1) rfl) (by omega)) ?_;clear H a
    rintro _ _ a ⟨rfl,S2⟩ H
    replace S:=S.call S2;clear S2
    first|rw [hA] at H|rw [hB] at H
    refine wpList_nil (And.intro (S.sel [0,1,2] G G) ?_)
    refine qF H<|qr 2 rfl<|qK ?_;clear H a;intro a H
    refine aG H G G G G (fun _ S=>aM rfl) ?_;clear H a;intro a H
    refine aG H G G G G (fun _ S=>aM rfl) ?_;clear H a;intro a H
    refine aS rfl ?_
    refine aY H G G ?_
    refine aA H G G Tryd.func29 G G (eT (critN hz sw ws sw.length) A8 c8 _ _ (ownM.inS S (i:=1) rfl) (by omega)) ?_;clear H a
    rintro _ _ a ⟨rfl,S2⟩ H
    replace S:=S.call S2;clear S2
    first|rw [hA] at H|rw [hB] at H
    refine wpList_nil (And.intro (S.sel [0,1,2] G G) ?_)
    refine aG H G G G G (fun _ S=>cC rfl) ?_;clear H a;intro a H
    refine qF H<|qd rfl (fun _ S=>(eR G G G))<|qr 1 rfl<|qK ?_;clear H a;intro a H
    refine aJ H G G G G G ?_;clear H a;intro a H
    refine aJ H G G G G G ?_;clear H a;intro a H
    refine aJ H G G G G G ?_;clear H a;intro a H
    refine aJ H G G G G G ?_;clear H a;intro a H
    refine aJ H G G G G G ?_;clear H a;intro a H
    refine aJ H G G G G G ?_;clear H a;intro a H
    refine aJ H G G G G G ?_;clear H a;intro a H
    refine aJ H G G G G G ?_;clear H a;intro a H
    refine aJ H G G G G G ?_;clear H a;intro a H
    refine qF H<|qd rfl (fun _ S=>(aU G G G))<|qK ?_;clear H a;intro a H
    refine bK ?_
    refine k21 _ _ ?_
    clear k21 K21
    refine cond_ H rfl (fun hc5=>?_) (fun hc5=>?_)
    ·skip
     skip
     cases hc5
    skip
    refine wp_skip ?_
    refine k18 _ _ ?_
    replace H:=H.keep [1,4,6,7,8,19,20] rfl
    refine sO H<|sr 1 rfl<|sd (aK G G (by unfold i64ok;omega))<|sr 1 rfl<|sE ?_;clear H a;intro a H
    exact k15 (g2-1) (q+1,_,_,_,_,_) a _ (by omega) (⟨by omega,by omega,by first|exact tJ (by rw [fT hA hB];exact decide_eq_true (by omega)) hb2 hn2|exact fV (by rw [fT hA hB,decide_eq_true_eq];omega) hb2 hn2|exact fV (tK hA) hb2 hn2|exact fV (tL hB) hb2 hn2|exact fV (by rw [fT hA hB,decide_eq_true_eq];have h9:=hc6.resolve_left (fun h=>h.elim (fun h=>Bool.noConfusion h) (fun h=>Bool.noConfusion h));omega) hb2 hn2,by omega⟩) (S.sel [0,1,2] G G) (H.keep [6,8,1,4,7,19,20] rfl)
   have hsh:=pwc (h:=u) (by omega)
   have hsh2:=pwc (h:=y) (by omega)
   have hwl9:=nJ (hz:=hz) (sw:=sw) (ws:=ws) (cl:=lorI (1*2^(u:Int).toNat) (1*2^(y:Int).toNat)) hz.toNat
   replace H:=H.keep [1,4,6,7,8,19,20] rfl
   replace S:=S.drew
   refine seq_wq [(0,true),(1,true),(2,false),(3,true),(4,true),(5,true),(6,true),(7,false),(8,true),(9,true),(10,true),(11,true),(12,true),(13,true),(14,true),(15,true),(16,true),(17,false),(18,true),(19,true),(20,true)] (by kernel_rfl) (by kernel_rfl) (S.sel [0,1,2] G G) fun K23 k23=>?_
   refine qF H<|qr 2 rfl<|qK ?_;clear H a;intro a H
   refine aS rfl ?_
   refine aA H G G Tryd.func29 G G (eT (critN hz sw ws sw.length) A8 c8 _ _ (ownM.inS S (i:=1) rfl) (by omega)) ?_;clear H a
   rintro _ _ a ⟨rfl,S2⟩ H
   replace S:=S.call S2;clear S2
   first|rw [hA] at H|rw [hB] at H
   refine wpList_nil (And.intro (S.sel [0,1,2] G G) ?_)
   refine qF H<|qr 2 rfl<|qK ?_;clear H a;intro a H
   refine aG H G G G G (fun _ S=>aM rfl) ?_;clear H a;intro a H
   refine aG H G G G G (fun _ S=>aM rfl) ?_;clear H a;intro a H
   refine aS rfl ?_
   refine aY H G G ?_
   refine aA H G G Tryd.func29 G G (eT (critN hz sw ws sw.length) A8 c8 _ _ (ownM.inS S (i:=1) rfl) (by omega)) ?_;clear H a
   rintro _ _ a ⟨rfl,S2⟩ H
   replace S:=S.call S2;clear S2
   first|rw [hA] at H|rw [hB] at H
   refine wpList_nil (And.intro (S.sel [0,1,2] G G) ?_)
   refine aG H G G G G (fun _ S=>cC rfl) ?_;clear H a;intro a H
   refine qF H<|qd rfl (fun _ S=>(eR G G G))<|qr 1 rfl<|qK ?_;clear H a;intro a H
   refine aG H G G G G (fun _ S=>(aC bR bO rfl S (i:=2) G G)) ?_;clear H a;intro a H
   refine aG H G G G G (fun _ S=>aM rfl) ?_;clear H a;intro a H
   refine aG H G G G G (fun _ S=>cY G G (by omega) (by omega) (by unfold i64ok;omega)) ?_;clear H a;intro a H
   refine aG H G G G G (fun _ S=>aM rfl) ?_;clear H a;intro a H
   refine aG H G G G G (fun _ S=>cY G G (by omega) (by omega) (by unfold i64ok;omega)) ?_;clear H a;intro a H
   refine aG H G G G G (fun _ S=>Ej G G hsh hsh2) ?_;clear H a;intro a H
   refine aS rfl ?_
   refine aY H G G ?_
   refine aA H G G Tryd.func30 G G (uS hz sw SA sc ws QA qc OA oc (lorI (1*2^(u:Int).toNat) (1*2^(y:Int).toNat)) _ (hsw.now S) (hws.now S) (fun k hk=>(hof k hk).now S) V (yZ hsh hsh2)) ?_;clear H a
   rintro _ _ a ⟨A5,c5,rfl,S2⟩ H
   replace S:=S.call S2;clear S2
   refine wpList_nil (And.intro (S.sel [1,2,3] G G) ?_)
   refine aG H G G G G (fun _ S=>cD aR rfl) ?_;clear H a;intro a H
   refine aG H G G G G (fun _ S=>bQ G G) ?_;clear H a;intro a H
   refine qF H<|qd rfl (fun _ S=>(eR G G G))<|qK ?_;clear H a;intro a H
   refine bK ?_
   refine k23 _ _ ?_
   clear k23 K23
   refine cond_ H rfl (fun hc6=>?_) (fun hc6=>?_)
   ·skip
    try simp only [o1,o2,o3,o4,o5,o6,o7,o8,o9,oa] at hc6
    have hno:n≤12*12:=by rw [hn1];exact Nat.le_trans (Ek _) (Nat.mul_le_mul (show u≤12 by omega) (show sw.length≤12 by omega))
    have hpi:=zA (hz:=hz) (sw:=sw) (ws:=ws) (al:=(critN hz sw ws sw.length)) (a:=u) q
    replace H:=H.keep [1,4,6,7,8,19,20] rfl
    refine one_list ?_
    refine ls 4 H<|sr 3 rfl<|sd (aN Lo G G)<|sE ?_;clear H a;intro a H
    refine aX H rfl S gT Di wX G G G G G G G G G ?_;clear H a S;intro A1 _ a hA1 S H
    refine cG H rfl S gT Di wX Li G G (i:=2) G G G (ownM.inS S (i:=0) rfl) (fC (two G G)) (by omega) (by omega) ?_;clear H a S;intro A2 c2 _ a S H
    refine ls 1 H<|sr 1 rfl<|sE ?_;clear H a;intro a H
    refine k18 _ _ ?_
    replace H:=H.keep [1,4,6,7,8,19,20] rfl
    refine sO H<|sr 1 rfl<|sd (aK G G (by unfold i64ok;omega))<|sr 1 rfl<|sE ?_;clear H a;intro a H
    exact k15 (g2-1) (q+1,_,_,_,_,_) a _ (by omega) (⟨by omega,by omega,by first|exact tJ (by rw [fT hA hB];exact decide_eq_true (by omega)) hb2 hn2|exact fV (by rw [fT hA hB,decide_eq_true_eq];omega) hb2 hn2|exact fV (tK hA) hb2 hn2|exact fV (tL hB) hb2 hn2|exact fV (by rw [fT hA hB,decide_eq_true_eq];have h9:=hc6.resolve_left (fun h=>h.elim (fun h=>Bool.noConfusion h) (fun h=>Bool.noConfusion h));omega) hb2 hn2,by omega⟩) (S.sel [2,3,4] G G) (H.keep [6,8,1,4,7,19,20] rfl)
   try simp only [o1,o2,o3,o4,o5,o6,o7,o8,o9,oa] at hc6
   refine wp_skip ?_
   refine k18 _ _ ?_
   refine sO H<|sr 1 rfl<|sd (aK G G (by unfold i64ok;omega))<|sr 1 rfl<|sE ?_;clear H a;intro a H
   exact k15 (g2-1) (q+1,_,_,_,_,_) a _ (by omega) (⟨by omega,by omega,by first|exact tJ (by rw [fT hA hB];exact decide_eq_true (by omega)) hb2 hn2|exact fV (by rw [fT hA hB,decide_eq_true_eq];omega) hb2 hn2|exact fV (tK hA) hb2 hn2|exact fV (tL hB) hb2 hn2|exact fV (by rw [fT hA hB,decide_eq_true_eq];have h9:=hc6.resolve_left (fun h=>h.elim (fun h=>Bool.noConfusion h) (fun h=>Bool.noConfusion h));omega) hb2 hn2,by omega⟩) (S.sel [1,2,3] G G) (H.keep [6,8,1,4,7,19,20] rfl)
  refine wp_exit ?_
  refine k12 _ _ ?_
  refine sO H<|sd (aK G G (by unfold i64ok;omega))<|sr 1 rfl<|sE ?_;clear H a;intro a H
  exact k9 (g1-1) (u+1,_,_,_,_) a _ (by omega) (⟨by omega,by omega,by rw [pcOut,←hn1,show sw.length-(u+1)=q by omega];exact hn2⟩) (S.sel [0,1,2] G G) (H.keep [6,20,1,4,19] rfl)
 refine wp_exit ?_
 refine k7 _ _ ?_
 replace H:=H.keep [6] rfl
 refine sS H fun K28 k28=>sr 3 rfl<|sE ?_;clear H a;intro a H
 refine k28 _ ?_;clear k28 K28
 refine wp_ret ?_
 refine ret2 (fn:=Tryd.f18) rfl H G G ?_
 obtain rfl:u=sw.length:=by omega
 rw [←hn1]
 exact ⟨_,_,rfl,(S.sel [] G G)⟩
end
section
def exSw:List Int:=[1,1,2,2]
def exWs:List Wr:=[⟨2,[1,2,3,4]⟩,⟨1,[0]⟩,⟨1,[1]⟩,⟨1,[2]⟩,⟨1,[3]⟩]
def exOA (A0 A1 A2 A3 A4:Option Addr) (k:Nat):Option Addr:=[A0,A1,A2,A3,A4].getD k none
def exOc (k:Nat):Nat:=[4,1,1,1,1].getD k 0
theorem exCir:circE 2 exSw exWs=0:=by kernel_rfl
theorem eG:pcOut 2 exSw exWs (critN 2 exSw exWs exSw.length) exSw.length=2:=by kernel_rfl
theorem bY (w:World) :
    Calls Tryd.prog 17 [].toArray w (Ret (fun v w'=>∃ SA A0 A1 A2 A3 A4 QA TA,v = .tuple #[.agg [.int .i64 2,.slice SA 4 4,.slice QA 5 5].toArray,.slice TA 4 4]∧St w noF [ownM 3 1 SA 4 4 (icl exSw),ownM 3 1 A0 4 4 (icl [1,2,3,4]),ownM 3 1 A1 1 1 (icl [0]),ownM 3 1 A2 1 1 (icl [1]),ownM 3 1 A3 1 1 (icl [2]),ownM 3 1 A4 1 1 (icl [3]),ownM 67 2 QA 5 5 (cI exWs (exOA A0 A1 A2 A3 A4) exOc)] w')):=by
 refine enter Tryd.func17 rfl Tryd.ntmps17 rfl (fun a H=>?_)
 have S:=St.start w
 refine seq_list fun K1 k1=>?_
 refine aI H rfl S gL ?_;clear H a S;intro b0 _ a hb0 hbw0 S H
 refine ls 1 H<|sr 1 rfl<|sE ?_;clear H a;intro a H
 refine k1 _ _ ?_;clear k1 K1
 replace H:=H.keep [0] rfl
 refine seq_list fun K2 k2=>?_
 refine aX H rfl S aR bE fO G G G G G G G G G ?_;clear H a S;intro A1 _ a hA1 S H
 refine aX H rfl S aR bE fO G G G G G G G G G ?_;clear H a S;intro A2 _ a hA2 S H
 refine ls 1 H<|sd (aN uR G G)<|sE ?_;clear H a;intro a H
 refine aX H rfl S aR bE fO G G G G G G G G G ?_;clear H a S;intro A3 _ a hA3 S H
 refine ls 1 H<|sd (aN uR G G)<|sE ?_;clear H a;intro a H
 refine aX H rfl S aR bE fO G G G G G G G G G ?_;clear H a S;intro A4 _ a hA4 S H
 refine ls 1 H<|sd (aN uR G G)<|sE ?_;clear H a;intro a H
 refine aX H rfl S aR bE fO G G G G G G G G G ?_;clear H a S;intro A5 _ a hA5 S H
 refine ls 1 H<|sd (aN uR G G)<|sE ?_;clear H a;intro a H
 refine aX H rfl S aR bE fO G G G G G G G G G ?_;clear H a S;intro A6 _ a hA6 S H
 refine ls 1 H<|sd (aN uR G G)<|sE ?_;clear H a;intro a H
 refine aX H rfl S eN jB uQ G G G G G G G G G ?_;clear H a S;intro A7 _ a hA7 S H
 refine ls 1 H<|sd (aN Oq G G)<|sE ?_;clear H a;intro a H
 refine aI H rfl S gL ?_;clear H a S;intro b2 _ a hb2 hbw2 S H
 refine aD H S (i:=0) G G G G bO G G ?_
 clear H a S;intro _ a S H
 refine k2 _ _ ?_;clear k2 K2
 replace H:=H.keep [0,2] rfl
 refine seq_list fun K3 k3=>?_
 refine ls 5 H<|sd ((aC bR bO rfl S (i:=0) G G))<|sd (aN yX G G)<|sd (aN yX G G)<|sd (aN yX G G)<|sd (aN yX G G)<|sE ?_;clear H a;intro a H
 refine aX H rfl S fU gR yW G G G G G G G G G ?_;clear H a S;intro A8 _ a hA8 S H
 refine aD H S (i:=9) G G G G bO G G ?_
 clear H a S;intro _ a S H
 refine ls 1 H<|sr 1 rfl<|sE ?_;clear H a;intro a H
 refine k3 _ _ ?_;clear k3 K3
 refine wp_ret ?_
 refine retA1 (fn:=Tryd.f17) rfl H rfl bR (by exact bO) (cM S (i:=9) rfl) rfl ?_
 replace S:=S.recell (i:=8) rfl (cell':=icl exSw) (fun k j hk hj=>by
   obtain rfl:j=0:=by omega
   rcases k with _|_|_|_|k <;> first|rfl|(exfalso;omega))
 replace S:=S.recell (i:=7) rfl (cell':=icl [1,2,3,4]) (fun k j hk hj=>by
   obtain rfl:j=0:=by omega
   rcases k with _|_|_|_|k <;> first|rfl|(exfalso;omega))
 replace S:=S.recell (i:=6) rfl (cell':=icl [0]) (fun k j hk hj=>by
   obtain rfl:j=0:=by omega
   rcases k with _|_|_|_|k <;> first|rfl|(exfalso;omega))
 replace S:=S.recell (i:=5) rfl (cell':=icl [1]) (fun k j hk hj=>by
   obtain rfl:j=0:=by omega
   rcases k with _|_|_|_|k <;> first|rfl|(exfalso;omega))
 replace S:=S.recell (i:=4) rfl (cell':=icl [2]) (fun k j hk hj=>by
   obtain rfl:j=0:=by omega
   rcases k with _|_|_|_|k <;> first|rfl|(exfalso;omega))
 replace S:=S.recell (i:=3) rfl (cell':=icl [3]) (fun k j hk hj=>by
   obtain rfl:j=0:=by omega
   rcases k with _|_|_|_|k <;> first|rfl|(exfalso;omega))
 refine ⟨A1,A2,A3,A4,A5,A6,A7,A8,rfl,?_⟩
 replace S:=S.recell (i:=2) rfl (cell':=cI exWs (exOA A2 A3 A4 A5 A6) exOc) (fun k j hk hj=>by
   rcases j with _|_|j
   · rcases k with _|_|_|_|_|k <;> first|rfl|(exfalso;omega)
   · rcases k with _|_|_|_|_|k <;> first|rfl|(exfalso;omega)
   · exfalso;omega)
 exact (S.sel [8,7,6,5,4,3,2] G G)
end
section
theorem Nf {sz:Nat} {c d:Nat→Nat→Value} (h0:∀ j,j<sz→c 0 j=d 0 j) (h1:∀ j,j<sz→c 1 j=d 1 j):∀ k j,k<2→j<sz→c k j=d k j:=by
  intro k j hk hj
  have:k=0∨k=1:=by omega
  rcases this with rfl|rfl
  · exact h0 j hj
  · exact h1 j hj
section
variable {P:Program} {w:World} {L:List (Nat×Value)} {ty:TypeId} {pos:String} {af:Array Edge} {dd:Option Nat} {g:Option (Nat×Bool)} {a:Act}
set_option maxRecDepth 100000 in
theorem bN {x y:Operand} {yt:TypeId} {a b c d:Int} (hx:ev L x=some (.agg [.int .i64 a,.int .i64 b].toArray)) (hy:ev L y=some (.agg [.int .i64 c,.int .i64 d].toArray)) :
    Does Tryd.prog L ⟨dd,.binOp .eql 45 x y yt,ty,pos,af,g⟩ w (.bool (decide (a=c)&&decide (b=d))):=fun ρ hρ=>by
  have e:(binOp .eql 45 (.agg #[.int .i64 a,.int .i64 b]) (.agg #[.int .i64 c,.int .i64 d])).run Tryd.prog w = .ok (.bool (decide (a=c)&&decide (b=d))) w:=by
    simp only [binOp]
    simp [Op.equal,Op.maxDepth,zT]
    by_cases h1:a=c <;> by_cases h2:b=d <;> simp [h1,h2]
  simp only [execOp,hρ _ _ hx,hρ _ _ hy]
  simp [pN,e]
end
end
section
structure Brake where
  force:Int
  delay:Int
deriving DecidableEq
def Brake.zero:Brake:=⟨0,0⟩
def Brake.cell (b:Brake):Nat→Value
  | 0 => .int .i64 b.force
  | _ => .int .i64 b.delay
def bcell (l:List Brake) (k j:Nat):Value:=(l.getD k Brake.zero).cell j
structure Esc where
  up:Bool
  empty:Int
  pull:Int
  drag:Int
  motor:Int
  br:List Brake
structure Stp where
  speed:Int
  lo:Int
  hi:Int
  fail:Int
def eX (b:Brake):Bool:=decide (0≤b.force∧b.force≤10000000∧0≤b.delay∧b.delay≤20)
def escOk (e:Esc):Bool:=decide (1≤e.empty∧e.empty≤100000∧0≤e.pull∧e.pull≤100∧0≤e.drag∧e.drag≤10000000∧0≤e.motor∧e.motor≤10000000∧e.br.length≤3)&&e.br.all eX
def stpOk (e:Esc) (s:Stp):Bool:=decide (0≤s.speed∧s.speed≤1000∧0≤s.lo∧s.lo≤s.hi∧s.hi≤100000∧0≤s.fail∧s.fail<2^e.br.length)
def stopE (e:Esc) (s:Stp):Int:=if escOk e=true then (if stpOk e s=true then 0 else 11) else 10
def kO (v g f m:Int):Int:=max 0 (v+(g-f)/m)
def tickI (e:Esc) (v load brakes:Int):Int:=
  let g:=if e.up then -(e.pull*load) else e.pull*load
  if v<0∨v=0∧g<0 then -kO (-v) (-g) (e.drag+brakes) (e.empty+load) else kO v g (e.drag+brakes) (e.empty+load)
def fE (fail t:Int) (l:List Brake):Nat→Int
  | 0=>0
  | k+1=>fE fail t l k+(if fail/2^k%2=0∧(l.getD k Brake.zero).delay≤t then (l.getD k Brake.zero).force else 0)
theorem pT {fail t:Int} {l:List Brake} {k:Nat} (h:fail/2^k%2=0∧(l.getD k Brake.zero).delay≤t):fE fail t l k+(l.getD k Brake.zero).force=fE fail t l (k+1):=by
  conv=>rhs;unfold fE
  rw [if_pos h]
theorem rF {fail t:Int} {l:List Brake} {k:Nat} (h:¬ (fail/2^k%2=0∧(l.getD k Brake.zero).delay≤t)):fE fail t l k=fE fail t l (k+1):=by
  conv=>rhs;unfold fE
  rw [if_neg h,Int.add_zero]
def gripI (e:Esc) (s:Stp) (t:Int):Int:=fE s.fail t e.br e.br.length
def extI (e:Esc) (s:Stp) (most:Bool) (v t:Int):Int:=
  let a:=tickI e v s.lo (gripI e s t);let b:=tickI e v s.hi (gripI e s t)
  if (most=true∧b > a)∨(most=false∧b<a) then b else a
def goI (e:Esc) (s:Stp) (most:Bool):Nat→Int→Int→Int×Bool
  | 0,v,_=>(0,decide (v=0))
  | n+1,v,t=>if v=0 then (0,true) else (extI e s most v t+(goI e s most n (extI e s most v t) (t+1)).1,(goI e s most n (extI e s most v t) (t+1)).2)
theorem tM {fail t:Int} {l:List Brake} (h:l.all eX=true):∀ k,k≤l.length→0≤fE fail t l k∧fE fail t l k≤10000000*k:=by
  intro k
  induction k with
  | zero=>intro _;unfold fE;omega
  | succ k ih=>
    intro hk
    have h1:=ih (by omega)
    have hb:eX (l.getD k Brake.zero)=true:=by
      rw [List.getD_eq_getElem?_getD,List.getElem?_eq_getElem (by omega)]
      exact List.all_eq_true.1 h _ (List.getElem_mem _)
    unfold eX at hb
    simp only [decide_eq_true_eq] at hb
    unfold fE
    split <;> omega
theorem cO {e:Esc} (h:escOk e=true):(1≤e.empty∧e.empty≤100000∧0≤e.pull∧e.pull≤100∧0≤e.drag∧e.drag≤10000000∧0≤e.motor∧e.motor≤10000000∧e.br.length≤3)∧(∀ k,k<e.br.length→eX (e.br.getD k Brake.zero)=true)∧(2:Int)^((e.br.length:Int)).toNat=2^e.br.length∧1≤(2:Int)^e.br.length∧(2:Int)^e.br.length≤8:=by
  unfold escOk at h
  simp only [Bool.and_eq_true,decide_eq_true_eq] at h
  have h2:=h.1.2.2.2.2.2.2.2.2
  have h3:e.br.length=0∨e.br.length=1∨e.br.length=2∨e.br.length=3:=by omega
  refine ⟨h.1,fun k hk=>?_,by rw [Int.toNat_natCast],?_⟩
  · rw [List.getD_eq_getElem?_getD,List.getElem?_eq_getElem hk]
    exact List.all_eq_true.1 h.2 _ (List.getElem_mem hk)
  · rcases h3 with e|e|e|e <;> rw [e] <;> decide
theorem Kj {e:Esc} {s:Stp} (h:stopE e s=0):escOk e=true∧stpOk e s=true:=by
  unfold stopE at h
  split at h
  · split at h
    · exact ⟨by assumption,by assumption⟩
    · cases h
  · cases h
theorem pU {x m B:Int} (hm:0<m) (h : -B≤x∧x≤B) : -B≤x/m∧x/m≤B:=by
  constructor
  · rw [Int.le_ediv_iff_mul_le hm]
    have:B*1≤B*m:=Int.mul_le_mul_of_nonneg_left (by omega) (by omega)
    rw [Int.neg_mul];omega
  · have:=Int.ediv_le_ediv hm h.2
    have:=Int.ediv_le_self m (show 0≤B by omega)
    omega
theorem zU {e:Esc} {v x f B:Int} (he:escOk e=true) (hx:0≤x∧x≤100000) (hf:0≤f∧f≤30000000) (hv : -B≤v∧v≤B) : -(B+50000000)≤tickI e v x f∧tickI e v x f≤B+50000000:=by
  obtain ⟨h1,_⟩:=cO he
  have h2:0≤e.pull*x:=Int.mul_nonneg (by omega) (by omega)
  have h3:e.pull*x≤100*100000:=Int.mul_le_mul (by omega) (by omega) (by omega) (by omega)
  unfold tickI kO
  simp only
  generalize hg:(if e.up=true then -(e.pull*x) else e.pull*x)=g
  have h4 : -10000000≤g∧g≤10000000:=by rw [←hg];split <;> omega
  have h5:=pU (x:=g-(e.drag+f)) (B:=50000000) (show 0<e.empty+x by omega) (by omega)
  have h6:=pU (x := -g-(e.drag+f)) (B:=50000000) (show 0<e.empty+x by omega) (by omega)
  split <;> omega
theorem tN {e:Esc} {s:Stp} {m:Bool} {v t:Int} (h:(m=true∧tickI e v s.hi (gripI e s t) > tickI e v s.lo (gripI e s t))∨(m=false∧tickI e v s.hi (gripI e s t)<tickI e v s.lo (gripI e s t))):extI e s m v t=tickI e v s.hi (gripI e s t):=by
  unfold extI
  exact if_pos h
theorem tO {e:Esc} {s:Stp} {m:Bool} {v t:Int} (h:¬ ((m=true∧tickI e v s.hi (gripI e s t) > tickI e v s.lo (gripI e s t))∨(m=false∧tickI e v s.hi (gripI e s t)<tickI e v s.lo (gripI e s t)))):extI e s m v t=tickI e v s.lo (gripI e s t):=by
  unfold extI
  exact if_neg h
theorem Ng {e:Esc} {s:Stp} {m:Bool} {v t:Int}:extI e s m v t=tickI e v s.lo (gripI e s t)∨extI e s m v t=tickI e v s.hi (gripI e s t):=by
  unfold extI
  simp only
  split
  · exact .inr rfl
  · exact .inl rfl
def distI (e:Esc) (s:Stp):Int×Int×Int:=
  if stopE e s≠0 then (0,0,stopE e s) else if (goI e s true 100 s.speed 0).2=true then ((goI e s false 100 s.speed 0).1,(goI e s true 100 s.speed 0).1,0) else (0,0,12)
end
end Go.Proofs.YtinghmelkmblmaaDoor
