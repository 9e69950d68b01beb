/- Part 2 of the proof. -/
import Derived.Test.YtinghmelkmblmaaDoorQia
namespace Go.Proofs.YtinghmelkmblmaaDoor
open Go.RowKit
set_option linter.unusedVariables false
set_option linter.unusedSimpArgs false
set_option maxRecDepth 100000
set_option maxHeartbeats 4000000
section
theorem Lu {hz:Int} {sw:List Int} {ws:List Wr}:([(decide (1≤hz)&&decide (hz≤8)),(decide (1≤(sw.length:Int))&&decide ((sw.length:Int)≤12)),(decide (1≤(ws.length:Int))&&decide ((ws.length:Int)≤24))].all fun b=>b)=cirSz hz sw ws:=by unfold cirSz;simp only [List.all_cons,List.all_nil,Bool.and_true]
section
variable {hz:Int} {sw:List Int} {ws:List Wr} {i:Nat}
theorem dN (h:cirSz hz sw ws=false):circE hz sw ws=30:=jF (by unfold cirOk;rw [h];rfl)
theorem dO (h:(sw.any fun n=>!setB n hz)=true):circE hz sw ws=30:=jF (by unfold cirOk;rw [h];simp)
theorem aV (hi:i<ws.length) (h:wrOk sw.length ws.length ws i=false):circE hz sw ws=30:=jF (by
  unfold cirOk
  cases hb:(List.range ws.length).all (wrOk sw.length ws.length ws) with
  | false=>simp
  | true=>rw [List.all_eq_true.1 hb i (List.mem_range.2 hi)] at h;cases h)
theorem Ef (h:¬ heldN ws 0 ws.length=0):circE hz sw ws=30:=jF (by unfold cirOk;rw [decide_eq_false h];simp)
theorem uT (h:((List.range (ws.length-1)).any fun q=>!decide (heldN ws (q+1) ws.length=1))=true):circE hz sw ws=30:=jF (by unfold cirOk;rw [h];simp)
theorem uU (h1:cirSz hz sw ws=true) (h2:(sw.any fun n=>!setB n hz)=false) (h3:∀ i,i<ws.length→wrOk sw.length ws.length ws i=true) (h4:heldN ws 0 ws.length=0) (h5:((List.range (ws.length-1)).any fun q=>!decide (heldN ws (q+1) ws.length=1))=false):circE hz sw ws=0:=Aq (by
  unfold cirOk
  rw [h1,h2,decide_eq_true h4,h5,List.all_eq_true.2 (fun i hi=>h3 i (List.mem_range.1 hi))];rfl)
theorem gX (h:cirSz hz sw ws=true):(1≤hz∧hz≤8)∧(1≤sw.length∧sw.length≤12)∧(1≤ws.length∧ws.length≤24):=by
  unfold cirSz at h
  simp only [Bool.and_eq_true,decide_eq_true_eq] at h
  omega
theorem lJ {l:List Int} {k:Nat}:∀ q,0≤cntO l k q∧cntO l k q≤q:=fun q=>by
  induction q with
  | zero=>exact ⟨Int.le_refl _,Int.le_refl _⟩
  | succ q ih=>
    have e:cntO l k (q+1)=cntO l k q+(if l.getD q 0=(k:Int) then 1 else 0):=rfl
    rw [e];split <;> omega
theorem iJ {k i:Nat}:heldN ws k (i+1)=heldN ws k i+heldW (ws.getD i Wr.zero) k:=rfl
theorem nK (k:Nat):∀ i,(∀ q,q<i→wrOk sw.length ws.length ws q=true)→0≤heldN ws k i∧heldN ws k i≤8*i:=fun i=>by
  induction i with
  | zero=>intro _;exact ⟨Int.le_refl _,Int.le_refl _⟩
  | succ i ih=>
    intro h
    have h1:=ih fun q hq=>h q (by omega)
    have h2:=h i (by omega)
    rw [iJ]
    unfold heldW
    split
    · omega
    · next hk=>
      unfold wrOk at h2
      rw [if_neg hk] at h2
      split at h2
      · simp only [Bool.and_eq_true,decide_eq_true_eq] at h2
        have:=lJ (l:=(ws.getD i Wr.zero).of) (k:=k) (ws.getD i Wr.zero).of.length
        omega
      · cases h2
end
section
variable {sw l:List Int} {ws:List Wr} {i k j q:Nat}
theorem mC (hk:(ws.getD i Wr.zero).kind=1) (h1:(ws.getD i Wr.zero).of.length=1) (h:ascB (ws.getD i Wr.zero).of 0 sw.length=true):wrOk sw.length ws.length ws i=true:=by
  unfold wrOk;rw [if_pos hk,h,decide_eq_true h1];rfl
theorem cP (hk:(ws.getD i Wr.zero).kind=1) (h:¬ ((ws.getD i Wr.zero).of.length:Int)=1∨ascB (ws.getD i Wr.zero).of 0 sw.length=false):wrOk sw.length ws.length ws i=false:=by
  unfold wrOk;rw [if_pos hk]
  rcases h with h|h
  · rw [decide_eq_false (by omega)];rfl
  · rw [h];simp
theorem eD (h1:¬ (ws.getD i Wr.zero).kind=1) (hk:(ws.getD i Wr.zero).kind=2∨(ws.getD i Wr.zero).kind=3) (h2:1≤(ws.getD i Wr.zero).of.length∧(ws.getD i Wr.zero).of.length≤8) (h:ascB (ws.getD i Wr.zero).of ((i:Int)+1) ws.length=true):wrOk sw.length ws.length ws i=true:=by
  unfold wrOk;rw [if_neg h1,if_pos hk,h,decide_eq_true h2];rfl
theorem bC (h1:¬ (ws.getD i Wr.zero).kind=1) (hk:(ws.getD i Wr.zero).kind=2∨(ws.getD i Wr.zero).kind=3) (h:(((ws.getD i Wr.zero).of.length:Int)<1∨8<((ws.getD i Wr.zero).of.length:Int))∨ascB (ws.getD i Wr.zero).of ((i:Int)+1) ws.length=false):wrOk sw.length ws.length ws i=false:=by
  unfold wrOk;rw [if_neg h1,if_pos hk]
  rcases h with h|h
  · rw [decide_eq_false (by omega)];rfl
  · rw [h];simp
theorem eE (h1:¬ (ws.getD i Wr.zero).kind=1) (h2:¬ (ws.getD i Wr.zero).kind=2) (h3:¬ (ws.getD i Wr.zero).kind=3):wrOk sw.length ws.length ws i=false:=by
  unfold wrOk;rw [if_neg h1,if_neg (fun h=>h.elim h2 h3)]
theorem iA (h1:(ws.getD i Wr.zero).kind=1):heldN ws k i=heldN ws k (i+1):=by rw [iJ];unfold heldW;rw [if_pos h1,Int.add_zero]
theorem gG (h1:¬ (ws.getD i Wr.zero).kind=1) (hq:q=(ws.getD i Wr.zero).of.length):heldN ws k i+cntO (ws.getD i Wr.zero).of k q=heldN ws k (i+1):=by rw [iJ];unfold heldW;rw [if_neg h1,hq]
theorem lK (hx:0≤l.getD q 0) (hj:j<1):cput (fun k _ => .int .i64 (heldN ws k i+cntO l k q)) (l.getD q 0).toNat 0 (.int .i64 (heldN ws (l.getD q 0).toNat i+cntO l (l.getD q 0).toNat q+1)) k j = .int .i64 (heldN ws k i+cntO l k (q+1)):=by
  have e:cntO l k (q+1)=cntO l k q+(if l.getD q 0=(k:Int) then 1 else 0):=rfl
  unfold cput
  rw [e]
  by_cases h:k=(l.getD q 0).toNat
  · rw [if_pos ⟨h,by omega⟩,if_pos (by omega),←h,Int.add_assoc]
  · rw [if_neg (fun h9=>h h9.1),if_neg (by omega),Int.add_zero]
end
theorem jY {ws:List Wr}:((List.range (ws.length-1)).map fun q=>heldN ws (q+1) ws.length).length=ws.length-1:=by rw [List.length_map,List.length_range]
theorem qM {ws:List Wr}:(((List.range (ws.length-1)).map fun q=>heldN ws (q+1) ws.length).any fun n=>!decide (n=1))=(List.range (ws.length-1)).any fun q=>!decide (heldN ws (q+1) ws.length=1):=by rw [List.any_map];rfl
theorem Eh {ws:List Wr} {q:Nat} (h:q<ws.length-1):((List.range (ws.length-1)).map fun q=>heldN ws (q+1) ws.length).getD q 0=heldN ws (q+1) ws.length:=by
  rw [List.getD_eq_getElem?_getD,List.getElem?_eq_getElem (by rw [jY];exact h),Option.getD_some,List.getElem_map,List.getElem_range]
theorem Ei {ws:List Wr} {w:World} {A:Option Addr} (h:InS w noF 1 A ws.length (fun k _ => .int .i64 (heldN ws k ws.length))) (hw:1≤ws.length):InS w noF 1 (cutA A ws.length 1 1) ((List.range (ws.length-1)).map fun q=>heldN ws (q+1) ws.length).length (icl ((List.range (ws.length-1)).map fun q=>heldN ws (q+1) ws.length)):=by
  rw [jY]
  refine (h.cut (lo:=1) (hi:=ws.length) hw (Nat.le_refl _) (Nat.le_refl _)).congr fun k j hk hj=>?_
  unfold icl
  rw [Eh hk,Nat.add_comm 1 k]
theorem qN (hz:Int) (sw:List Int) (SA:Option Addr) (sc:Nat) (ws:List Wr) (QA:Option Addr) (qc:Nat) (OA:Nat→Option Addr) (oc:Nat→Nat) (w:World) (hsw:InS w noF 1 SA sw.length (icl sw)) (hws:InS w noF 2 QA ws.length (cI ws OA oc)) (hof:∀ k,k<ws.length→InS w noF 1 (OA k) (ws.getD k Wr.zero).of.length (icl (ws.getD k Wr.zero).of)) (hsn:sw.length≤9223372036854775807) (hwn:ws.length≤9223372036854775807) (hofn:∀ k,k<ws.length→(ws.getD k Wr.zero).of.length≤9223372036854775807) :
    Calls Tryd.prog 32 [.agg [.int .i64 hz,.slice SA sw.length sc,.slice QA ws.length qc].toArray].toArray w (Ret (fun u w'=>u = .int .i64 (circE hz sw ws)∧St w noF [] w')):=by
 refine enter Tryd.func32 rfl Tryd.ntmps32 rfl (fun a H=>?_)
 have S:=St.start w
 refine seq_list fun K1 k1=>?_
 refine aQ H rfl S G G ?_;clear H a S;intro b1 _ a hb1 hbw1 S H
 refine ls 1 H<|sr 1 rfl<|sE ?_;clear H a;intro a H
 refine k1 _ _ ?_;clear k1 K1
 replace H:=H.keep [1] rfl
 refine seq_list fun K2 k2=>?_
 refine ls 28 H<|sf gU rfl<|sl S 0 aF G G G<|sr 2 rfl<|sg 3 3 12 15 true G G (fun hg4=>sy hg4<|sf gU rfl<|sy hg4<|sl S 0 aF G G G<|sy hg4<|sr 1 rfl<|sz 3 G G G)<|sa G G G<|sf dG rfl<|sl S 0 bD G G G<|sL aR rfl<|sr 2 rfl<|sg 4 12 21 25 true G G (fun hg13=>sy hg13<|sf dG rfl<|sy hg13<|sl S 0 bD G G G<|sy hg13<|sL aR rfl<|sy hg13<|sr 1 rfl<|sz 4 G G G)<|sa G G G<|sf cT rfl<|sl S 0 dQ G G G<|sL eN rfl<|sr 2 rfl<|sg 4 22 31 35 true G G (fun hg23=>sy hg23<|sf cT rfl<|sy hg23<|sl S 0 dQ G G G<|sy hg23<|sL eN rfl<|sy hg23<|sr 1 rfl<|sz 4 G G G)<|sa G G G<|sE ?_;clear H a;intro a H
 refine aX H rfl S wW Df Po G G G G G G G G G ?_;clear H a S;intro A1 _ a hA1 S H
 replace S:=S.recell (i:=0) rfl (cell':=bcl [(decide (1≤hz)&&decide (hz≤8)),(decide (1≤(sw.length:Int))&&decide ((sw.length:Int)≤12)),(decide (1≤(ws.length:Int))&&decide ((ws.length:Int)≤24))]) (Lt G G G)
 refine ls 1 H<|sr 1 rfl<|sE ?_;clear H a;intro a H
 refine k2 _ _ ?_;clear k2 K2
 refine wp_seq_k fun K3 k3=>?_
 replace H:=H.keep [1,3] rfl
 refine seq_list fun K4 k4=>?_
 refine ls 1 H<|sr 1 rfl<|sE ?_;clear H a;intro a H
 refine aA H G G Tryd.func46 G G (pZ [(decide (1≤hz)&&decide (hz≤8)),(decide (1≤(sw.length:Int))&&decide ((sw.length:Int)≤12)),(decide (1≤(ws.length:Int))&&decide ((ws.length:Int)≤24))] _ _ _ (ownM.inS S (i:=0) rfl) (by simp)) ?_;clear H a
 rintro _ _ a ⟨rfl,S2⟩ H
 replace S:=S.call S2;clear S2
 rw [Lu] at H
 refine ls 1 H<|sr 1 rfl<|sE ?_;clear H a;intro a H
 apply cJ (i:=2) (g:=40) (t:=44) (b:=false) 4 H S G G (by kernel_rfl) (by kernel_rfl) G G
 case h1=>
  intro hg3
  refine ls 3 H<|sy hg3<|sf dG rfl<|sy hg3<|sl S 1 bD G G G<|sy hg3<|sr 1 rfl<|sE ?_;intro a H
  refine cV H G G (by assumption) ?_
  have S1:=(S.sel [1] G G)
  refine aA H G G Tryd.func47 G G (Ia hz sw SA sc ws QA qc b1 _ _ S1.startR (hsw.nowR S1) hsn (by have:=gX (hz:=hz) (sw:=sw) (ws:=ws) (by simpa using hg3);omega)) ?_
  rintro _ _ a ⟨rfl,S2⟩ H
  replace S:=(S.sel [1,0] G G).callR (M:=[_]) S2;clear S1 S2
  exact wpList_nil ⟨H.strip 4 G G,(S.sel [1,0] G G)⟩
 clear H a S;intro a _ H S
 refine ls 1 H<|so G G G<|sE ?_;clear H a;intro a H
 refine k4 _ _ ?_;clear k4 K4
 refine cond_ H rfl (fun hc1=>?_) (fun hc1=>?_)
 ·skip
  try simp only [o1,o2,o3,o4,o5,o6,o7,o8,o9,oa] at hc1
  refine sS H fun K5 k5=>sr 1 rfl<|sE ?_;clear H a;intro a H
  refine k5 _ ?_;clear k5 K5
  refine wp_ret ?_
  refine ret1 (fn:=Tryd.f32) rfl H rfl ?_
  rw [show circE hz sw ws=30 from hc1.elim dN dO];exact ⟨rfl,(S.sel [] G G)⟩
 try simp only [o1,o2,o3,o4,o5,o6,o7,o8,o9,oa] at hc1
 refine wp_skip ?_
 refine k3 _ _ ?_
 obtain ⟨hS1,hS2,hS3⟩:=gX hc1.1
 replace H:=H.keep [1] rfl
 refine seq_list fun K6 k6=>?_
 refine ls 3 H<|sf cT rfl<|sl S 1 dQ G G G<|sL eN rfl<|sE ?_;clear H a;intro a H
 refine jO (n:=ws.length) H rfl S aR bE fO oR rfl (by decide) G G (by omega) (by omega) ?_;clear H a S;intro A2 _ a hA2 S H
 generalize A2=AH at S H
 replace S:=S.recell (i:=0) rfl (cell':=fun k _ => .int .i64 (heldN ws k 0)) (fun k j _ hj=>by
   obtain rfl:j=0:=by omega
   rfl)
 refine ls 1 H<|sr 1 rfl<|sE ?_;clear H a;intro a H
 refine k6 _ _ ?_;clear k6 K6
 refine wp_seq_k fun K7 k7=>?_
 refine sS H fun K8 k8=>sf cT rfl<|sl S 2 dQ G G G<|sL eN rfl<|sr 1 rfl<|sE ?_;clear H a;intro a H
 refine k8 _ ?_;clear k8 K8
 refine wp_block ?_
 refine loop_st (X:=Nat) (R0:=_) [1,4,51,52] H rfl (fun i=>[(53,.int .i64 (i:Int))]) (fun i=>[ownM 3 1 AH ws.length ws.length (fun k _ => .int .i64 (heldN ws k i))]) (fun g i=>i≤ws.length∧g+i=ws.length∧∀ q,q<i→wrOk sw.length ws.length ws q=true) (ws.length) 0 ?_ (S.sel [0,1,2] G G) (H.keep [53,1,4,51,52] rfl) ?_
 · exact ⟨by omega,by omega,fun q hq=>absurd hq (Nat.not_lt_zero q)⟩
 clear H S a
 intro g1 x1 a w1 hp S H K9 k9
 obtain ⟨i,rfl⟩:∃ y,y=x1:=⟨_,rfl⟩
 obtain ⟨hi1,hi2,hwk⟩:=hp
 refine sS H fun K10 k10=>sr 1 rfl<|sE ?_;clear H a;intro a H
 refine k10 _ ?_;clear k10 K10
 refine wp_seq_k fun K11 k11=>?_
 refine condL H rfl (fun hc2=>?_) (fun hc2=>?_)
 ·skip
  refine wp_skip ?_
  refine k11 _ _ ?_
  refine wp_seq_k fun K12 k12=>?_
  refine wp_block ?_
  refine seq_list fun K13 k13=>?_
  refine ls 3 H<|sr 1 rfl<|si eN jB G G (hws.adr (by omega)) (by omega)<|sd ((aZ wU jB rfl S hws (by omega) (by omega)))<|sE ?_;clear H a;intro a H
  refine aI H rfl S uQ ?_;clear H a S;intro b6 _ a hb6 hbw6 S H
  refine ls 1 H<|sr 1 rfl<|sE ?_;clear H a;intro a H
  refine aD H S (i:=0) G G G G jB G G ?_
  clear H a S;intro _ a S H
  refine k13 _ _ ?_;clear k13 K13
  refine sS H fun K14 k14=>sf sH rfl<|sl S 0 aF G G G<|sE ?_;clear H a;intro a H
  refine k14 _ ?_;clear k14 K14
  refine wp_block ?_
  replace H:=H.keep [1,4,5,6,51,52,53,59] rfl
  refine sS H fun K15 k15=>sr 2 rfl<|sE ?_;clear H a;intro a H
  refine k15 _ ?_;clear k15 K15
  refine condE H rfl (fun hc3=>?_) (fun hc3=>?_)
  ·skip
   replace H:=H.keep [1,4,6,51,52,53] rfl
   refine seq_list fun K16 k16=>?_
   refine ls 5 H<|sf cA rfl<|sl S 0 bD G G G<|sL aR rfl<|sr 2 rfl<|sE ?_;clear H a;intro a H
   apply cJ (i:=4) (g:=66) (t:=73) (b:=false) 7 H S G G (by kernel_rfl) (by kernel_rfl) G G
   case h1=>
    intro hg5
    refine ls 5 H<|sy hg5<|sf cA rfl<|sy hg5<|sl S 0 bD G G G<|sy hg5<|sf dG rfl<|sy hg5<|sl S 3 bD G G G<|sy hg5<|sL aR rfl<|sE ?_;intro a H
    refine cV H G G (by assumption) ?_
    refine aA H G G Tryd.func31 G G (fI (ws.getD i Wr.zero).of (OA i) (oc i) _ _ _ ((hof i (by omega)).now S) (hofn i (by omega)) (by omega) (by omega)) ?_
    rintro _ _ a ⟨rfl,S2⟩ H
    replace S:=S.call S2;clear S2
    refine ls 1 H<|sy hg5<|sr 1 rfl<|sE ?_;intro a H
    exact wpList_nil ⟨H.strip 7 G G,(S.sel [0,1,2,3] G G)⟩
   clear H a S;intro a _ H S
   refine ls 1 H<|so G G G<|sE ?_;clear H a;intro a H
   refine k16 _ _ ?_;clear k16 K16
   refine cond_ H rfl (fun hc4=>?_) (fun hc4=>?_)
   ·skip
    try simp only [o1,o2,o3,o4,o5,o6,o7,o8,o9,oa] at hc4
    replace H:=H.keep [] rfl
    refine sS H fun K17 k17=>sr 1 rfl<|sE ?_;clear H a;intro a H
    refine k17 _ ?_;clear k17 K17
    refine wp_ret ?_
    refine ret1 (fn:=Tryd.f32) rfl H rfl ?_
    rw [aV (by omega) (cP hc3 hc4)];exact ⟨rfl,(S.sel [] G G)⟩
   try simp only [o1,o2,o3,o4,o5,o6,o7,o8,o9,oa] at hc4
   refine wp_skip ?_
   refine k12 _ _ ?_
   replace S:=S.recell (i:=1) rfl (cell':=fun k _ => .int .i64 (heldN ws k (i+1))) (fun k j _ _=>congrArg (Value.int .i64) (by first|exact iA hc3|exact gG hc3 (by omega)))
   refine sO H<|sd (aK G G (by unfold i64ok;omega))<|sr 1 rfl<|sE ?_;clear H a;intro a H
   exact k9 (g1-1) (i+1) a _ (by omega) (⟨by omega,by omega,fun q hq=>if h9:q<i then hwk q h9 else by
         obtain rfl:q=i:=by omega
         first|exact mC hc3 (by omega) hc4.2|exact eD hc3 (.inl hc5) (by omega) hc7.2|exact eD hc3 (.inr hc9) (by omega) hc10.2⟩) (S.sel [1,2,3] G G) (H.keep [53,1,4,51,52] rfl)
  refine wp_seq_k fun K19 k19=>?_
  refine sS H fun K20 k20=>sr 2 rfl<|sE ?_;clear H a;intro a H
  refine k20 _ ?_;clear k20 K20
  refine condE H rfl (fun hc5=>?_) (fun hc5=>?_)
  ·skip
   refine wp_skip ?_
   refine k19 _ _ ?_
   refine cond_ H rfl (fun hc6=>?_) (fun hc6=>?_)
   ·skip
    try simp only [o1,o2,o3,o4,o5,o6,o7,o8,o9,oa] at hc6
    refine wp_seq_k fun K21 k21=>?_
    replace H:=H.keep [1,4,5,6,51,52,53] rfl
    refine seq_list fun K22 k22=>?_
    refine ls 11 H<|sf cA rfl<|sl S 0 bD G G G<|sL aR rfl<|sr 2 rfl<|sg 4 4 82 86 false G G (fun hg5=>sy hg5<|sf cA rfl<|sy hg5<|sl S 0 bD G G G<|sy hg5<|sL aR rfl<|sy hg5<|sr 1 rfl<|sz 4 G G G)<|so G G G<|sr 1 rfl<|sE ?_;clear H a;intro a H
    apply cJ (i:=10) (g:=88) (t:=97) (b:=false) 9 H S G G (by kernel_rfl) (by kernel_rfl) G G
    case h1=>
     intro hg11
     refine ls 7 H<|sy hg11<|sf cA rfl<|sy hg11<|sl S 0 bD G G G<|sy hg11<|sr 1 rfl<|sy hg11<|sd (aK G G (by unfold i64ok;omega))<|sy hg11<|sf cT rfl<|sy hg11<|sl S 3 dQ G G G<|sy hg11<|sL eN rfl<|sE ?_;intro a H
     refine cV H G G (by assumption) ?_
     refine aA H G G Tryd.func31 G G (fI (ws.getD i Wr.zero).of (OA i) (oc i) _ _ _ ((hof i (by omega)).now S) (hofn i (by omega)) (by omega) (by omega)) ?_
     rintro _ _ a ⟨rfl,S2⟩ H
     replace S:=S.call S2;clear S2
     refine ls 1 H<|sy hg11<|sr 1 rfl<|sE ?_;intro a H
     exact wpList_nil ⟨H.strip 9 G G,(S.sel [0,1,2,3] G G)⟩
    clear H a S;intro a _ H S
    refine ls 1 H<|so G G G<|sE ?_;clear H a;intro a H
    refine k22 _ _ ?_;clear k22 K22
    refine cond_ H rfl (fun hc7=>?_) (fun hc7=>?_)
    ·skip
     try simp only [o1,o2,o3,o4,o5,o6,o7,o8,o9,oa] at hc7
     replace H:=H.keep [] rfl
     refine sS H fun K23 k23=>sr 1 rfl<|sE ?_;clear H a;intro a H
     refine k23 _ ?_;clear k23 K23
     refine wp_ret ?_
     refine ret1 (fn:=Tryd.f32) rfl H rfl ?_
     rw [aV (by omega) (bC hc3 (.inl hc5) hc7)];exact ⟨rfl,(S.sel [] G G)⟩
    try simp only [o1,o2,o3,o4,o5,o6,o7,o8,o9,oa] at hc7
    refine wp_skip ?_
    refine k21 _ _ ?_
    refine sS H fun K24 k24=>sf cA rfl<|sl S 0 bD G G G<|sL aR rfl<|sr 1 rfl<|sE ?_;clear H a;intro a H
    refine k24 _ ?_;clear k24 K24
    refine wp_block ?_
    replace S:=S.recell (i:=1) rfl (cell':=fun k _ => .int .i64 (heldN ws k i+cntO (ws.getD i Wr.zero).of k 0)) (fun k j _ hj=>congrArg (Value.int .i64) (Int.add_zero _).symm)
    refine loop_st (X:=Nat) (R0:=_) [1,4,51,52,53,100,101] H rfl (fun q=>[(102,.int .i64 (q:Int))]) (fun q=>[ownM 3 1 AH ws.length ws.length (fun k _ => .int .i64 (heldN ws k i+cntO (ws.getD i Wr.zero).of k q))]) (fun g q=>q≤(ws.getD i Wr.zero).of.length∧g+q=(ws.getD i Wr.zero).of.length) ((ws.getD i Wr.zero).of.length) 0 ?_ (S.sel [1,0,2,3] G G) (H.keep [102,1,4,51,52,53,100,101] rfl) ?_
    · exact ⟨by omega,by omega⟩
    clear H S a
    intro g2 x2 a w2 hp S H K25 k25
    obtain ⟨q,rfl⟩:∃ y,y=x2:=⟨_,rfl⟩
    refine sS H fun K26 k26=>sr 1 rfl<|sE ?_;clear H a;intro a H
    refine k26 _ ?_;clear k26 K26
    refine wp_seq_k fun K27 k27=>?_
    refine condL H rfl (fun hc8=>?_) (fun hc8=>?_)
    ·skip
     refine wp_skip ?_
     refine k27 _ _ ?_
     refine wp_seq_k fun K28 k28=>?_
     refine wp_block ?_
     refine sS H fun K29 k29=>si aR bE G G ((hof i (by omega)).adr (by omega)) (by omega)<|slm aF rfl ((hof i (by omega)).rd S (by omega) (by omega))<|sr 1 rfl<|sE ?_;clear H a;intro a H
     refine k29 _ ?_;clear k29 K29
     have hhb:=nK (sw:=sw) (ws:=ws) ((ws.getD i Wr.zero).of.getD q 0).toNat i hwk
     have hcb:=lJ (l:=(ws.getD i Wr.zero).of) (k:=((ws.getD i Wr.zero).of.getD q 0).toNat) q
     have hxb:(i:Int)+1≤(ws.getD i Wr.zero).of.getD q 0∧(ws.getD i Wr.zero).of.getD q 0<(ws.length:Int):=by first|exact gM hc7.2 (k:=q) (by omega)|exact gM hc10.2 (k:=q) (by omega)
     replace H:=H.keep [1,4,8,51,52,53,100,101,102] rfl
     refine one_list ?_
     refine ls 6 H<|sr 2 rfl<|sI aR bE G G (ownM.adr S (i:=0) rfl (by omega)) (by omega) (by omega)<|slm aF rfl (ownM.rd S (i:=0) rfl (by omega) (by omega))<|sd (aK G G (by unfold i64ok;omega))<|sI aR bE G G (ownM.adr S (i:=0) rfl (by omega)) (by omega) (by omega)<|sE ?_;clear H a;intro a H
     refine bX H S (i:=0) G G G (by omega) (by omega) bE rfl ?_
     clear H a S;intro _ a S H
     replace S:=S.recell (i:=0) rfl (cell':=fun k _ => .int .i64 (heldN ws k i+cntO (ws.getD i Wr.zero).of k (q+1))) (fun k j _ hj=>lK (by omega) hj)
     refine k28 _ _ ?_
     refine sO H<|sd (aK G G (by unfold i64ok;omega))<|sr 1 rfl<|sE ?_;clear H a;intro a H
     exact k25 (g2-1) (q+1) a _ (by omega) (⟨by omega,by omega⟩) (S.sel [0,1,2,3] G G) (H.keep [102,1,4,51,52,53,100,101] rfl)
    refine wp_exit ?_
    refine k12 _ _ ?_
    replace S:=S.recell (i:=0) rfl (cell':=fun k _ => .int .i64 (heldN ws k (i+1))) (fun k j _ _=>congrArg (Value.int .i64) (by first|exact iA hc3|exact gG hc3 (by omega)))
    replace H:=H.keep [1,4,51,52,53] rfl
    refine sO H<|sd (aK G G (by unfold i64ok;omega))<|sr 1 rfl<|sE ?_;clear H a;intro a H
    exact k9 (g1-1) (i+1) a _ (by omega) (⟨by omega,by omega,fun q hq=>if h9:q<i then hwk q h9 else by
          obtain rfl:q=i:=by omega
          first|exact mC hc3 (by omega) hc4.2|exact eD hc3 (.inl hc5) (by omega) hc7.2|exact eD hc3 (.inr hc9) (by omega) hc10.2⟩) (S.sel [0,2,3] G G) (H.keep [53,1,4,51,52] rfl)
   try simp only [o1,o2,o3,o4,o5,o6,o7,o8,o9,oa] at hc6
   refine sS H fun K33 k33=>sr 1 rfl<|sE ?_;clear H a;intro a H
   refine k33 _ ?_;clear k33 K33
   refine wp_ret ?_
   refine ret1 (fn:=Tryd.f32) rfl H rfl ?_
   exact absurd hc5 hc6
  refine sO H<|sr 2 rfl<|sE ?_;clear H a;intro a H
  refine k19 _ _ ?_
  refine condE H rfl (fun hc9=>?_) (fun hc9=>?_)
  ·skip
   refine wp_seq_k fun K35 k35=>?_
   replace H:=H.keep [1,4,5,6,51,52,53] rfl
   refine seq_list fun K36 k36=>?_
   refine ls 11 H<|sf cA rfl<|sl S 0 bD G G G<|sL aR rfl<|sr 2 rfl<|sg 4 4 82 86 false G G (fun hg5=>sy hg5<|sf cA rfl<|sy hg5<|sl S 0 bD G G G<|sy hg5<|sL aR rfl<|sy hg5<|sr 1 rfl<|sz 4 G G G)<|so G G G<|sr 1 rfl<|sE ?_;clear H a;intro a H
   apply cJ (i:=10) (g:=88) (t:=97) (b:=false) 9 H S G G (by kernel_rfl) (by kernel_rfl) G G
   case h1=>
    intro hg11
    refine ls 7 H<|sy hg11<|sf cA rfl<|sy hg11<|sl S 0 bD G G G<|sy hg11<|sr 1 rfl<|sy hg11<|sd (aK G G (by unfold i64ok;omega))<|sy hg11<|sf cT rfl<|sy hg11<|sl S 3 dQ G G G<|sy hg11<|sL eN rfl<|sE ?_;intro a H
    refine cV H G G (by assumption) ?_
    refine aA H G G Tryd.func31 G G (fI (ws.getD i Wr.zero).of (OA i) (oc i) _ _ _ ((hof i (by omega)).now S) (hofn i (by omega)) (by omega) (by omega)) ?_
    rintro _ _ a ⟨rfl,S2⟩ H
    replace S:=S.call S2;clear S2
    refine ls 1 H<|sy hg11<|sr 1 rfl<|sE ?_;intro a H
    exact wpList_nil ⟨H.strip 9 G G,(S.sel [0,1,2,3] G G)⟩
   clear H a S;intro a _ H S
   refine ls 1 H<|so G G G<|sE ?_;clear H a;intro a H
   refine k36 _ _ ?_;clear k36 K36
   refine cond_ H rfl (fun hc10=>?_) (fun hc10=>?_)
   ·skip
    try simp only [o1,o2,o3,o4,o5,o6,o7,o8,o9,oa] at hc10
    replace H:=H.keep [] rfl
    refine sS H fun K37 k37=>sr 1 rfl<|sE ?_;clear H a;intro a H
    refine k37 _ ?_;clear k37 K37
    refine wp_ret ?_
    refine ret1 (fn:=Tryd.f32) rfl H rfl ?_
    rw [aV (by omega) (bC hc3 (.inr hc9) hc10)];exact ⟨rfl,(S.sel [] G G)⟩
   try simp only [o1,o2,o3,o4,o5,o6,o7,o8,o9,oa] at hc10
   refine wp_skip ?_
   refine k35 _ _ ?_
   refine sS H fun K38 k38=>sf cA rfl<|sl S 0 bD G G G<|sL aR rfl<|sr 1 rfl<|sE ?_;clear H a;intro a H
   refine k38 _ ?_;clear k38 K38
   refine wp_block ?_
   replace S:=S.recell (i:=1) rfl (cell':=fun k _ => .int .i64 (heldN ws k i+cntO (ws.getD i Wr.zero).of k 0)) (fun k j _ hj=>congrArg (Value.int .i64) (Int.add_zero _).symm)
   refine loop_st (X:=Nat) (R0:=_) [1,4,51,52,53,100,101] H rfl (fun q=>[(102,.int .i64 (q:Int))]) (fun q=>[ownM 3 1 AH ws.length ws.length (fun k _ => .int .i64 (heldN ws k i+cntO (ws.getD i Wr.zero).of k q))]) (fun g q=>q≤(ws.getD i Wr.zero).of.length∧g+q=(ws.getD i Wr.zero).of.length) ((ws.getD i Wr.zero).of.length) 0 ?_ (S.sel [1,0,2,3] G G) (H.keep [102,1,4,51,52,53,100,101] rfl) ?_
   · exact ⟨by omega,by omega⟩
   clear H S a
   intro g3 x3 a w3 hp S H K39 k39
   obtain ⟨q,rfl⟩:∃ y,y=x3:=⟨_,rfl⟩
   refine sS H fun K40 k40=>sr 1 rfl<|sE ?_;clear H a;intro a H
   refine k40 _ ?_;clear k40 K40
   refine wp_seq_k fun K41 k41=>?_
   refine condL H rfl (fun hc11=>?_) (fun hc11=>?_)
   ·skip
    refine wp_skip ?_
    refine k41 _ _ ?_
    refine wp_seq_k fun K42 k42=>?_
    refine wp_block ?_
    refine sS H fun K43 k43=>si aR bE G G ((hof i (by omega)).adr (by omega)) (by omega)<|slm aF rfl ((hof i (by omega)).rd S (by omega) (by omega))<|sr 1 rfl<|sE ?_;clear H a;intro a H
    refine k43 _ ?_;clear k43 K43
    have hhb:=nK (sw:=sw) (ws:=ws) ((ws.getD i Wr.zero).of.getD q 0).toNat i hwk
    have hcb:=lJ (l:=(ws.getD i Wr.zero).of) (k:=((ws.getD i Wr.zero).of.getD q 0).toNat) q
    have hxb:(i:Int)+1≤(ws.getD i Wr.zero).of.getD q 0∧(ws.getD i Wr.zero).of.getD q 0<(ws.length:Int):=by first|exact gM hc7.2 (k:=q) (by omega)|exact gM hc10.2 (k:=q) (by omega)
    replace H:=H.keep [1,4,8,51,52,53,100,101,102] rfl
    refine one_list ?_
    refine ls 6 H<|sr 2 rfl<|sI aR bE G G (ownM.adr S (i:=0) rfl (by omega)) (by omega) (by omega)<|slm aF rfl (ownM.rd S (i:=0) rfl (by omega) (by omega))<|sd (aK G G (by unfold i64ok;omega))<|sI aR bE G G (ownM.adr S (i:=0) rfl (by omega)) (by omega) (by omega)<|sE ?_;clear H a;intro a H
    refine bX H S (i:=0) G G G (by omega) (by omega) bE rfl ?_
    clear H a S;intro _ a S H
    replace S:=S.recell (i:=0) rfl (cell':=fun k _ => .int .i64 (heldN ws k i+cntO (ws.getD i Wr.zero).of k (q+1))) (fun k j _ hj=>lK (by omega) hj)
    refine k42 _ _ ?_
    refine sO H<|sd (aK G G (by unfold i64ok;omega))<|sr 1 rfl<|sE ?_;clear H a;intro a H
    exact k39 (g3-1) (q+1) a _ (by omega) (⟨by omega,by omega⟩) (S.sel [0,1,2,3] G G) (H.keep [102,1,4,51,52,53,100,101] rfl)
   refine wp_exit ?_
   refine k12 _ _ ?_
   replace S:=S.recell (i:=0) rfl (cell':=fun k _ => .int .i64 (heldN ws k (i+1))) (fun k j _ _=>congrArg (Value.int .i64) (by first|exact iA hc3|exact gG hc3 (by omega)))
   replace H:=H.keep [1,4,51,52,53] rfl
   refine sO H<|sd (aK G G (by unfold i64ok;omega))<|sr 1 rfl<|sE ?_;clear H a;intro a H
   exact k9 (g1-1) (i+1) a _ (by omega) (⟨by omega,by omega,fun q hq=>if h9:q<i then hwk q h9 else by
         obtain rfl:q=i:=by omega
         first|exact mC hc3 (by omega) hc4.2|exact eD hc3 (.inl hc5) (by omega) hc7.2|exact eD hc3 (.inr hc9) (by omega) hc10.2⟩) (S.sel [0,2,3] G G) (H.keep [53,1,4,51,52] rfl)
  refine sS H fun K47 k47=>sr 1 rfl<|sE ?_;clear H a;intro a H
  refine k47 _ ?_;clear k47 K47
  refine wp_ret ?_
  refine ret1 (fn:=Tryd.f32) rfl H rfl ?_
  rw [aV (by omega) (eE hc3 hc5 hc9)];exact ⟨rfl,(S.sel [] G G)⟩
 refine wp_exit ?_
 refine k7 _ _ ?_
 refine wp_seq_k fun K48 k48=>?_
 obtain rfl:i=ws.length:=by omega
 replace H:=H.keep [4] rfl
 refine seq_list fun K49 k49=>?_
 refine ls 5 H<|sr 1 rfl<|sI aR bE G G (ownM.adr S (i:=0) rfl (by omega)) (by omega) (by omega)<|slm aF rfl (ownM.rd S (i:=0) rfl (by omega) (by omega))<|sr 2 rfl<|sE ?_;clear H a;intro a H
 apply cJ (i:=4) (g:=118) (t:=121) (b:=false) 3 H S G G (by kernel_rfl) (by kernel_rfl) G G
 case h1=>
  intro hg5
  refine ls 2 H<|sy hg5<|sr 1 rfl<|sy hg5<|sd (Does.to (wR aR bE rfl (lo:=1) (hi:=ws.length) (.inr ⟨_,rfl,_,rfl⟩) (.inl ⟨rfl,rfl⟩) (by omega) (by omega)) (show _=Value.slice (cutA AH ws.length 1 1) ((List.range (ws.length-1)).map fun q=>heldN ws (q+1) ws.length).length (ws.length-1) from by rw [jY]))<|sE ?_;intro a H
  refine cV H G G (by assumption) ?_
  refine aA H G G Tryd.func47 G G (Ib ((List.range (ws.length-1)).map fun q=>heldN ws (q+1) ws.length) (cutA AH ws.length 1 1) (ws.length-1) _ (Ei (ownM.inS S (i:=0) rfl) (by omega)) (by rw [jY];omega)) ?_
  rintro _ _ a ⟨rfl,S2⟩ H
  replace S:=S.call S2;clear S2
  exact wpList_nil ⟨H.strip 3 G G,(S.sel [0,1,2] G G)⟩
 clear H a S;intro a _ H S
 refine ls 1 H<|so G G G<|sE ?_;clear H a;intro a H
 refine k49 _ _ ?_;clear k49 K49
 refine cond_ H rfl (fun hc12=>?_) (fun hc12=>?_)
 ·skip
  try simp only [o1,o2,o3,o4,o5,o6,o7,o8,o9,oa] at hc12
  replace H:=H.keep [] rfl
  refine sS H fun K50 k50=>sr 1 rfl<|sE ?_;clear H a;intro a H
  refine k50 _ ?_;clear k50 K50
  refine wp_ret ?_
  refine ret1 (fn:=Tryd.f32) rfl H rfl ?_
  rw [show circE hz sw ws=30 from hc12.elim Ef (fun h=>uT (by rw [←qM];exact h))];exact ⟨rfl,(S.sel [] G G)⟩
 try simp only [o1,o2,o3,o4,o5,o6,o7,o8,o9,oa] at hc12
 refine wp_skip ?_
 refine k48 _ _ ?_
 refine sS H fun K51 k51=>sr 1 rfl<|sE ?_;clear H a;intro a H
 refine k51 _ ?_;clear k51 K51
 refine wp_ret ?_
 refine ret1 (fn:=Tryd.f32) rfl H rfl ?_
 rw [uU hc1.1 hc1.2 hwk hc12.1 (by rw [←qM];exact hc12.2)];exact ⟨rfl,(S.sel [] G G)⟩
end
section
theorem yY {hz:Int} {sw:List Int} {ws:List Wr} (V:CirV hz sw ws):∀ k,k<ws.length→(ws.getD k Wr.zero).of.length≤9223372036854775807:=fun k hk=>by
  by_cases h:(ws.getD k Wr.zero).kind=1
  · have:=V.one k hk h;omega
  · have:=V.more k hk h;omega
def hasC (l:List Int) (x:Int):Bool:=l.any fun y=>decide (x=y)
theorem Au {l:List Int} {x:Int} {k:Nat} (hk:k<l.length) (h:(l.take k).any (fun y=>decide (x=y))=false) (hx:¬ x=l.getD k 0):(l.take (k+1)).any (fun y=>decide (x=y))=false:=by
  rw [List.take_succ_eq_append_getElem hk,List.any_append,h]
  rw [List.getD_eq_getElem?_getD,List.getElem?_eq_getElem hk] at hx
  simpa using hx
theorem Ic {l:List Int} {x:Int} {k:Nat} (hk:k<l.length) (hx:x=l.getD k 0):hasC l x=true:=by
  rw [List.getD_eq_getElem?_getD,List.getElem?_eq_getElem hk] at hx
  unfold hasC
  rw [List.any_eq_true]
  exact ⟨l[k],List.getElem_mem hk,by simpa using hx⟩
def lorI (a b:Int):Int:=((a.toNat ||| b.toNat:Nat):Int)
theorem yZ {a b:Int} (ha:0≤a∧a≤2048) (hb:0≤b∧b≤2048):0≤lorI a b∧lorI a b≤4095:=by
  have:=Nat.or_lt_two_pow (x:=a.toNat) (y:=b.toNat) (n:=12) (by omega) (by omega)
  unfold lorI
  omega
section
variable {P:Program} {L:List (Nat×Value)} {w:World} {d:Option Nat} {ty:TypeId} {pos:String} {af:Array Edge} {g:Option (Nat×Bool)}
theorem Ej {x y:Operand} {xt yt:TypeId} {m k:Int} (hx:ev L x=some (.int .i64 m)) (hy:ev L y=some (.int .i64 k)) (hm:0≤m∧m≤2048) (hk:0≤k∧k≤2048) :
    Does P L ⟨d,.binOp .or xt x y yt,ty,pos,af,g⟩ w (.int .i64 (lorI m k)):=fun ρ hρ=>by
  have hb:=yZ hm hk
  obtain ⟨m,rfl⟩:∃ n:Nat,m=n:=⟨m.toNat,by omega⟩
  obtain ⟨k,rfl⟩:∃ n:Nat,k=n:=⟨k.toNat,by omega⟩
  have e0:((BitVec.ofInt 64 (m:Int) ||| BitVec.ofInt 64 (k:Int)).toNat)=m ||| k:=by
    rw [BitVec.toNat_or,BitVec.ofInt_natCast,BitVec.ofInt_natCast,BitVec.toNat_ofNat,BitVec.toNat_ofNat,Nat.mod_eq_of_lt (by omega),Nat.mod_eq_of_lt (by omega)]
  have e1:IntKind.i64.wrap ((BitVec.ofInt 64 (m:Int) ||| BitVec.ofInt 64 (k:Int)).toNat:Int)=((m ||| k:Nat):Int):=by
    rw [e0];unfold lorI at hb;rw [Int.toNat_natCast,Int.toNat_natCast] at hb;exact i64ok.eq ⟨by omega,by omega⟩
  have e:Op.intBits .or .i64 (m:Int) (k:Int)=pure (.int .i64 (lorI m k)):=by
    unfold lorI
    rw [Int.toNat_natCast,Int.toNat_natCast]
    exact congrArg (fun z=>(pure (Value.int .i64 z):Sem Value)) e1
  simp [execOp,hρ _ _ hx,hρ _ _ hy,eqGuard,binOp,e]
end
def pairB (hz:Int) (sw:List Int) (ws:List Wr) (al:List Int) (a b:Int):Bool:=(!hasC al a&&!hasC al b)&&decide (0<(wkN hz sw ws (lorI (1*2^a.toNat) (1*2^b.toNat)) hz.toNat).length)
def pcIn (hz:Int) (sw:List Int) (ws:List Wr) (al:List Int) (a:Nat):Nat→Nat
  | 0=>0
  | q+1=>if pairB hz sw ws al (a:Int) ((a:Int)+1+(q:Int))=true then pcIn hz sw ws al a q+1 else pcIn hz sw ws al a q
def pcOut (hz:Int) (sw:List Int) (ws:List Wr) (al:List Int):Nat→Nat
  | 0=>0
  | a+1=>pcOut hz sw ws al a+pcIn hz sw ws al a (sw.length-(a+1))
theorem zA {hz:Int} {sw:List Int} {ws:List Wr} {al:List Int} {a:Nat}:∀ q,pcIn hz sw ws al a q≤q:=fun q=>by
  induction q with
  | zero=>exact Nat.le_refl _
  | succ q ih=>rw [pcIn];split <;> omega
theorem Ek {hz:Int} {sw:List Int} {ws:List Wr} {al:List Int}:∀ a,pcOut hz sw ws al a≤a*sw.length:=fun a=>by
  induction a with
  | zero=>exact Nat.zero_le _
  | succ a ih=>
    have:=zA (hz:=hz) (sw:=sw) (ws:=ws) (al:=al) (a:=a) (sw.length-(a+1))
    rw [pcOut,Nat.succ_mul];omega
theorem Av (l:List Int) (A:Option Addr) (cp:Nat) (x:Int) (w:World) (hl:InS w noF 1 A l.length (icl l)) (hn:l.length≤9223372036854775807) :
    Calls Tryd.prog 44 [.slice A l.length cp,.int .i64 x].toArray w (Ret (fun u w'=>∃ n:Int,u = .int .i64 n∧decide (0≤n)=hasC l x∧St w noF [] w')):=by
 refine enter Tryd.func44 rfl Tryd.ntmps44 rfl (fun a H=>?_)
 have S:=St.start w
 refine sS H fun K1 k1=>sr 1 rfl<|sE ?_;clear H a;intro a H
 refine k1 _ ?_;clear k1 K1
 refine wp_seq_k fun K2 k2=>?_
 refine sS H fun K3 k3=>sr 1 rfl<|sL aR rfl<|sr 1 rfl<|sE ?_;clear H a;intro a H
 refine k3 _ ?_;clear k3 K3
 refine wp_block ?_
 refine loop_st (X:=Nat) (R0:=_) [0,1,7] H rfl (fun k=>[(8,.int .i64 (k:Int))]) (fun k=>[]) (fun g k=>k≤l.length∧g+k=l.length∧(l.take k).any (fun y=>decide (x=y))=false) (l.length) 0 ?_ (S.sel [] G G) (H.keep [8,0,1,7] rfl) ?_
 · exact ⟨by omega,by omega,rfl⟩
 clear H S a
 intro g1 x1 a w1 hp S H K4 k4
 obtain ⟨k,rfl⟩:∃ y,y=x1:=⟨_,rfl⟩
 refine sS H fun K5 k5=>sr 1 rfl<|sE ?_;clear H a;intro a H
 refine k5 _ ?_;clear k5 K5
 refine wp_seq_k fun K6 k6=>?_
 refine condL H rfl (fun hc1=>?_) (fun hc1=>?_)
 ·skip
  refine wp_skip ?_
  refine k6 _ _ ?_
  refine wp_seq_k fun K7 k7=>?_
  refine wp_block ?_
  refine sS H fun K8 k8=>sr 2 rfl<|sE ?_;clear H a;intro a H
  refine k8 _ ?_;clear k8 K8
  refine sS H fun K9 k9=>sr 3 rfl<|si aR bE G G (hl.adr (by omega)) (by omega)<|slm aF rfl (hl.rd S (by omega) (by omega))<|sr 1 rfl<|sE ?_;clear H a;intro a H
  refine k9 _ ?_;clear k9 K9
  refine condE H rfl (fun hc2=>?_) (fun hc2=>?_)
  ·skip
   replace H:=H.keep [5] rfl
   refine sS H fun K10 k10=>sr 2 rfl<|sE ?_;clear H a;intro a H
   refine k10 _ ?_;clear k10 K10
   refine wp_ret ?_
   refine ret1 (fn:=Tryd.f44) rfl H rfl ?_
   exact ⟨_,rfl,by rw [Ic (k:=k) (by omega) hc2];exact decide_eq_true (by omega),(S.sel [] G G)⟩
  refine wp_skip ?_
  refine k7 _ _ ?_
  refine sO H<|sd (aK G G (by unfold i64ok;omega))<|sr 1 rfl<|sE ?_;clear H a;intro a H
  exact k4 (g1-1) (k+1) a _ (by omega) (⟨by omega,by omega,Au (by omega) hp.2.2 hc2⟩) (S.sel [] G G) (H.keep [8,0,1,7] rfl)
 refine wp_exit ?_
 refine k2 _ _ ?_
 refine sS H fun K12 k12=>sr 1 rfl<|sE ?_;clear H a;intro a H
 refine k12 _ ?_;clear k12 K12
 refine wp_ret ?_
 refine ret1 (fn:=Tryd.f44) rfl H rfl ?_
 exact ⟨_,rfl,by unfold hasC;rw [←List.take_of_length_le (l:=l) (i:=k) (by omega),hp.2.2];rfl,(S.sel [] G G)⟩
theorem eT (l:List Int) (A:Option Addr) (cp:Nat) (x:Int) (w:World) (hl:InS w noF 1 A l.length (icl l)) (hn:l.length≤9223372036854775807) :
    Calls Tryd.prog 29 [.slice A l.length cp,.int .i64 x].toArray w (Ret (fun u w'=>u = .bool (hasC l x)∧St w noF [] w')):=by
 refine enter Tryd.func29 rfl Tryd.ntmps29 rfl (fun a H=>?_)
 have S:=St.start w
 refine sS H fun K1 k1=>sr 1 rfl<|sE ?_;clear H a;intro a H
 refine k1 _ ?_;clear k1 K1
 refine seq_list fun K2 k2=>?_
 refine ls 2 H<|sr 2 rfl<|sE ?_;clear H a;intro a H
 refine aA H G G Tryd.func44 G G (Av l A cp x _ (hl.now S) hn) ?_;clear H a
 rintro _ _ a ⟨n,rfl,hn2,S2⟩ H
 replace S:=S.call S2;clear S2
 refine ls 2 H<|sr 2 rfl<|sE ?_;clear H a;intro a H
 refine k2 _ _ ?_;clear k2 K2
 refine wp_ret ?_
 refine ret1 (fn:=Tryd.f29) rfl H rfl ?_
 exact ⟨congrArg Value.bool hn2,(S.sel [] G G)⟩
theorem sP (hz:Int) (sw:List Int) (SA:Option Addr) (sc:Nat) (ws:List Wr) (QA:Option Addr) (qc:Nat) (OA:Nat→Option Addr) (oc:Nat→Nat) (w:World) (hsw:InS w noF 1 SA sw.length (icl sw)) (hws:InS w noF 2 QA ws.length (cI ws OA oc)) (hof:∀ k,k<ws.length→InS w noF 1 (OA k) (ws.getD k Wr.zero).of.length (icl (ws.getD k Wr.zero).of)) (hE:circE hz sw ws=0) :
    Calls Tryd.prog 28 [.agg [.int .i64 hz,.slice SA sw.length sc,.slice QA ws.length qc].toArray].toArray w (Ret (fun u w'=>∃ A' c',u = .tuple #[.slice A' (critN hz sw ws sw.length).length c',.int .i64 0]∧St w noF [ownM 3 1 A' (critN hz sw ws sw.length).length c' (icl (critN hz sw ws sw.length))] w')):=by
 have V:=eI (iI hE)
 have hns:=V.nsw
 have hnw:=V.nws
 have hzb:=V.hzb
 have hof9:=yY V
 refine enter Tryd.func28 rfl Tryd.ntmps28 rfl (fun a H=>?_)
 have S:=St.start w
 refine seq_list fun K1 k1=>?_
 refine aQ H rfl S G G ?_;clear H a S;intro b1 _ a hb1 hbw1 S H
 refine ls 2 H<|sr 2 rfl<|sE ?_;clear H a;intro a H
 refine k1 _ _ ?_;clear k1 K1
 refine wp_seq_k fun K2 k2=>?_
 refine seq_list fun K3 k3=>?_
 refine ls 1 H<|sd ((aC bR bO rfl S (i:=0) G G))<|sE ?_;clear H a;intro a H
 refine aA H G G Tryd.func32 G G (qN hz sw SA sc ws QA qc OA oc _ (hsw.now S) (hws.now S) (fun k hk=>(hof k hk).now S) (by omega) (by omega) hof9) ?_;clear H a
 rintro _ _ a ⟨rfl,S2⟩ H
 replace S:=S.call S2;clear S2
 refine ls 1 H<|sr 1 rfl<|sE ?_;clear H a;intro a H
 refine k3 _ _ ?_;clear k3 K3
 refine sS H fun K4 k4=>sr 2 rfl<|sE ?_;clear H a;intro a H
 refine k4 _ ?_;clear k4 K4
 refine condN H rfl (fun hc1=>?_) (fun hc1=>?_)
 ·skip
  replace H:=H.keep [4] rfl
  refine sS H fun K5 k5=>sr 3 rfl<|sE ?_;clear H a;intro a H
  refine k5 _ ?_;clear k5 K5
  refine wp_ret ?_
  refine ret2 (fn:=Tryd.f28) rfl H G G ?_
  exact absurd hE hc1
 refine wp_skip ?_
 refine k2 _ _ ?_
 refine sS H fun K6 k6=>sr 1 rfl<|sE ?_;clear H a;intro a H
 refine k6 _ ?_;clear k6 K6
 refine wp_seq_k fun K7 k7=>?_
 refine sS H fun K8 k8=>sf dG rfl<|sl S 0 bD G G G<|sL aR rfl<|sr 1 rfl<|sE ?_;clear H a;intro a H
 refine k8 _ ?_;clear k8 K8
 refine wp_block ?_
 replace S:=S.newNil 3 1 (icl [])
 refine loop_st (X:=Nat×List Int×Option Addr×Nat) (R0:=_) [1,14] H rfl (fun ⟨k,L9,A9,c9⟩=>[(5,.slice A9 L9.length c9),(15,.int .i64 (k:Int))]) (fun ⟨k,L9,A9,c9⟩=>[ownM 3 1 A9 L9.length c9 (icl L9)]) (fun g ⟨k,L9,A9,c9⟩=>k≤sw.length∧g+k=sw.length∧L9=critN hz sw ws k) (sw.length) (0,[],none,0) ?_ (S.sel [0,1] G G) (H.keep [5,15,1,14] rfl) ?_
 · exact ⟨by omega,by omega,rfl⟩
 clear H S a
 intro g1 x1 a w1 hp S H K9 k9
 obtain ⟨k,L9,A9,c9⟩:=x1
 dsimp only at hp S H
 refine sS H fun K10 k10=>sr 1 rfl<|sE ?_;clear H a;intro a H
 refine k10 _ ?_;clear k10 K10
 refine wp_seq_k fun K11 k11=>?_
 refine condL H rfl (fun hc2=>?_) (fun hc2=>?_)
 ·skip
  refine wp_skip ?_
  refine k11 _ _ ?_
  refine wp_seq_k fun K12 k12=>?_
  refine wp_block ?_
  refine sS H fun K13 k13=>sr 2 rfl<|sE ?_;clear H a;intro a H
  refine k13 _ ?_;clear k13 K13
  have hsh:=pwc (h:=k) (by omega)
  have hL9:L9.length≤k:=by rw [hp.2.2];exact qJ k
  replace S:=S.drew
  refine seq_wq [(0,true),(1,true),(2,true),(3,false),(4,true),(5,true)] (by kernel_rfl) (by kernel_rfl) (S.sel [0,1] G G) fun K14 k14=>?_
  refine qF H<|qd rfl (fun _ S=>(aC bR bO rfl S (i:=1) G G))<|qr 1 rfl<|qd rfl (fun _ S=>cY G G (by omega) (by omega) (by unfold i64ok;omega))<|qK ?_;clear H a;intro a H
  refine aS rfl ?_
  refine aA H G G Tryd.func30 G G (uS hz sw SA sc ws QA qc OA oc (1*2^(k:Int).toNat) _ (hsw.now S) (hws.now S) (fun k hk=>(hof k hk).now S) V (by omega)) ?_;clear H a
  rintro _ _ a ⟨A5,c5,rfl,S2⟩ H
  replace S:=S.call S2;clear S2
  refine wpList_nil (And.intro (S.sel [1,2] G G) ?_)
  refine qF H<|qd rfl (fun _ S=>cD aR rfl)<|qr 1 rfl<|qK ?_;clear H a;intro a H
  refine bK ?_
  refine k14 _ _ ?_
  clear k14 K14
  refine condL H rfl (fun hc3=>?_) (fun hc3=>?_)
  ·skip
   replace H:=H.keep [1,5,6,14,15] rfl
   refine one_list ?_
   refine ls 2 H<|sr 2 rfl<|sE ?_;clear H a;intro a H
   refine aX H rfl S aR bE fO G G G G G G G G G ?_;clear H a S;intro A1 _ a hA1 S H
   refine cG H rfl S aR bE fO oR G G (i:=2) G G G (ownM.inS S (i:=0) rfl) (fC (one rfl)) (by omega) (by omega) ?_;clear H a S;intro A2 c2 _ a S H
   replace S:=S.recell (i:=2) rfl (cell':=icl (L9++[(k:Int)])) (oV rfl)
   rw [show L9.length+1=(L9++[(k:Int)]).length by simp] at H S
   refine ls 1 H<|sr 1 rfl<|sE ?_;clear H a;intro a H
   refine k12 _ _ ?_
   refine sO H<|sd (aK G G (by unfold i64ok;omega))<|sr 1 rfl<|sE ?_;clear H a;intro a H
   exact k9 (g1-1) (k+1,_,_,_) a _ (by omega) (⟨by omega,by omega,by rw [critN];first|rw [if_pos (by omega),←hp.2.2]|rw [if_neg (by omega),←hp.2.2]⟩) (S.sel [2,3] G G) (H.keep [5,15,1,14] rfl)
  refine wp_skip ?_
  refine k12 _ _ ?_
  refine sO H<|sd (aK G G (by unfold i64ok;omega))<|sr 1 rfl<|sE ?_;clear H a;intro a H
  exact k9 (g1-1) (k+1,_,_,_) a _ (by omega) (⟨by omega,by omega,by rw [critN];first|rw [if_pos (by omega),←hp.2.2]|rw [if_neg (by omega),←hp.2.2]⟩) (S.sel [1,2] G G) (H.keep [5,15,1,14] rfl)
 refine wp_exit ?_
 refine k7 _ _ ?_
 replace H:=H.keep [5] rfl
 refine sS H fun K18 k18=>sr 3 rfl<|sE ?_;clear H a;intro a H
 refine k18 _ ?_;clear k18 K18
 refine wp_ret ?_
 refine ret2 (fn:=Tryd.f28) rfl H G G ?_
 obtain rfl:k=sw.length:=by omega
 rw [←hp.2.2]
 exact ⟨_,_,rfl,(S.sel [0] G G)⟩
end
section
def lstA (l:List Int) (i:Int):Nat→Int
  | 0=>i
  | q+1=>l.getD q 0
section
variable {hz:Int} {sw l:List Int} {ws:List Wr} {i k q:Nat}
theorem oX {lo:Int}:∀ q,lowA l (lo+1) q=lstA l lo q+1:=fun q=>by
  cases q with
  | zero=>rfl
  | succ q=>unfold lowA;rw [if_neg (by omega)];rfl
def farB (sw:List Int) (ws:List Wr):Bool:=(decide (20<(sw.length:Int))||decide (40<(ws.length:Int)))||ws.any fun x=>decide (40<x.of.length)
theorem Id (hk:k<ws.length) (h:40<(ws.getD k Wr.zero).of.length):farB sw ws=true:=by
  unfold farB
  rw [Bool.or_eq_true]
  refine .inr (List.any_eq_true.2 ⟨ws[k],List.getElem_mem hk,?_⟩)
  rw [List.getD_eq_getElem?_getD,List.getElem?_eq_getElem hk,Option.getD_some] at h
  exact decide_eq_true h
theorem Ie (h0:sw.length≤20∧ws.length≤40) (h:∀ k,k<ws.length→(ws.getD k Wr.zero).of.length≤40):farB sw ws=false:=by
  unfold farB
  rw [decide_eq_false (by omega),decide_eq_false (by omega),Bool.false_or,Bool.false_or,List.any_eq_false]
  intro x hx
  obtain ⟨k,hk,rfl⟩:=List.getElem_of_mem hx
  have:=h k hk
  rw [List.getD_eq_getElem?_getD,List.getElem?_eq_getElem hk,Option.getD_some] at this
  simp only [decide_eq_true_eq];omega
theorem Lv (h:20<(sw.length:Int)∨40<(ws.length:Int)):farB sw ws=true:=by
  unfold farB
  rcases h with h|h
  · rw [decide_eq_true h];rfl
  · rw [decide_eq_true h];simp
theorem Ig {n m:Int} (h:setB n m=true) (hm:0≤m∧m≤12):0≤n∧n≤4095:=by
  have hp:=pwh hm
  unfold setB at h
  simp only [Bool.and_eq_true,decide_eq_true_eq] at h
  omega
theorem uV {lo hi:Int} (h:∀ z,z<q→ascP l lo hi z=true) (h1:ascP l lo hi q=true):∀ z,z<q+1→ascP l lo hi z=true:=fun z hz=>by
  by_cases e:z=q
  · subst e;exact h1
  · exact h z (by omega)
theorem El {lo hi:Int}:∀ q,(∀ z,z<q→ascP l (lo+1) hi z=true)→lo≤lstA l lo q∧(lstA l lo q=lo∨lstA l lo q<hi):=fun q=>by
  induction q with
  | zero=>intro _;exact ⟨Int.le_refl _,.inl rfl⟩
  | succ q ih=>
    intro h
    have h1:=h q (by omega)
    unfold ascP at h1
    have h2:=of_decide_eq_true h1
    rw [oX] at h2
    have h3:=ih fun z hz=>h z (by omega)
    show lo≤l.getD q 0∧(l.getD q 0=lo∨l.getD q 0<hi)
    omega
theorem sQ {hi:Int} (h1:l.length=1) (h:0≤l.getD 0 0∧l.getD 0 0≤hi-1):ascB l 0 hi=true:=gC fun q hq=>by
  obtain rfl:q=0:=by omega
  unfold ascP
  exact decide_eq_true (by show (0:Int)≤_∧_;omega)
theorem eU {lo hi:Int} (h:l.getD q 0<lstA l lo q+1∨hi-1<l.getD q 0):ascP l (lo+1) hi q=false:=by
  unfold ascP;rw [oX];exact decide_eq_false (by omega)
theorem dU {k:Nat} (h:k<l.length):l.getD k 0 ∈ l:=by
  rw [List.getD_eq_getElem?_getD,List.getElem?_eq_getElem h];exact List.getElem_mem h
theorem eV (hq:q+1<ws.length) (h:¬ heldN ws ((q:Int)+1).toNat ws.length=1):circE hz sw ws=30:=uT (List.any_eq_true.2 ⟨q,List.mem_range.2 (by omega),by
  rw [show ((q:Int)+1).toNat=q+1 by omega] at h
  rw [decide_eq_false h];rfl⟩)
theorem uW {lo hi:Int} (h:lstA l lo q+1≤l.getD q 0∧l.getD q 0≤hi-1):ascP l (lo+1) hi q=true:=by
  unfold ascP;rw [oX];exact decide_eq_true (by omega)
theorem Em {lo hi:Int} (hlo:1≤lo) (h:ascB l lo hi=true):∀ n,n≤l.length→cntO l 0 n=0:=fun n=>by
  induction n with
  | zero=>intro _;rfl
  | succ n ih=>
    intro hn
    have h1:=(gM h (k:=n) (by omega)).1
    have e:cntO l 0 (n+1)=cntO l 0 n+(if l.getD n 0=((0:Nat):Int) then 1 else 0):=rfl
    rw [e,ih (by omega),if_neg (by omega)];rfl
theorem Aw:∀ i,(∀ q,q<i→wrOk sw.length ws.length ws q=true)→heldN ws 0 i=0:=fun i=>by
  induction i with
  | zero=>intro _;rfl
  | succ i ih=>
    intro h
    rw [iJ,ih (fun q hq=>h q (by omega))]
    have h2:=h i (by omega)
    unfold heldW
    split
    · rfl
    · next hk=>
      unfold wrOk at h2
      rw [if_neg hk] at h2
      split at h2
      · simp only [Bool.and_eq_true,decide_eq_true_eq] at h2
        rw [Em (by omega) h2.2 _ (Nat.le_refl _)];rfl
      · cases h2
theorem eW (h1:cirSz hz sw ws=true) (h2:∀ q,q<sw.length→setB (sw.getD q 0) hz=true) (h3:∀ i,i<ws.length→wrOk sw.length ws.length ws i=true) (h5:∀ q,1≤q→q<ws.length→heldN ws q ws.length=1):circE hz sw ws=0:=by
  refine uU h1 ?_ h3 (Aw ws.length h3) ?_
  · rw [List.any_eq_false]
    intro x hx
    obtain ⟨q,hq,rfl⟩:=List.getElem_of_mem hx
    have:=h2 q hq
    rw [List.getD_eq_getElem?_getD,List.getElem?_eq_getElem hq,Option.getD_some] at this
    rw [this];simp
  · rw [List.any_eq_false]
    intro q hq
    rw [List.mem_range] at hq
    rw [decide_eq_true (h5 (q+1) (by omega) (by omega))];simp
end
theorem cN (n lo hi:Int) (w:World) :
    Calls Tryd.prog 14 [.int .i64 n,.int .i64 lo,.int .i64 hi].toArray w (Ret (fun v w'=>v = .bool (decide (lo≤n)&&decide (n≤hi))∧w'=w)):=by
 refine enter Tryd.func14 rfl Tryd.ntmps14 rfl (fun a H=>?_)
 have S:=St.start w
 refine sS H fun K1 k1=>sr 1 rfl<|sE ?_;clear H a;intro a H
 refine k1 _ ?_;clear k1 K1
 replace H:=H.keep [0,1,2] rfl
 refine sS H fun K2 k2=>sr 4 rfl<|sg 3 3 10 13 true G G (fun hg4=>sy hg4<|sr 1 rfl<|sy hg4<|sr 1 rfl<|sy hg4<|sr 1 rfl<|sz 3 G G G)<|sa G G G<|sr 1 rfl<|sE ?_;clear H a;intro a H
 refine k2 _ ?_;clear k2 K2
 refine wp_ret ?_
 refine ret1 (fn:=Tryd.f14) rfl H rfl ?_
 exact ⟨rfl,rfl⟩
theorem Lw (hz:Int) (sw:List Int) (SA:Option Addr) (sc:Nat) (ws:List Wr) (QA:Option Addr) (qc:Nat) (OA:Nat→Option Addr) (oc:Nat→Nat) (w:World) (hsw:InS w noF 1 SA sw.length (icl sw)) (hws:InS w noF 2 QA ws.length (cI ws OA oc)) (hof:∀ k,k<ws.length→InS w noF 1 (OA k) (ws.getD k Wr.zero).of.length (icl (ws.getD k Wr.zero).of)) (hsn:sw.length≤9223372036854775807) (hwn:ws.length≤9223372036854775807) (hofn:∀ k,k<ws.length→(ws.getD k Wr.zero).of.length≤9223372036854775807) :
    Calls Tryd.prog 4 [.agg [.int .i64 hz,.slice SA sw.length sc,.slice QA ws.length qc].toArray].toArray w (Ret (fun u w'=>u = .bool (farB sw ws)∧St w noF [] w')):=by
 refine enter Tryd.func4 rfl Tryd.ntmps4 rfl (fun a H=>?_)
 have S:=St.start w
 refine seq_list fun K1 k1=>?_
 refine aQ H rfl S G G ?_;clear H a S;intro b1 _ a hb1 hbw1 S H
 refine ls 1 H<|sr 1 rfl<|sE ?_;clear H a;intro a H
 refine k1 _ _ ?_;clear k1 K1
 refine wp_seq_k fun K2 k2=>?_
 replace H:=H.keep [1] rfl
 refine sS H fun K3 k3=>sf dG rfl<|sl S 0 bD G G G<|sL aR rfl<|sr 2 rfl<|sg 4 4 8 12 false G G (fun hg5=>sy hg5<|sf cT rfl<|sy hg5<|sl S 0 dQ G G G<|sy hg5<|sL eN rfl<|sy hg5<|sr 1 rfl<|sz 4 G G G)<|so G G G<|sE ?_;clear H a;intro a H
 refine k3 _ ?_;clear k3 K3
 refine cond_ H rfl (fun hc1=>?_) (fun hc1=>?_)
 ·skip
  try simp only [o1,o2,o3,o4,o5,o6,o7,o8,o9,oa] at hc1
  replace H:=H.keep [] rfl
  refine sS H fun K4 k4=>sr 1 rfl<|sE ?_;clear H a;intro a H
  refine k4 _ ?_;clear k4 K4
  refine wp_ret ?_
  refine ret1 (fn:=Tryd.f4) rfl H rfl ?_
  rw [Lv hc1];exact ⟨rfl,(S.sel [] G G)⟩
 try simp only [o1,o2,o3,o4,o5,o6,o7,o8,o9,oa] at hc1
 refine wp_skip ?_
 refine k2 _ _ ?_
 refine wp_seq_k fun K5 k5=>?_
 refine sS H fun K6 k6=>sr 1 rfl<|sE ?_;clear H a;intro a H
 refine k6 _ ?_;clear k6 K6
 refine wp_block ?_
 refine loop_st (X:=Nat) (R0:=_) [1] H rfl (fun i=>[(3,.int .i64 (i:Int))]) (fun i=>[]) (fun g i=>i≤ws.length∧g+i=ws.length∧∀ k,k<i→(ws.getD k Wr.zero).of.length≤40) (ws.length) 0 ?_ (S.sel [0] G G) (H.keep [3,1] rfl) ?_
 · exact ⟨by omega,by omega,fun k hk=>absurd hk (Nat.not_lt_zero k)⟩
 clear H S a
 intro g1 x1 a w1 hp S H K7 k7
 obtain ⟨i,rfl⟩:∃ y,y=x1:=⟨_,rfl⟩
 refine wp_seq_k fun K8 k8=>?_
 refine sS H fun K9 k9=>sr 1 rfl<|sf cT rfl<|sl S 0 dQ G G G<|sL eN rfl<|sr 1 rfl<|sE ?_;clear H a;intro a H
 refine k9 _ ?_;clear k9 K9
 refine condL H rfl (fun hc2=>?_) (fun hc2=>?_)
 ·skip
  refine wp_skip ?_
  refine k8 _ _ ?_
  refine wp_seq_k fun K10 k10=>?_
  refine wp_block ?_
  replace H:=H.keep [1,3] rfl
  refine sS H fun K11 k11=>sf cT rfl<|sl S 0 dQ G G G<|sr 1 rfl<|si eN jB G G (hws.adr (by omega)) (by omega)<|sp cA rfl<|slm bD rfl (hws.rd S (by omega) (by omega))<|sL aR rfl<|sr 1 rfl<|sE ?_;clear H a;intro a H
  refine k11 _ ?_;clear k11 K11
  refine condL H rfl (fun hc3=>?_) (fun hc3=>?_)
  ·skip
   refine sS H fun K12 k12=>sr 1 rfl<|sE ?_;clear H a;intro a H
   refine k12 _ ?_;clear k12 K12
   refine wp_ret ?_
   refine ret1 (fn:=Tryd.f4) rfl H rfl ?_
   rw [Id (k:=i) (by omega) (by omega)];exact ⟨rfl,(S.sel [] G G)⟩
  refine wp_skip ?_
  refine k10 _ _ ?_
  replace H:=H.keep [1,3] rfl
  refine sO H<|sr 1 rfl<|sd (aK G G (by unfold i64ok;omega))<|sr 1 rfl<|sE ?_;clear H a;intro a H
  exact k7 (g1-1) (i+1) a _ (by omega) (⟨by omega,by omega,fun k hk=>if h9:k<i then hp.2.2 k h9 else by
    obtain rfl:k=i:=by omega
    omega⟩) (S.sel [0] G G) (H.keep [3,1] rfl)
 refine wp_exit ?_
 refine k5 _ _ ?_
 refine sS H fun K14 k14=>sr 1 rfl<|sE ?_;clear H a;intro a H
 refine k14 _ ?_;clear k14 K14
 refine wp_ret ?_
 refine ret1 (fn:=Tryd.f4) rfl H rfl ?_
 rw [Ie (by omega) (fun k hk=>hp.2.2 k (by omega))];exact ⟨rfl,(S.sel [] G G)⟩
theorem En (hz:Int) (sw:List Int) (SA:Option Addr) (scp:Nat) (ws:List Wr) (QA:Option Addr) (qc:Nat) (OA:Nat→Option Addr) (oc:Nat→Nat) (w:World) (hsw:InS w noF 1 SA sw.length (icl sw)) (hws:InS w noF 2 QA ws.length (cI ws OA oc)) (hof:∀ k,k<ws.length→InS w noF 1 (OA k) (ws.getD k Wr.zero).of.length (icl (ws.getD k Wr.zero).of)) (hsn:sw.length≤9223372036854775807) (hwn:ws.length≤9223372036854775807) (hofn:∀ k,k<ws.length→(ws.getD k Wr.zero).of.length≤9223372036854775807) :
    Calls Tryd.prog 12 [.agg [.int .i64 hz,.slice SA sw.length scp,.slice QA ws.length qc].toArray].toArray w (Ret (fun u w'=>u = .int .i64 (circE hz sw ws)∧St w noF [] w')):=by
 refine enter Tryd.func12 rfl Tryd.ntmps12 rfl (fun a H=>?_)
 have S:=St.start w
 refine seq_list fun K1 k1=>?_
 refine aQ H rfl S G G ?_;clear H a S;intro b1 _ a hb1 hbw1 S H
 refine ls 1 H<|sr 1 rfl<|sE ?_;clear H a;intro a H
 refine k1 _ _ ?_;clear k1 K1
 refine wp_seq_k fun K2 k2=>?_
 replace H:=H.keep [1] rfl
 refine sS H fun K3 k3=>sf gU rfl<|sl S 0 aF G G G<|sc rfl Tryd.func14 G G (cN _ _ _ _)<|sr 2 rfl<|sg 5 4 14 19 false G G (fun hg5=>sy hg5<|sf dG rfl<|sy hg5<|sl S 0 bD G G G<|sy hg5<|sL aR rfl<|sy hg5<|sc rfl Tryd.func14 G G (cN _ _ _ _)<|sy hg5<|sr 1 rfl<|sz 5 G G G)<|so G G G<|sr 1 rfl<|sg 5 11 21 26 false G G (fun hg12=>sy hg12<|sf cT rfl<|sy hg12<|sl S 0 dQ G G G<|sy hg12<|sL eN rfl<|sy hg12<|sc rfl Tryd.func14 G G (cN _ _ _ _)<|sy hg12<|sr 1 rfl<|sz 5 G G G)<|so G G G<|sE ?_;clear H a;intro a H
 refine k3 _ ?_;clear k3 K3
 refine cond_ H rfl (fun hc1=>?_) (fun hc1=>?_)
 ·skip
  try simp only [o1,o2,o3,o4,o5,o6,o7,o8,o9,oa] at hc1
  replace H:=H.keep [] rfl
  refine sS H fun K4 k4=>sr 1 rfl<|sE ?_;clear H a;intro a H
  refine k4 _ ?_;clear k4 K4
  refine wp_ret ?_
  refine ret1 (fn:=Tryd.f12) rfl H rfl ?_
  first|(rw [eW hS hset hwk (fun q9 h1 h2=>hp.2.2 q9 h1 (by omega))];exact ⟨rfl,(S.sel [] G G)⟩)|(rw [show circE hz sw ws=30 from by first|exact dN (Bool.eq_false_iff.2 fun hb=>by have h9:=gX hb;omega)|exact dO (List.any_eq_true.2 ⟨sw.getD i 0,dU (by omega),by unfold setB;simp only [Bool.not_eq_true',Bool.and_eq_false_iff,decide_eq_false_iff_not];omega⟩)|exact aV (by omega) (cP hc5 (by by_cases h9:(((ws.getD i Wr.zero).of.length:Nat):Int)=1;exact .inr (cB (k:=0) (by omega) (decide_eq_false (fun h8=>by have h7:0≤(ws.getD i Wr.zero).of.getD (Int.toNat 0) 0∧(ws.getD i Wr.zero).of.getD (Int.toNat 0) 0<(sw.length:Int):=h8;omega)));exact .inl h9))|exact aV (by omega) (eE hc5 (by assumption) (by assumption))|exact aV (by omega) (bC hc5 (by first|exact .inl (by assumption)|exact .inr (by assumption)) (.inl (by omega)))|exact aV (by omega) (bC hc5 (by first|exact .inl (by assumption)|exact .inr (by assumption)) (.inr (cB (k:=q) (by omega) (eU (by omega)))))|exact eV (q:=z) (by omega) (by assumption)];exact ⟨rfl,(S.sel [] G G)⟩)
 try simp only [o1,o2,o3,o4,o5,o6,o7,o8,o9,oa] at hc1
 have hS:cirSz hz sw ws=true:=by
   unfold cirSz
   simp only [Bool.and_eq_true,decide_eq_true_eq]
   omega
 obtain ⟨hS1,hS2,hS3⟩:=gX hS
 refine wp_skip ?_
 refine k2 _ _ ?_
 refine wp_seq_k fun K5 k5=>?_
 refine sS H fun K6 k6=>sr 1 rfl<|sE ?_;clear H a;intro a H
 refine k6 _ ?_;clear k6 K6
 refine wp_block ?_
 refine loop_st (X:=Nat) (R0:=_) [1] H rfl (fun i=>[(3,.int .i64 (i:Int))]) (fun i=>[]) (fun g i=>i≤sw.length∧g+i=sw.length∧∀ q,q<i→setB (sw.getD q 0) hz=true) (sw.length) 0 ?_ (S.sel [0] G G) (H.keep [3,1] rfl) ?_
 · exact ⟨by omega,by omega,fun q hq=>absurd hq (Nat.not_lt_zero q)⟩
 clear H S a
 intro g1 x1 a w1 hp S H K7 k7
 obtain ⟨i,rfl⟩:∃ y,y=x1:=⟨_,rfl⟩
 refine wp_seq_k fun K8 k8=>?_
 refine sS H fun K9 k9=>sr 1 rfl<|sf dG rfl<|sl S 0 bD G G G<|sL aR rfl<|sr 1 rfl<|sE ?_;clear H a;intro a H
 refine k9 _ ?_;clear k9 K9
 refine condL H rfl (fun hc2=>?_) (fun hc2=>?_)
 ·skip
  refine wp_skip ?_
  refine k8 _ _ ?_
  refine wp_seq_k fun K10 k10=>?_
  refine wp_block ?_
  have hpw:=pwh (hz:=hz) (by omega)
  replace H:=H.keep [1,3] rfl
  replace S:=S.drew
  refine sD H fun K11 k11=>sf dG rfl<|sl S 0 bD G G G<|sr 1 rfl<|si aR bE G G (hsw.adr (by omega)) (by omega)<|slm aF rfl (hsw.rd S (by omega) (by omega))<|sf gU rfl<|sl S 0 aF G G G<|sd (fX Tryd.underlying3 Tryd.underlying97 rfl (by first|omega|exact IntWalk.i64_in _ (by omega)|exact IntWalk.u64_in _ (by omega)))<|sd (cY G G (by omega) (by omega) (by unfold i64ok;omega))<|sd (aT G G (by unfold i64ok;omega))<|sc rfl Tryd.func14 G G (cN _ _ _ _)<|sr 1 rfl<|sE ?_;clear H a;intro a H
  refine k11 _ ?_;clear k11 K11
  refine cond_ H rfl (fun hc3=>?_) (fun hc3=>?_)
  ·skip
   try simp only [o1,o2,o3,o4,o5,o6,o7,o8,o9,oa] at hc3
   replace H:=H.keep [] rfl
   refine sS H fun K12 k12=>sr 1 rfl<|sE ?_;clear H a;intro a H
   refine k12 _ ?_;clear k12 K12
   refine wp_ret ?_
   refine ret1 (fn:=Tryd.f12) rfl H rfl ?_
   first|(rw [eW hS hset hwk (fun q9 h1 h2=>hp.2.2 q9 h1 (by omega))];exact ⟨rfl,(S.sel [] G G)⟩)|(rw [show circE hz sw ws=30 from by first|exact dN (Bool.eq_false_iff.2 fun hb=>by have h9:=gX hb;omega)|exact dO (List.any_eq_true.2 ⟨sw.getD i 0,dU (by omega),by unfold setB;simp only [Bool.not_eq_true',Bool.and_eq_false_iff,decide_eq_false_iff_not];omega⟩)|exact aV (by omega) (cP hc5 (by by_cases h9:(((ws.getD i Wr.zero).of.length:Nat):Int)=1;exact .inr (cB (k:=0) (by omega) (decide_eq_false (fun h8=>by have h7:0≤(ws.getD i Wr.zero).of.getD (Int.toNat 0) 0∧(ws.getD i Wr.zero).of.getD (Int.toNat 0) 0<(sw.length:Int):=h8;omega)));exact .inl h9))|exact aV (by omega) (eE hc5 (by assumption) (by assumption))|exact aV (by omega) (bC hc5 (by first|exact .inl (by assumption)|exact .inr (by assumption)) (.inl (by omega)))|exact aV (by omega) (bC hc5 (by first|exact .inl (by assumption)|exact .inr (by assumption)) (.inr (cB (k:=q) (by omega) (eU (by omega)))))|exact eV (q:=z) (by omega) (by assumption)];exact ⟨rfl,(S.sel [] G G)⟩)
  try simp only [o1,o2,o3,o4,o5,o6,o7,o8,o9,oa] at hc3
  refine wp_skip ?_
  refine k10 _ _ ?_
  refine sO H<|sr 1 rfl<|sd (aK G G (by unfold i64ok;omega))<|sr 1 rfl<|sE ?_;clear H a;intro a H
  exact k7 (g1-1) (i+1) a _ (by omega) (⟨by omega,by omega,fun q hq=>if h9:q<i then hp.2.2 q h9 else by
    obtain rfl:q=i:=by omega
    unfold setB
    simp only [Bool.and_eq_true,decide_eq_true_eq]
    omega⟩) (S.sel [0] G G) (H.keep [3,1] rfl)
 refine wp_exit ?_
 refine k5 _ _ ?_
 refine seq_list fun K14 k14=>?_
 refine ls 3 H<|sf cT rfl<|sl S 0 dQ G G G<|sL eN rfl<|sE ?_;clear H a;intro a H
 refine jO (n:=ws.length) H rfl S aR bE fO oR rfl (by decide) G G (by omega) (by omega) ?_;clear H a S;intro A1 _ a hA1 S H
 generalize A1=AH at S H
 replace S:=S.recell (i:=0) rfl (cell':=fun k _ => .int .i64 (heldN ws k 0)) (fun k j _ hj=>by
   obtain rfl:j=0:=by omega
   rfl)
 refine ls 1 H<|sr 1 rfl<|sE ?_;clear H a;intro a H
 refine k14 _ _ ?_;clear k14 K14
 refine wp_seq_k fun K15 k15=>?_
 replace H:=H.keep [1,4] rfl
 refine sS H fun K16 k16=>sr 1 rfl<|sE ?_;clear H a;intro a H
 refine k16 _ ?_;clear k16 K16
 refine wp_block ?_
 obtain ⟨hi0,hgi,hset⟩:=hp
 obtain rfl:i=sw.length:=by omega
 refine loop_st (X:=Nat) (R0:=_) [1,4] H rfl (fun i=>[(5,.int .i64 (i:Int))]) (fun i=>[ownM 3 1 AH ws.length ws.length (fun k _ => .int .i64 (heldN ws k i))]) (fun g i=>i≤ws.length∧g+i=ws.length∧∀ q,q<i→wrOk sw.length ws.length ws q=true) (ws.length) 0 ?_ (S.sel [0,1] G G) (H.keep [5,1,4] rfl) ?_
 · exact ⟨by omega,by omega,fun q hq=>absurd hq (Nat.not_lt_zero q)⟩
 clear H S a
 intro g2 x2 a w2 hp S H K17 k17
 obtain ⟨i,rfl⟩:∃ y,y=x2:=⟨_,rfl⟩
 obtain ⟨hi1,hi2,hwk⟩:=hp
 refine wp_seq_k fun K18 k18=>?_
 refine sS H fun K19 k19=>sr 1 rfl<|sf cT rfl<|sl S 1 dQ G G G<|sL eN rfl<|sr 1 rfl<|sE ?_;clear H a;intro a H
 refine k19 _ ?_;clear k19 K19
 refine condL H rfl (fun hc4=>?_) (fun hc4=>?_)
 ·skip
  refine wp_skip ?_
  refine k18 _ _ ?_
  refine wp_seq_k fun K20 k20=>?_
  refine wp_block ?_
  replace H:=H.keep [1,4,5] rfl
  refine seq_list fun K21 k21=>?_
  refine ls 5 H<|sf cT rfl<|sl S 1 dQ G G G<|sr 1 rfl<|si eN jB G G (hws.adr (by omega)) (by omega)<|sd ((aZ wU jB rfl S hws (by omega) (by omega)))<|sE ?_;clear H a;intro a H
  refine aI H rfl S uQ ?_;clear H a S;intro b6 _ a hb6 hbw6 S H
  refine aD H S (i:=0) G G G G jB G G ?_
  clear H a S;intro _ a S H
  refine k21 _ _ ?_;clear k21 K21
  refine sS H fun K22 k22=>sf sH rfl<|sl S 0 aF G G G<|sE ?_;clear H a;intro a H
  refine k22 _ ?_;clear k22 K22
  refine wp_block ?_
  replace H:=H.keep [1,4,5,6,64] rfl
  refine sS H fun K23 k23=>sr 2 rfl<|sE ?_;clear H a;intro a H
  refine k23 _ ?_;clear k23 K23
  refine condE H rfl (fun hc5=>?_) (fun hc5=>?_)
  ·skip
   replace H:=H.keep [1,4,5,6] rfl
   replace S:=S.drew
   refine sD H fun K24 k24=>sf cA rfl<|sl S 0 bD G G G<|sL aR rfl<|sr 2 rfl<|sg 10 4 71 81 false G G (fun hg5=>by
       have h5:(((ws.getD i Wr.zero).of.length:Nat):Int)=1:=by simpa using hg5
       exact sy hg5<|sf cA rfl<|sy hg5<|sl S 0 bD G G G<|sy hg5<|sI aR bE G G ((hof i (by omega)).adr (by omega)) (by omega) (by omega)<|sy hg5<|slm aF rfl ((hof i (by omega)).rd S (by omega) (by omega))<|sy hg5<|sf dG rfl<|sy hg5<|sl S 2 bD G G G<|sy hg5<|sL aR rfl<|sy hg5<|sd (aT G G (by unfold i64ok;omega))<|sy hg5<|sc rfl Tryd.func14 G G (cN _ _ _ _)<|sy hg5<|sr 1 rfl<|sz 10 G G G)<|so G G G<|sE ?_;clear H a;intro a H
   refine k24 _ ?_;clear k24 K24
   refine cond_ H rfl (fun hc6=>?_) (fun hc6=>?_)
   ·skip
    try simp only [o1,o2,o3,o4,o5,o6,o7,o8,o9,oa] at hc6
    replace H:=H.keep [] rfl
    refine sS H fun K25 k25=>sr 1 rfl<|sE ?_;clear H a;intro a H
    refine k25 _ ?_;clear k25 K25
    refine wp_ret ?_
    refine ret1 (fn:=Tryd.f12) rfl H rfl ?_
    first|(rw [eW hS hset hwk (fun q9 h1 h2=>hp.2.2 q9 h1 (by omega))];exact ⟨rfl,(S.sel [] G G)⟩)|(rw [show circE hz sw ws=30 from by first|exact dN (Bool.eq_false_iff.2 fun hb=>by have h9:=gX hb;omega)|exact dO (List.any_eq_true.2 ⟨sw.getD i 0,dU (by omega),by unfold setB;simp only [Bool.not_eq_true',Bool.and_eq_false_iff,decide_eq_false_iff_not];omega⟩)|exact aV (by omega) (cP hc5 (by by_cases h9:(((ws.getD i Wr.zero).of.length:Nat):Int)=1;exact .inr (cB (k:=0) (by omega) (decide_eq_false (fun h8=>by have h7:0≤(ws.getD i Wr.zero).of.getD (Int.toNat 0) 0∧(ws.getD i Wr.zero).of.getD (Int.toNat 0) 0<(sw.length:Int):=h8;omega)));exact .inl h9))|exact aV (by omega) (eE hc5 (by assumption) (by assumption))|exact aV (by omega) (bC hc5 (by first|exact .inl (by assumption)|exact .inr (by assumption)) (.inl (by omega)))|exact aV (by omega) (bC hc5 (by first|exact .inl (by assumption)|exact .inr (by assumption)) (.inr (cB (k:=q) (by omega) (eU (by omega)))))|exact eV (q:=z) (by omega) (by assumption)];exact ⟨rfl,(S.sel [] G G)⟩)
   try simp only [o1,o2,o3,o4,o5,o6,o7,o8,o9,oa] at hc6
   refine wp_skip ?_
   refine k20 _ _ ?_
   replace S:=S.recell (i:=1) rfl (cell':=fun k _ => .int .i64 (heldN ws k (i+1))) (fun k j _ _=>congrArg (Value.int .i64) (by first|exact iA hc5|exact gG hc5 (by omega)))
   refine sO H<|sr 1 rfl<|sd (aK G G (by unfold i64ok;omega))<|sr 1 rfl<|sE ?_;clear H a;intro a H
   exact k17 (g2-1) (i+1) a _ (by omega) (⟨by omega,by omega,fun q9 hq9=>if h9:q9<i then hwk q9 h9 else by
         obtain rfl:q9=i:=by omega
         first|exact mC hc5 (by omega) (sQ (by omega) hc6.2)|exact eD hc5 (.inl (by assumption)) (by omega) (gC fun z hz=>has z (by omega))|exact eD hc5 (.inr (by assumption)) (by omega) (gC fun z hz=>has z (by omega))⟩) (S.sel [1,2] G G) (H.keep [5,1,4] rfl)
  refine wp_seq_k fun K27 k27=>?_
  refine sS H fun K28 k28=>sr 2 rfl<|sE ?_;clear H a;intro a H
  refine k28 _ ?_;clear k28 K28
  refine condE H rfl (fun hc7=>?_) (fun hc7=>?_)
  ·skip
   refine wp_skip ?_
   refine k27 _ _ ?_
   refine cond_ H rfl (fun hc8=>?_) (fun hc8=>?_)
   ·skip
    try simp only [o1,o2,o3,o4,o5,o6,o7,o8,o9,oa] at hc8
    refine wp_seq_k fun K29 k29=>?_
    replace H:=H.keep [1,4,5,6] rfl
    refine sS H fun K30 k30=>sf cA rfl<|sl S 0 bD G G G<|sL aR rfl<|sc rfl Tryd.func14 G G (cN _ _ _ _)<|sr 1 rfl<|sE ?_;clear H a;intro a H
    refine k30 _ ?_;clear k30 K30
    refine cond_ H rfl (fun hc9=>?_) (fun hc9=>?_)
    ·skip
     try simp only [o1,o2,o3,o4,o5,o6,o7,o8,o9,oa] at hc9
     refine sS H fun K31 k31=>sr 1 rfl<|sE ?_;clear H a;intro a H
     refine k31 _ ?_;clear k31 K31
     refine wp_ret ?_
     refine ret1 (fn:=Tryd.f12) rfl H rfl ?_
     first|(rw [eW hS hset hwk (fun q9 h1 h2=>hp.2.2 q9 h1 (by omega))];exact ⟨rfl,(S.sel [] G G)⟩)|(rw [show circE hz sw ws=30 from by first|exact dN (Bool.eq_false_iff.2 fun hb=>by have h9:=gX hb;omega)|exact dO (List.any_eq_true.2 ⟨sw.getD i 0,dU (by omega),by unfold setB;simp only [Bool.not_eq_true',Bool.and_eq_false_iff,decide_eq_false_iff_not];omega⟩)|exact aV (by omega) (cP hc5 (by by_cases h9:(((ws.getD i Wr.zero).of.length:Nat):Int)=1;exact .inr (cB (k:=0) (by omega) (decide_eq_false (fun h8=>by have h7:0≤(ws.getD i Wr.zero).of.getD (Int.toNat 0) 0∧(ws.getD i Wr.zero).of.getD (Int.toNat 0) 0<(sw.length:Int):=h8;omega)));exact .inl h9))|exact aV (by omega) (eE hc5 (by assumption) (by assumption))|exact aV (by omega) (bC hc5 (by first|exact .inl (by assumption)|exact .inr (by assumption)) (.inl (by omega)))|exact aV (by omega) (bC hc5 (by first|exact .inl (by assumption)|exact .inr (by assumption)) (.inr (cB (k:=q) (by omega) (eU (by omega)))))|exact eV (q:=z) (by omega) (by assumption)];exact ⟨rfl,(S.sel [] G G)⟩)
    try simp only [o1,o2,o3,o4,o5,o6,o7,o8,o9,oa] at hc9
    refine wp_skip ?_
    refine k29 _ _ ?_
    refine sS H fun K32 k32=>sr 2 rfl<|sE ?_;clear H a;intro a H
    refine k32 _ ?_;clear k32 K32
    refine sS H fun K33 k33=>sr 1 rfl<|sE ?_;clear H a;intro a H
    refine k33 _ ?_;clear k33 K33
    refine wp_block ?_
    replace S:=S.recell (i:=1) rfl (cell':=fun k _ => .int .i64 (heldN ws k i+cntO (ws.getD i Wr.zero).of k 0)) (fun k j _ hj=>congrArg (Value.int .i64) (Int.add_zero _).symm)
    refine loop_st (X:=Nat) (R0:=_) [1,4,5,6] H rfl (fun q=>[(7,.int .i64 (lstA (ws.getD i Wr.zero).of (i:Int) q)),(8,.int .i64 (q:Int))]) (fun q=>[ownM 3 1 AH ws.length ws.length (fun k _ => .int .i64 (heldN ws k i+cntO (ws.getD i Wr.zero).of k q))]) (fun g q=>q≤(ws.getD i Wr.zero).of.length∧g+q=(ws.getD i Wr.zero).of.length∧∀ z,z<q→ascP (ws.getD i Wr.zero).of ((i:Int)+1) ws.length z=true) ((ws.getD i Wr.zero).of.length) 0 ?_ (S.sel [1,0,2] G G) (H.keep [7,8,1,4,5,6] rfl) ?_
    · exact ⟨by omega,by omega,fun z hz=>absurd hz (Nat.not_lt_zero z)⟩
    clear H S a
    intro g3 x3 a w3 hp S H K34 k34
    obtain ⟨q,rfl⟩:∃ y,y=x3:=⟨_,rfl⟩
    obtain ⟨hq1,hq2,has⟩:=hp
    have hlb:=El q has
    refine wp_seq_k fun K35 k35=>?_
    refine sS H fun K36 k36=>sr 1 rfl<|sf cA rfl<|sl S 1 bD G G G<|sL aR rfl<|sr 1 rfl<|sE ?_;clear H a;intro a H
    refine k36 _ ?_;clear k36 K36
    refine condL H rfl (fun hc10=>?_) (fun hc10=>?_)
    ·skip
     refine wp_skip ?_
     refine k35 _ _ ?_
     refine wp_seq_k fun K37 k37=>?_
     refine wp_block ?_
     refine wp_seq_k fun K38 k38=>?_
     replace H:=H.keep [1,4,5,6,7,8] rfl
     replace S:=S.drew
     refine sD H fun K39 k39=>sf cA rfl<|sl S 1 bD G G G<|sr 1 rfl<|si aR bE G G ((hof i (by omega)).adr (by omega)) (by omega)<|slm aF rfl ((hof i (by omega)).rd S (by omega) (by omega))<|sr 1 rfl<|sd (aK G G (by unfold i64ok;omega))<|sf cT rfl<|sl S 2 dQ G G G<|sL eN rfl<|sd (aT G G (by unfold i64ok;omega))<|sc rfl Tryd.func14 G G (cN _ _ _ _)<|sr 1 rfl<|sE ?_;clear H a;intro a H
     refine k39 _ ?_;clear k39 K39
     refine cond_ H rfl (fun hc11=>?_) (fun hc11=>?_)
     ·skip
      try simp only [o1,o2,o3,o4,o5,o6,o7,o8,o9,oa] at hc11
      replace H:=H.keep [] rfl
      refine sS H fun K40 k40=>sr 1 rfl<|sE ?_;clear H a;intro a H
      refine k40 _ ?_;clear k40 K40
      refine wp_ret ?_
      refine ret1 (fn:=Tryd.f12) rfl H rfl ?_
      first|(rw [eW hS hset hwk (fun q9 h1 h2=>hp.2.2 q9 h1 (by omega))];exact ⟨rfl,(S.sel [] G G)⟩)|(rw [show circE hz sw ws=30 from by first|exact dN (Bool.eq_false_iff.2 fun hb=>by have h9:=gX hb;omega)|exact dO (List.any_eq_true.2 ⟨sw.getD i 0,dU (by omega),by unfold setB;simp only [Bool.not_eq_true',Bool.and_eq_false_iff,decide_eq_false_iff_not];omega⟩)|exact aV (by omega) (cP hc5 (by by_cases h9:(((ws.getD i Wr.zero).of.length:Nat):Int)=1;exact .inr (cB (k:=0) (by omega) (decide_eq_false (fun h8=>by have h7:0≤(ws.getD i Wr.zero).of.getD (Int.toNat 0) 0∧(ws.getD i Wr.zero).of.getD (Int.toNat 0) 0<(sw.length:Int):=h8;omega)));exact .inl h9))|exact aV (by omega) (eE hc5 (by assumption) (by assumption))|exact aV (by omega) (bC hc5 (by first|exact .inl (by assumption)|exact .inr (by assumption)) (.inl (by omega)))|exact aV (by omega) (bC hc5 (by first|exact .inl (by assumption)|exact .inr (by assumption)) (.inr (cB (k:=q) (by omega) (eU (by omega)))))|exact eV (q:=z) (by omega) (by assumption)];exact ⟨rfl,(S.sel [] G G)⟩)
     try simp only [o1,o2,o3,o4,o5,o6,o7,o8,o9,oa] at hc11
     refine wp_skip ?_
     refine k38 _ _ ?_
     refine sS H fun K41 k41=>sf cA rfl<|sl S 1 bD G G G<|sr 1 rfl<|si aR bE G G ((hof i (by omega)).adr (by omega)) (by omega)<|slm aF rfl ((hof i (by omega)).rd S (by omega) (by omega))<|sr 1 rfl<|sE ?_;clear H a;intro a H
     refine k41 _ ?_;clear k41 K41
     have hhb:=nK (sw:=sw) (ws:=ws) ((ws.getD i Wr.zero).of.getD q 0).toNat i hwk
     have hcb:=lJ (l:=(ws.getD i Wr.zero).of) (k:=((ws.getD i Wr.zero).of.getD q 0).toNat) q
     replace H:=H.keep [1,4,5,6,7,8] rfl
     refine one_list ?_
     refine ls 6 H<|sr 2 rfl<|sI aR bE G G (ownM.adr S (i:=0) rfl (by omega)) (by omega) (by omega)<|slm aF rfl (ownM.rd S (i:=0) rfl (by omega) (by omega))<|sd (aK G G (by unfold i64ok;omega))<|sI aR bE G G (ownM.adr S (i:=0) rfl (by omega)) (by omega) (by omega)<|sE ?_;clear H a;intro a H
     refine bX H S (i:=0) G G G (by omega) (by omega) bE rfl ?_
     clear H a S;intro _ a S H
     replace S:=S.recell (i:=0) rfl (cell':=fun k _ => .int .i64 (heldN ws k i+cntO (ws.getD i Wr.zero).of k (q+1))) (fun k j _ hj=>lK (by omega) hj)
     refine k37 _ _ ?_
     replace H:=H.keep [1,4,5,6,7,8] rfl
     refine sO H<|sr 1 rfl<|sd (aK G G (by unfold i64ok;omega))<|sr 1 rfl<|sE ?_;clear H a;intro a H
     exact k34 (g3-1) (q+1) a _ (by omega) (⟨by omega,by omega,uV has (uW (by omega))⟩) (S.sel [0,1,2] G G) (H.keep [7,8,1,4,5,6] rfl)
    refine wp_exit ?_
    refine k20 _ _ ?_
    replace S:=S.recell (i:=0) rfl (cell':=fun k _ => .int .i64 (heldN ws k (i+1))) (fun k j _ _=>congrArg (Value.int .i64) (by first|exact iA hc5|exact gG hc5 (by omega)))
    refine sO H<|sr 1 rfl<|sd (aK G G (by unfold i64ok;omega))<|sr 1 rfl<|sE ?_;clear H a;intro a H
    exact k17 (g2-1) (i+1) a _ (by omega) (⟨by omega,by omega,fun q9 hq9=>if h9:q9<i then hwk q9 h9 else by
          obtain rfl:q9=i:=by omega
          first|exact mC hc5 (by omega) (sQ (by omega) hc6.2)|exact eD hc5 (.inl (by assumption)) (by omega) (gC fun z hz=>has z (by omega))|exact eD hc5 (.inr (by assumption)) (by omega) (gC fun z hz=>has z (by omega))⟩) (S.sel [0,2] G G) (H.keep [5,1,4] rfl)
   try simp only [o1,o2,o3,o4,o5,o6,o7,o8,o9,oa] at hc8
   refine sS H fun K45 k45=>sr 1 rfl<|sE ?_;clear H a;intro a H
   refine k45 _ ?_;clear k45 K45
   refine wp_ret ?_
   refine ret1 (fn:=Tryd.f12) rfl H rfl ?_
   first|(rw [eW hS hset hwk (fun q9 h1 h2=>hp.2.2 q9 h1 (by omega))];exact ⟨rfl,(S.sel [] G G)⟩)|(rw [show circE hz sw ws=30 from by first|exact dN (Bool.eq_false_iff.2 fun hb=>by have h9:=gX hb;omega)|exact dO (List.any_eq_true.2 ⟨sw.getD i 0,dU (by omega),by unfold setB;simp only [Bool.not_eq_true',Bool.and_eq_false_iff,decide_eq_false_iff_not];omega⟩)|exact aV (by omega) (cP hc5 (by by_cases h9:(((ws.getD i Wr.zero).of.length:Nat):Int)=1;exact .inr (cB (k:=0) (by omega) (decide_eq_false (fun h8=>by have h7:0≤(ws.getD i Wr.zero).of.getD (Int.toNat 0) 0∧(ws.getD i Wr.zero).of.getD (Int.toNat 0) 0<(sw.length:Int):=h8;omega)));exact .inl h9))|exact aV (by omega) (eE hc5 (by assumption) (by assumption))|exact aV (by omega) (bC hc5 (by first|exact .inl (by assumption)|exact .inr (by assumption)) (.inl (by omega)))|exact aV (by omega) (bC hc5 (by first|exact .inl (by assumption)|exact .inr (by assumption)) (.inr (cB (k:=q) (by omega) (eU (by omega)))))|exact eV (q:=z) (by omega) (by assumption)];exact ⟨rfl,(S.sel [] G G)⟩)
  refine sO H<|sr 2 rfl<|sE ?_;clear H a;intro a H
  refine k27 _ _ ?_
  refine condE H rfl (fun hc12=>?_) (fun hc12=>?_)
  ·skip
   refine wp_seq_k fun K47 k47=>?_
   replace H:=H.keep [1,4,5,6] rfl
   refine sS H fun K48 k48=>sf cA rfl<|sl S 0 bD G G G<|sL aR rfl<|sc rfl Tryd.func14 G G (cN _ _ _ _)<|sr 1 rfl<|sE ?_;clear H a;intro a H
   refine k48 _ ?_;clear k48 K48
   refine cond_ H rfl (fun hc13=>?_) (fun hc13=>?_)
   ·skip
    try simp only [o1,o2,o3,o4,o5,o6,o7,o8,o9,oa] at hc13
    refine sS H fun K49 k49=>sr 1 rfl<|sE ?_;clear H a;intro a H
    refine k49 _ ?_;clear k49 K49
    refine wp_ret ?_
    refine ret1 (fn:=Tryd.f12) rfl H rfl ?_
    first|(rw [eW hS hset hwk (fun q9 h1 h2=>hp.2.2 q9 h1 (by omega))];exact ⟨rfl,(S.sel [] G G)⟩)|(rw [show circE hz sw ws=30 from by first|exact dN (Bool.eq_false_iff.2 fun hb=>by have h9:=gX hb;omega)|exact dO (List.any_eq_true.2 ⟨sw.getD i 0,dU (by omega),by unfold setB;simp only [Bool.not_eq_true',Bool.and_eq_false_iff,decide_eq_false_iff_not];omega⟩)|exact aV (by omega) (cP hc5 (by by_cases h9:(((ws.getD i Wr.zero).of.length:Nat):Int)=1;exact .inr (cB (k:=0) (by omega) (decide_eq_false (fun h8=>by have h7:0≤(ws.getD i Wr.zero).of.getD (Int.toNat 0) 0∧(ws.getD i Wr.zero).of.getD (Int.toNat 0) 0<(sw.length:Int):=h8;omega)));exact .inl h9))|exact aV (by omega) (eE hc5 (by assumption) (by assumption))|exact aV (by omega) (bC hc5 (by first|exact .inl (by assumption)|exact .inr (by assumption)) (.inl (by omega)))|exact aV (by omega) (bC hc5 (by first|exact .inl (by assumption)|exact .inr (by assumption)) (.inr (cB (k:=q) (by omega) (eU (by omega)))))|exact eV (q:=z) (by omega) (by assumption)];exact ⟨rfl,(S.sel [] G G)⟩)
   try simp only [o1,o2,o3,o4,o5,o6,o7,o8,o9,oa] at hc13
   refine wp_skip ?_
   refine k47 _ _ ?_
   refine sS H fun K50 k50=>sr 2 rfl<|sE ?_;clear H a;intro a H
   refine k50 _ ?_;clear k50 K50
   refine sS H fun K51 k51=>sr 1 rfl<|sE ?_;clear H a;intro a H
   refine k51 _ ?_;clear k51 K51
   refine wp_block ?_
   replace S:=S.recell (i:=1) rfl (cell':=fun k _ => .int .i64 (heldN ws k i+cntO (ws.getD i Wr.zero).of k 0)) (fun k j _ hj=>congrArg (Value.int .i64) (Int.add_zero _).symm)
   refine loop_st (X:=Nat) (R0:=_) [1,4,5,6] H rfl (fun q=>[(7,.int .i64 (lstA (ws.getD i Wr.zero).of (i:Int) q)),(8,.int .i64 (q:Int))]) (fun q=>[ownM 3 1 AH ws.length ws.length (fun k _ => .int .i64 (heldN ws k i+cntO (ws.getD i Wr.zero).of k q))]) (fun g q=>q≤(ws.getD i Wr.zero).of.length∧g+q=(ws.getD i Wr.zero).of.length∧∀ z,z<q→ascP (ws.getD i Wr.zero).of ((i:Int)+1) ws.length z=true) ((ws.getD i Wr.zero).of.length) 0 ?_ (S.sel [1,0,2] G G) (H.keep [7,8,1,4,5,6] rfl) ?_
   · exact ⟨by omega,by omega,fun z hz=>absurd hz (Nat.not_lt_zero z)⟩
   clear H S a
   intro g4 x4 a w4 hp S H K52 k52
   obtain ⟨q,rfl⟩:∃ y,y=x4:=⟨_,rfl⟩
   obtain ⟨hq1,hq2,has⟩:=hp
   have hlb:=El q has
   refine wp_seq_k fun K53 k53=>?_
   refine sS H fun K54 k54=>sr 1 rfl<|sf cA rfl<|sl S 1 bD G G G<|sL aR rfl<|sr 1 rfl<|sE ?_;clear H a;intro a H
   refine k54 _ ?_;clear k54 K54
   refine condL H rfl (fun hc14=>?_) (fun hc14=>?_)
   ·skip
    refine wp_skip ?_
    refine k53 _ _ ?_
    refine wp_seq_k fun K55 k55=>?_
    refine wp_block ?_
    refine wp_seq_k fun K56 k56=>?_
    replace H:=H.keep [1,4,5,6,7,8] rfl
    replace S:=S.drew
    refine sD H fun K57 k57=>sf cA rfl<|sl S 1 bD G G G<|sr 1 rfl<|si aR bE G G ((hof i (by omega)).adr (by omega)) (by omega)<|slm aF rfl ((hof i (by omega)).rd S (by omega) (by omega))<|sr 1 rfl<|sd (aK G G (by unfold i64ok;omega))<|sf cT rfl<|sl S 2 dQ G G G<|sL eN rfl<|sd (aT G G (by unfold i64ok;omega))<|sc rfl Tryd.func14 G G (cN _ _ _ _)<|sr 1 rfl<|sE ?_;clear H a;intro a H
    refine k57 _ ?_;clear k57 K57
    refine cond_ H rfl (fun hc15=>?_) (fun hc15=>?_)
    ·skip
     try simp only [o1,o2,o3,o4,o5,o6,o7,o8,o9,oa] at hc15
     replace H:=H.keep [] rfl
     refine sS H fun K58 k58=>sr 1 rfl<|sE ?_;clear H a;intro a H
     refine k58 _ ?_;clear k58 K58
     refine wp_ret ?_
     refine ret1 (fn:=Tryd.f12) rfl H rfl ?_
     first|(rw [eW hS hset hwk (fun q9 h1 h2=>hp.2.2 q9 h1 (by omega))];exact ⟨rfl,(S.sel [] G G)⟩)|(rw [show circE hz sw ws=30 from by first|exact dN (Bool.eq_false_iff.2 fun hb=>by have h9:=gX hb;omega)|exact dO (List.any_eq_true.2 ⟨sw.getD i 0,dU (by omega),by unfold setB;simp only [Bool.not_eq_true',Bool.and_eq_false_iff,decide_eq_false_iff_not];omega⟩)|exact aV (by omega) (cP hc5 (by by_cases h9:(((ws.getD i Wr.zero).of.length:Nat):Int)=1;exact .inr (cB (k:=0) (by omega) (decide_eq_false (fun h8=>by have h7:0≤(ws.getD i Wr.zero).of.getD (Int.toNat 0) 0∧(ws.getD i Wr.zero).of.getD (Int.toNat 0) 0<(sw.length:Int):=h8;omega)));exact .inl h9))|exact aV (by omega) (eE hc5 (by assumption) (by assumption))|exact aV (by omega) (bC hc5 (by first|exact .inl (by assumption)|exact .inr (by assumption)) (.inl (by omega)))|exact aV (by omega) (bC hc5 (by first|exact .inl (by assumption)|exact .inr (by assumption)) (.inr (cB (k:=q) (by omega) (eU (by omega)))))|exact eV (q:=z) (by omega) (by assumption)];exact ⟨rfl,(S.sel [] G G)⟩)
    try simp only [o1,o2,o3,o4,o5,o6,o7,o8,o9,oa] at hc15
    refine wp_skip ?_
    refine k56 _ _ ?_
    refine sS H fun K59 k59=>sf cA rfl<|sl S 1 bD G G G<|sr 1 rfl<|si aR bE G G ((hof i (by omega)).adr (by omega)) (by omega)<|slm aF rfl ((hof i (by omega)).rd S (by omega) (by omega))<|sr 1 rfl<|sE ?_;clear H a;intro a H
    refine k59 _ ?_;clear k59 K59
    have hhb:=nK (sw:=sw) (ws:=ws) ((ws.getD i Wr.zero).of.getD q 0).toNat i hwk
    have hcb:=lJ (l:=(ws.getD i Wr.zero).of) (k:=((ws.getD i Wr.zero).of.getD q 0).toNat) q
    replace H:=H.keep [1,4,5,6,7,8] rfl
    refine one_list ?_
    refine ls 6 H<|sr 2 rfl<|sI aR bE G G (ownM.adr S (i:=0) rfl (by omega)) (by omega) (by omega)<|slm aF rfl (ownM.rd S (i:=0) rfl (by omega) (by omega))<|sd (aK G G (by unfold i64ok;omega))<|sI aR bE G G (ownM.adr S (i:=0) rfl (by omega)) (by omega) (by omega)<|sE ?_;clear H a;intro a H
    refine bX H S (i:=0) G G G (by omega) (by omega) bE rfl ?_
    clear H a S;intro _ a S H
    replace S:=S.recell (i:=0) rfl (cell':=fun k _ => .int .i64 (heldN ws k i+cntO (ws.getD i Wr.zero).of k (q+1))) (fun k j _ hj=>lK (by omega) hj)
    refine k55 _ _ ?_
    replace H:=H.keep [1,4,5,6,7,8] rfl
    refine sO H<|sr 1 rfl<|sd (aK G G (by unfold i64ok;omega))<|sr 1 rfl<|sE ?_;clear H a;intro a H
    exact k52 (g4-1) (q+1) a _ (by omega) (⟨by omega,by omega,uV has (uW (by omega))⟩) (S.sel [0,1,2] G G) (H.keep [7,8,1,4,5,6] rfl)
   refine wp_exit ?_
   refine k20 _ _ ?_
   replace S:=S.recell (i:=0) rfl (cell':=fun k _ => .int .i64 (heldN ws k (i+1))) (fun k j _ _=>congrArg (Value.int .i64) (by first|exact iA hc5|exact gG hc5 (by omega)))
   refine sO H<|sr 1 rfl<|sd (aK G G (by unfold i64ok;omega))<|sr 1 rfl<|sE ?_;clear H a;intro a H
   exact k17 (g2-1) (i+1) a _ (by omega) (⟨by omega,by omega,fun q9 hq9=>if h9:q9<i then hwk q9 h9 else by
         obtain rfl:q9=i:=by omega
         first|exact mC hc5 (by omega) (sQ (by omega) hc6.2)|exact eD hc5 (.inl (by assumption)) (by omega) (gC fun z hz=>has z (by omega))|exact eD hc5 (.inr (by assumption)) (by omega) (gC fun z hz=>has z (by omega))⟩) (S.sel [0,2] G G) (H.keep [5,1,4] rfl)
  refine sS H fun K63 k63=>sr 1 rfl<|sE ?_;clear H a;intro a H
  refine k63 _ ?_;clear k63 K63
  refine wp_ret ?_
  refine ret1 (fn:=Tryd.f12) rfl H rfl ?_
  first|(rw [eW hS hset hwk (fun q9 h1 h2=>hp.2.2 q9 h1 (by omega))];exact ⟨rfl,(S.sel [] G G)⟩)|(rw [show circE hz sw ws=30 from by first|exact dN (Bool.eq_false_iff.2 fun hb=>by have h9:=gX hb;omega)|exact dO (List.any_eq_true.2 ⟨sw.getD i 0,dU (by omega),by unfold setB;simp only [Bool.not_eq_true',Bool.and_eq_false_iff,decide_eq_false_iff_not];omega⟩)|exact aV (by omega) (cP hc5 (by by_cases h9:(((ws.getD i Wr.zero).of.length:Nat):Int)=1;exact .inr (cB (k:=0) (by omega) (decide_eq_false (fun h8=>by have h7:0≤(ws.getD i Wr.zero).of.getD (Int.toNat 0) 0∧(ws.getD i Wr.zero).of.getD (Int.toNat 0) 0<(sw.length:Int):=h8;omega)));exact .inl h9))|exact aV (by omega) (eE hc5 (by assumption) (by assumption))|exact aV (by omega) (bC hc5 (by first|exact .inl (by assumption)|exact .inr (by assumption)) (.inl (by omega)))|exact aV (by omega) (bC hc5 (by first|exact .inl (by assumption)|exact .inr (by assumption)) (.inr (cB (k:=q) (by omega) (eU (by omega)))))|exact eV (q:=z) (by omega) (by assumption)];exact ⟨rfl,(S.sel [] G G)⟩)
 refine wp_exit ?_
 refine k15 _ _ ?_
 refine wp_seq_k fun K64 k64=>?_
 obtain rfl:i=ws.length:=by omega
 refine sS H fun K65 k65=>sr 1 rfl<|sE ?_;clear H a;intro a H
 refine k65 _ ?_;clear k65 K65
 refine wp_block ?_
 refine loop_st (X:=Nat) (R0:=_) [4] H rfl (fun z=>[(9,.int .i64 ((z:Int)+1))]) (fun z=>[ownM 3 1 AH ws.length ws.length (fun k _ => .int .i64 (heldN ws k ws.length))]) (fun g z=>z+1≤ws.length∧g+z+1=ws.length∧∀ q,1≤q→q<z+1→heldN ws q ws.length=1) ((ws.length-1)) 0 ?_ (S.sel [0,1] G G) (H.keep [9,4] rfl) ?_
 · exact ⟨by omega,by omega,fun q9 h1 h2=>absurd h2 (by omega)⟩
 clear H S a
 intro g5 x5 a w5 hp S H K66 k66
 obtain ⟨z,rfl⟩:∃ y,y=x5:=⟨_,rfl⟩
 refine wp_seq_k fun K67 k67=>?_
 refine sS H fun K68 k68=>sr 2 rfl<|sL aR rfl<|sr 1 rfl<|sE ?_;clear H a;intro a H
 refine k68 _ ?_;clear k68 K68
 refine condL H rfl (fun hc16=>?_) (fun hc16=>?_)
 ·skip
  refine wp_skip ?_
  refine k67 _ _ ?_
  refine wp_seq_k fun K69 k69=>?_
  refine wp_block ?_
  refine sS H fun K70 k70=>sr 2 rfl<|sI aR bE G G (ownM.adr S (i:=0) rfl (by omega)) (by omega) (by omega)<|slm aF rfl (ownM.rd S (i:=0) rfl (by omega) (by omega))<|sr 1 rfl<|sE ?_;clear H a;intro a H
  refine k70 _ ?_;clear k70 K70
  refine condN H rfl (fun hc17=>?_) (fun hc17=>?_)
  ·skip
   replace H:=H.keep [] rfl
   refine sS H fun K71 k71=>sr 1 rfl<|sE ?_;clear H a;intro a H
   refine k71 _ ?_;clear k71 K71
   refine wp_ret ?_
   refine ret1 (fn:=Tryd.f12) rfl H rfl ?_
   first|(rw [eW hS hset hwk (fun q9 h1 h2=>hp.2.2 q9 h1 (by omega))];exact ⟨rfl,(S.sel [] G G)⟩)|(rw [show circE hz sw ws=30 from by first|exact dN (Bool.eq_false_iff.2 fun hb=>by have h9:=gX hb;omega)|exact dO (List.any_eq_true.2 ⟨sw.getD i 0,dU (by omega),by unfold setB;simp only [Bool.not_eq_true',Bool.and_eq_false_iff,decide_eq_false_iff_not];omega⟩)|exact aV (by omega) (cP hc5 (by by_cases h9:(((ws.getD i Wr.zero).of.length:Nat):Int)=1;exact .inr (cB (k:=0) (by omega) (decide_eq_false (fun h8=>by have h7:0≤(ws.getD i Wr.zero).of.getD (Int.toNat 0) 0∧(ws.getD i Wr.zero).of.getD (Int.toNat 0) 0<(sw.length:Int):=h8;omega)));exact .inl h9))|exact aV (by omega) (eE hc5 (by assumption) (by assumption))|exact aV (by omega) (bC hc5 (by first|exact .inl (by assumption)|exact .inr (by assumption)) (.inl (by omega)))|exact aV (by omega) (bC hc5 (by first|exact .inl (by assumption)|exact .inr (by assumption)) (.inr (cB (k:=q) (by omega) (eU (by omega)))))|exact eV (q:=z) (by omega) (by assumption)];exact ⟨rfl,(S.sel [] G G)⟩)
  refine wp_skip ?_
  refine k69 _ _ ?_
  refine sO H<|sr 1 rfl<|sd (aK G G (by unfold i64ok;omega))<|sr 1 rfl<|sE ?_;clear H a;intro a H
  exact k66 (g5-1) (z+1) a _ (by omega) (⟨by omega,by omega,fun q9 h1 h2=>if h9:q9<z+1 then hp.2.2 q9 h1 h9 else by
    obtain rfl:q9=z+1:=by omega
    have e9:((z:Int)+1).toNat=z+1:=by omega
    rw [e9] at hc17
    exact hc17⟩) (S.sel [0,1] G G) (H.keep [9,4] rfl)
 refine wp_exit ?_
 refine k64 _ _ ?_
 refine sS H fun K73 k73=>sr 1 rfl<|sE ?_;clear H a;intro a H
 refine k73 _ ?_;clear k73 K73
 refine wp_ret ?_
 refine ret1 (fn:=Tryd.f12) rfl H rfl ?_
 first|(rw [eW hS hset hwk (fun q9 h1 h2=>hp.2.2 q9 h1 (by omega))];exact ⟨rfl,(S.sel [] G G)⟩)|(rw [show circE hz sw ws=30 from by first|exact dN (Bool.eq_false_iff.2 fun hb=>by have h9:=gX hb;omega)|exact dO (List.any_eq_true.2 ⟨sw.getD i 0,dU (by omega),by unfold setB;simp only [Bool.not_eq_true',Bool.and_eq_false_iff,decide_eq_false_iff_not];omega⟩)|exact aV (by omega) (cP hc5 (by by_cases h9:(((ws.getD i Wr.zero).of.length:Nat):Int)=1;exact .inr (cB (k:=0) (by omega) (decide_eq_false (fun h8=>by have h7:0≤(ws.getD i Wr.zero).of.getD (Int.toNat 0) 0∧(ws.getD i Wr.zero).of.getD (Int.toNat 0) 0<(sw.length:Int):=h8;omega)));exact .inl h9))|exact aV (by omega) (eE hc5 (by assumption) (by assumption))|exact aV (by omega) (bC hc5 (by first|exact .inl (by assumption)|exact .inr (by assumption)) (.inl (by omega)))|exact aV (by omega) (bC hc5 (by first|exact .inl (by assumption)|exact .inr (by assumption)) (.inr (cB (k:=q) (by omega) (eU (by omega)))))|exact eV (q:=z) (by omega) (by assumption)];exact ⟨rfl,(S.sel [] G G)⟩)
end
section
structure Psg where
  a:Int
  b:Int
  kind:Int
  ticks:Int
  wide:Int
  mach:Int
  still:Int
def Psg.zero:Psg:=⟨0,0,0,0,0,0,0⟩
def Psg.cell (p:Psg):Nat→Value
  | 0 => .int .i64 p.a
  | 1 => .int .i64 p.b
  | 2 => .int .i64 p.kind
  | 3 => .int .i64 p.ticks
  | 4 => .int .i64 p.wide
  | 5 => .int .i64 p.mach
  | _ => .int .i64 p.still
def pcell (l:List Psg) (k j:Nat):Value:=(l.getD k Psg.zero).cell j
structure Mv where
  pas:Int
  fr:Int
  at_:Int
  many:Int
def Mv.zero:Mv:=⟨0,0,0,0⟩
def Mv.none:Mv:=⟨-1,0,0,0⟩
def Mv.cells (m:Mv):List Value:=[.int .i64 m.pas,.int .i64 m.fr,.int .i64 m.at_,.int .i64 m.many]
def Mv.cell (m:Mv):Nat→Value
  | 0 => .int .i64 m.pas
  | 1 => .int .i64 m.fr
  | 2 => .int .i64 m.at_
  | _ => .int .i64 m.many
structure Ent where
  to:Nat
  room:Int
  back:Nat
  mv:Mv
def Ent.zero:Ent:=⟨0,0,0,Mv.zero⟩
def Ent.cell (x:Ent):Nat→Value
  | 0 => .int .i64 (x.to:Int)
  | 1 => .int .i64 x.room
  | 2 => .int .i64 (x.back:Int)
  | 3 => .int .i64 x.mv.pas
  | 4 => .int .i64 x.mv.fr
  | 5 => .int .i64 x.mv.at_
  | _ => .int .i64 x.mv.many
abbrev Tab:=Nat→List Ent
def tlen (T:Tab) (i:Nat):Nat:=(T i).length
def joinT (T:Tab) (f t:Nat) (room:Int) (mv:Mv):Tab:=
  upd (upd T f (T f++[⟨t,room,(T t).length,mv⟩])) t (T t++[⟨f,0,(T f).length,Mv.none⟩])
def Tab.net (T:Tab) (k:Nat):Net:=⟨k,tlen T,fun i j=>((T i).getD j Ent.zero).to,fun i j=>((T i).getD j Ent.zero).back⟩
def Tab.room (T:Tab):RM:=fun i j=>((T i).getD j Ent.zero).room
def Tab.mv (T:Tab):Nat→Nat→Mv:=fun i j=>((T i).getD j Ent.zero).mv
def lcl (L:Nat→Int) (i _j:Nat):Value := .int .i64 (L i)
def hasI (l:List Int) (x:Int):Bool:=l.any fun y=>decide (x=y)
structure Hd where
  pas:Int
  fr:Int
  to:Int
  ticks:Int
  wide:Int
def Hd.zero:Hd:=⟨0,0,0,0,0⟩
def Hd.cells (h:Hd):List Value:=[.int .i64 h.pas,.int .i64 h.fr,.int .i64 h.to,.int .i64 h.ticks,.int .i64 h.wide]
def bitI (out m:Int):Int:=out/2^m.toNat%2
def zB (out:Int) (p:Psg):Int:=if p.kind=3∧¬ bitI out p.mach=0 then p.still else p.ticks
def Lx (out:Int) (p:Psg):Bool:=!(decide (p.kind=3)&&decide (bitI out p.mach=0))
def hdsA (out:Int) (xs:List Int) (k:Nat) (p:Psg):List Hd:=if hasI xs p.a=true then [] else [⟨k,p.a,p.b,zB out p,p.wide⟩]
def hdsB (out:Int) (xs:List Int) (k:Nat) (p:Psg):List Hd:=if (Lx out p&&!hasI xs p.b)=true then [⟨k,p.b,p.a,zB out p,p.wide⟩] else []
def hdsOf (out:Int) (xs:List Int) (k:Nat) (p:Psg):List Hd:=if p.kind=4 then [] else hdsA out xs k p++hdsB out xs k p
def hdsTo (out:Int) (xs:List Int) (ps:List Psg):Nat→List Hd
  | 0=>[]
  | k+1=>hdsTo out xs ps k++hdsOf out xs k (ps.getD k Psg.zero)
def hds (out:Int) (xs:List Int) (ps:List Psg):List Hd:=hdsTo out xs ps ps.length
section
variable {out:Int} {xs:List Int} {ps:List Psg} {k:Nat}
end
structure Jn where
  f:Nat
  t:Nat
  room:Int
  mv:Mv
def joins (J:List Jn):Tab:=J.foldl (fun T j=>joinT T j.f j.t j.room j.mv) (fun _=>[])
def nd (P t p:Nat):Nat:=P*t+p
def Eo:Int:=1099511627776
def jBeg (P T:Nat) (pe:List Int) (p:Nat):Jn:=⟨P*(T+1),nd P 0 p,pe.getD p 0,Mv.none⟩
def jWait (P p t:Nat):Jn:=⟨nd P t p,nd P (t+1) p,Eo,Mv.none⟩
def jExit (P T p t:Nat):Jn:=⟨nd P t p,P*(T+1)+1,Eo,Mv.none⟩
def Ly (P p n:Nat):List Jn:=(List.range n).map (jWait P p)
def Lz (P T p n:Nat):List Jn:=(List.range n).map (jExit P T p)
def Ma (P T:Nat) (pe xs:List Int) (p:Nat):List Jn:=jBeg P T pe p::(Ly P p T++(if hasI xs p=true then Lz P T p (T+1) else []))
def zC (P T:Nat) (pe xs:List Int):Nat→List Jn
  | 0=>[]
  | p+1=>zC P T pe xs p++Ma P T pe xs p
def jHead (P:Nat) (h:Hd) (t:Nat):Jn:=⟨nd P t h.fr.toNat,nd P (t+h.ticks.toNat) h.to.toNat,h.wide,⟨h.pas,h.fr,t,0⟩⟩
def Mb (P:Nat) (h:Hd) (n:Nat):List Jn:=(List.range n).map (jHead P h)
def Ep (P T:Nat) (hs:List Hd):Nat→List Jn
  | 0=>[]
  | i+1=>Ep P T hs i++Mb P (hs.getD i Hd.zero) (T+1-(hs.getD i Hd.zero).ticks.toNat)
def jAll (P T:Nat) (pe xs:List Int) (hs:List Hd):List Jn:=zC P T pe xs P++Ep P T hs hs.length
section
variable {P T:Nat} {pe xs:List Int} {hs:List Hd}
end
def allN (p:Nat→Bool):Nat→Bool
  | 0=>true
  | n+1=>allN p n&&p n
theorem bL {p:Nat→Bool}:∀ {n:Nat},allN p n=true↔∀ k,k<n→p k=true:=by
  intro n
  induction n with
  | zero=>exact ⟨fun _ k hk=>absurd hk (Nat.not_lt_zero k),fun _=>rfl⟩
  | succ n ih=>
    simp only [allN,Bool.and_eq_true,ih]
    constructor
    · rintro ⟨h1,h2⟩ k hk
      by_cases e:k=n
      · subst e;exact h2
      · exact h1 k (by omega)
    · intro h
      exact ⟨fun k hk=>h k (by omega),h n (by omega)⟩
theorem gH {p:Nat→Bool} {n:Nat} (h:allN p n=true) (hp:p n=true):allN p (n+1)=true:=by simp only [allN,h,hp];rfl
theorem fD {p:Nat→Bool} {n k:Nat} (hk:k<n) (h:p k=false):allN p n=false:=by
  cases ha:allN p n with
  | false=>rfl
  | true=>rw [bL.1 ha k hk] at h;cases h
def psgOk (P:Int) (p:Psg):Bool:=decide (0≤p.a∧p.a<P∧0≤p.b∧p.b<P∧p.a≠p.b∧1≤p.ticks∧p.ticks≤20∧1≤p.wide∧p.wide≤50 ∧
  ((p.kind=1∨p.kind=2∨p.kind=5)∧p.mach = -1∧p.still=0∨p.kind=3∧(0≤p.mach∧p.mach≤11)∧(1≤p.still∧p.still≤20)∨p.kind=4∧(0≤p.mach∧p.mach≤11)∧p.still=0))
def dJ (ps:List Psg) (k:Nat):Int:=(ps.getD k Psg.zero).mach
def cntM (ps:List Psg) (m:Int) (k:Nat):Int:=sm (fun j=>if dJ ps j=m then 1 else 0) k
theorem Ih {ps:List Psg} {m:Int} {k:Nat}:0≤cntM ps m k:=fB fun i _=>by split <;> omega
theorem Ii {ps:List Psg} {m:Int}:∀ k,cntM ps m k≤k:=by
  intro k
  induction k with
  | zero=>exact Int.le_refl 0
  | succ k ih=>unfold cntM at ih ⊢;rw [sm];split <;> omega
theorem Ax {ps:List Psg} {m:Int} {k:Nat}:cntM ps m k=0↔∀ j,j<k→dJ ps j≠m:=by
  constructor
  · intro h j hj e
    have:=kJ (f:=fun j=>if dJ ps j=m then 1 else 0) (fun i _=>by split <;> omega) h j hj
    simp [e] at this
  · intro h
    exact rN fun i hi=>if_neg (h i hi)
def pasOk (P:Int) (ps:List Psg) (k:Nat):Bool:=psgOk P (ps.getD k Psg.zero)&&decide (dJ ps k<0∨cntM ps (dJ ps k) k=0)
def exOk (P:Int) (xs:List Int) (k:Nat):Bool:=decide (0≤xs.getD k 0∧xs.getD k 0<P∧(k=0∨xs.getD (k-1) 0<xs.getD k 0))
def stOk (P:Int) (ps:List Psg) (xs:List Int):Bool:=(decide (1≤P∧P≤10∧ps.length≤24)&&allN (pasOk P ps) ps.length)&&allN (exOk P xs) xs.length
def stE (P:Int) (ps:List Psg) (xs:List Int):Int:=if stOk P ps xs=true then 0 else 80
theorem Ij {P:Int} {ps:List Psg} {xs:List Int} (h:¬ (1≤P∧P≤10∧ps.length≤24)):stE P ps xs=80:=by
  unfold stE stOk;rw [decide_eq_false h];rfl
theorem Er {P:Int} {ps:List Psg} {xs:List Int} {k:Nat} (hk:k<ps.length) (h:pasOk P ps k=false):stE P ps xs=80:=by
  unfold stE stOk;rw [fD hk h,Bool.and_false];rfl
theorem Pc {P:Int} {ps:List Psg} {xs:List Int} {k:Nat} (hk:k<xs.length) (h:exOk P xs k=false):stE P ps xs=80:=by
  unfold stE stOk;rw [fD hk h,Bool.and_false];rfl
theorem Pd {P:Int} {ps:List Psg} {xs:List Int} (h1:1≤P∧P≤10∧ps.length≤24) (h2:allN (pasOk P ps) ps.length=true) (h3:allN (exOk P xs) xs.length=true):stE P ps xs=0:=by
  unfold stE stOk;rw [decide_eq_true h1,h2,h3];rfl
theorem Ik {P:Int} {ps:List Psg} {xs:List Int}:stE P ps xs=0↔stOk P ps xs=true:=by
  unfold stE;split <;> simp [*]
def CntMap (ps:List Psg) (k:Nat) (l:List (Int×Value)):Prop:=∀ m:Int,(getL l m).getD (.int .i64 0) = .int .i64 (cntM ps m k)
theorem CntMap.nil (ps:List Psg):CntMap ps 0 []:=fun m=>rfl
theorem CntMap.step {ps:List Psg} {k:Nat} {l:List (Int×Value)} (h:CntMap ps k l):CntMap ps (k+1) (setL l (dJ ps k) (.int .i64 (cntM ps (dJ ps k) k+1))):=by
  intro m
  rw [uA]
  unfold cntM
  rw [sm]
  by_cases e:m=dJ ps k
  · subst e;rw [if_pos rfl,if_pos rfl];rfl
  · rw [if_neg e,if_neg (fun h=>e h.symm),Int.add_zero];exact h m
structure StV (P:Int) (ps:List Psg) (xs:List Int):Prop where
  size:1≤P∧P≤10∧ps.length≤24
  pas:∀ k,k<ps.length→psgOk P (ps.getD k Psg.zero)=true
  mach:∀ k,k<ps.length→0≤dJ ps k→∀ j,j<k→dJ ps j≠dJ ps k
  ex:∀ k,k<xs.length→0≤xs.getD k 0∧xs.getD k 0<P∧(k=0∨xs.getD (k-1) 0<xs.getD k 0)
theorem oY {P:Int} {ps:List Psg} {xs:List Int} (h:stE P ps xs=0):StV P ps xs:=by
  have h1:=Ik.1 h
  unfold stOk at h1
  simp only [Bool.and_eq_true,decide_eq_true_eq] at h1
  obtain ⟨⟨h1,h2⟩,h3⟩:=h1
  refine ⟨h1,fun k hk=>?_,fun k hk h0=>?_,fun k hk=>?_⟩
  · have:=bL.1 h2 k hk
    unfold pasOk at this
    rw [Bool.and_eq_true] at this
    exact this.1
  · have:=bL.1 h2 k hk
    unfold pasOk at this
    simp only [Bool.and_eq_true,decide_eq_true_eq] at this
    exact Ax.1 (by omega)
  · have:=bL.1 h3 k hk
    unfold exOk at this
    simpa using this
theorem qO {P:Int} {p:Psg}:psgOk P p=true↔(0≤p.a∧p.a<P∧0≤p.b∧p.b<P∧p.a≠p.b∧1≤p.ticks∧p.ticks≤20∧1≤p.wide∧p.wide≤50 ∧
  ((p.kind=1∨p.kind=2∨p.kind=5)∧p.mach = -1∧p.still=0∨p.kind=3∧(0≤p.mach∧p.mach≤11)∧(1≤p.still∧p.still≤20)∨p.kind=4∧(0≤p.mach∧p.mach≤11)∧p.still=0)):=by
  unfold psgOk;rw [decide_eq_true_eq]
theorem qP {P:Int} {p:Psg} (h:¬ (0≤p.a∧p.a<P∧0≤p.b∧p.b<P∧p.a≠p.b∧1≤p.ticks∧p.ticks≤20∧1≤p.wide∧p.wide≤50 ∧
  ((p.kind=1∨p.kind=2∨p.kind=5)∧p.mach = -1∧p.still=0∨p.kind=3∧(0≤p.mach∧p.mach≤11)∧(1≤p.still∧p.still≤20)∨p.kind=4∧(0≤p.mach∧p.mach≤11)∧p.still=0))):psgOk P p=false:=by
  unfold psgOk;exact decide_eq_false h
def lL (P:Int) (pe:List Int):Bool:=allN (fun k=>decide (0≤pe.getD k 0∧pe.getD k 0≤1000)) pe.length&&decide ((pe.length:Int)=P)
section
variable {T:Tab} {f t k:Nat} {room:Int} {mv:Mv}
end
def capJ (S:Nat→Bool):List Jn→Int
  | []=>0
  | j::J=>(if S j.f=true∧S j.t=false then j.room else 0)+capJ S J
section
variable {P T:Nat} {pe xs:List Int} {hs:List Hd}
end
def layT (P T:Nat) (pe xs:List Int) (hs:List Hd):Tab:=joins (jAll P T pe xs hs)
def layN (P T:Nat) (pe xs:List Int) (hs:List Hd):Net:=(layT P T pe xs hs).net (P*(T+1)+2)
structure LayOk (P T:Nat) (pe xs:List Int) (hs:List Hd):Prop where
  wf:(layN P T pe xs hs).Wf
  ok:Ok (layN P T pe xs hs) (layT P T pe xs hs).room 2199023255552
  cap:∀ S,resid (layN P T pe xs hs) (layT P T pe xs hs).room S=capJ S (jAll P T pe xs hs)
  beg:resid (layN P T pe xs hs) (layT P T pe xs hs).room (fun v=>decide (v=P*(T+1)))≤1000*P
structure EndP (P T:Nat) (pe xs:List Int) (hs:List Hd) (v:Int) (r:RM) (L:Nat→Int):Prop where
  fl:Fl (layN P T pe xs hs) (layT P T pe xs hs).room r (P*(T+1)) (P*(T+1)+1) v
  nn:0≤v
  lev:LevOk (layN P T pe xs hs) r (P*(T+1)) L
  full:L (P*(T+1)+1)<0
def fstB (f:Nat→Bool):Nat→Nat
  | 0=>0
  | n+1=>if fstB f n<n then fstB f n else if f n=true then n else n+1
theorem jG {f:Nat→Bool}:∀ {n},(∀ q,q<n→f q=false)→fstB f n=n:=by
  intro n
  induction n with
  | zero=>intro _;rfl
  | succ n ih=>intro h;rw [fstB,ih (fun q hq=>h q (by omega)),if_neg (by omega),if_neg (by rw [h n (by omega)];simp)]
theorem Es {f:Nat→Bool} {t:Nat} (h1:∀ q,q<t→f q=false) (h2:f t=true):∀ {n},t<n→fstB f n=t:=by
  intro n
  induction n with
  | zero=>intro h;omega
  | succ n ih=>
    intro h
    by_cases e:t=n
    · subst e;rw [fstB,jG h1,if_neg (by omega),if_pos h2]
    · rw [fstB,ih (by omega),if_pos (by omega)]
def sumI (l:List Int):Nat→Int:=sm (fun k=>l.getD k 0)
theorem oZ {N:Net} {r:RM} {S:Nat→Bool} (hn:∀ i,i<N.k→∀ j,j<N.n i→0≤r i j) (h:resid N r S=0):∀ u,u<N.k→S u=true→∀ j,j<N.n u→0<r u j→S (N.to u j)=true:=by
  intro u hu hS j hj hr
  have h1:=kJ (f:=fun i=>sm (fun j=>if S i=true∧S (N.to i j)=false then r i j else 0) (N.n i)) (fun i hi=>fB fun j hj=>by split;exact hn i hi j hj;exact Int.le_refl _) h u hu
  have h2:=kJ (f:=fun j=>if S u=true∧S (N.to u j)=false then r u j else 0) (fun j hj=>by split;exact hn u hu j hj;exact Int.le_refl _) h1 j hj
  cases hs:S (N.to u j) with
  | true=>rfl
  | false=>
    skip
    rw [if_pos ⟨hS,hs⟩] at h2
    omega
def eF (L:Nat→Int) (v:Nat):Bool:=decide (0≤L v)
section
variable {P T:Nat} {pe xs:List Int} {hs:List Hd} {v v':Int} {r r':RM} {L L':Nat→Int}
theorem sR {S:Nat→Bool} (hb:S (P*(T+1))=true) (hx:S (P*(T+1)+1)=false):ind S (P*(T+1))-ind S (P*(T+1)+1)=1:=by
  unfold ind;rw [hb,hx];rfl
theorem EndP.bound (O:LayOk P T pe xs hs) (h:EndP P T pe xs hs v r L) {S:Nat→Bool} (hb:S (P*(T+1))=true) (hx:S (P*(T+1)+1)=false):v≤capJ S (jAll P T pe xs hs):=by
  have h1:=uD (S:=S) (h.fl.ok O.ok)
  rw [h.fl.cut,O.cap,sR hb hx] at h1
  omega
theorem EndP.at_reach (O:LayOk P T pe xs hs) (h:EndP P T pe xs hs v r L):eF L (P*(T+1))=true∧eF L (P*(T+1)+1)=false∧capJ (eF L) (jAll P T pe xs hs)=v:=by
  have hb:eF L (P*(T+1))=true:=by unfold eF;rw [h.lev.b0];rfl
  have hx:eF L (P*(T+1)+1)=false:=by unfold eF;rw [decide_eq_false_iff_not];have:=h.full;omega
  refine ⟨hb,hx,?_⟩
  have h0:resid (layN P T pe xs hs) r (eF L)=0:=rN fun i hi=>rN fun j hj=>by
    split
    · rename_i hc
      obtain ⟨h1,h2⟩:=hc
      unfold eF at h1 h2
      simp only [decide_eq_true_eq,decide_eq_false_iff_not] at h1 h2
      have h3:=h.fl.nn i hi j hj
      by_cases h4:0<r i j
      · exact absurd (h.lev.cl i hi h1 j hj h4) h2
      · omega
    · rfl
  rw [h.fl.cut,O.cap,sR hb hx] at h0
  omega
theorem EndP.unique (O:LayOk P T pe xs hs) (h:EndP P T pe xs hs v r L) (h':EndP P T pe xs hs v' r' L'):v=v':=by
  obtain ⟨a1,a2,a3⟩:=h.at_reach O
  obtain ⟨b1,b2,b3⟩:=h'.at_reach O
  have h1:=h.bound O b1 b2
  have h2:=h'.bound O a1 a2
  omega
theorem EndP.inside (O:LayOk P T pe xs hs) (h:EndP P T pe xs hs v r L) {S:Nat→Bool} (hb:S (P*(T+1))=true) (hx:S (P*(T+1)+1)=false) (hc:capJ S (jAll P T pe xs hs)=v):∀ u,u<P*(T+1)+2→0≤L u→S u=true:=by
  have h0:resid (layN P T pe xs hs) r S=0:=by rw [h.fl.cut,O.cap,sR hb hx];omega
  exact h.lev.least hb (oZ h.fl.nn h0)
theorem EndP.same (O:LayOk P T pe xs hs) (h:EndP P T pe xs hs v r L) (h':EndP P T pe xs hs v' r' L'):∀ u,u<P*(T+1)+2→eF L u=eF L' u:=by
  have e:=h.unique O h'
  obtain ⟨a1,a2,a3⟩:=h.at_reach O
  obtain ⟨b1,b2,b3⟩:=h'.at_reach O
  intro u hu
  have h1:=h.inside O b1 b2 (by omega) u hu
  have h2:=h'.inside O a1 a2 (by omega) u hu
  unfold eF at h1 h2 ⊢
  exact decide_eq_decide.2 ⟨fun h=>of_decide_eq_true (h1 h),fun h=>of_decide_eq_true (h2 h)⟩
end
open Classical in
noncomputable def mfv (P T:Nat) (pe xs:List Int) (hs:List Hd):Int:=if h:∃ v,∃ r L,EndP P T pe xs hs v r L then Classical.choose h else 0
section
variable {P T:Nat} {pe xs:List Int} {hs:List Hd} {v:Int} {r:RM} {L:Nat→Int}
end
def opn (out:Int) (help:Bool) (p:Psg):Bool:=(decide (p.kind=1)||(decide (p.kind=4)&&decide (bitI out p.mach=0)))||(decide (p.kind=5)&&help)
theorem Et {out:Int} {help:Bool} {p:Psg} (h:(p.kind=1∨p.kind=4∧out/2^p.mach.toNat%2=0)∨p.kind=5∧help=true):opn out help p=true:=by
  unfold opn bitI
  simp only [Bool.or_eq_true,Bool.and_eq_true,decide_eq_true_eq]
  exact h
theorem Pe {out:Int} {help:Bool} {p:Psg} (h:(¬p.kind=1∧(¬p.kind=4∨¬out/2^p.mach.toNat%2=0))∧(¬p.kind=5∨help=false)):opn out help p=false:=by
  unfold opn bitI
  simp only [Bool.or_eq_false_iff,Bool.and_eq_false_iff,decide_eq_false_iff_not]
  exact h
def othr (p:Psg) (a:Int):Int:=if p.a=a then p.b else if p.b=a then p.a else -1
def oth (out:Int) (help:Bool) (p:Psg) (a:Int):Int:=if opn out help p=false then -1 else othr p a
inductive Wk (ps:List Psg) (out:Int) (help:Bool):Nat→Nat→Nat→List Nat→Prop
  | nil (a:Nat):Wk ps out help a a 0 []
  | cons {a b c n k:Nat} {l:List Nat} (hk:k<ps.length) (ho:oth out help (ps.getD k Psg.zero) a=(b:Int)) (h:Wk ps out help b c n l):Wk ps out help a c ((ps.getD k Psg.zero).ticks.toNat+n) (k::l)
def PsV (P:Nat) (ps:List Psg):Prop:=∀ k,k<ps.length→(0≤(ps.getD k Psg.zero).a∧(ps.getD k Psg.zero).a<P)∧(0≤(ps.getD k Psg.zero).b∧(ps.getD k Psg.zero).b<P)∧1≤(ps.getD k Psg.zero).ticks∧(ps.getD k Psg.zero).ticks≤20
theorem StV.psv {P:Nat} {ps:List Psg} {xs:List Int} (h:StV P ps xs):PsV P ps:=fun k hk=>by
  have:=qO.1 (h.pas k hk)
  omega
theorem pA {P:Nat} {ps:List Psg} (V:PsV P ps) {out:Int} {help:Bool} {k:Nat} (hk:k<ps.length) {a:Int} (h:0≤oth out help (ps.getD k Psg.zero) a):opn out help (ps.getD k Psg.zero)=true∧oth out help (ps.getD k Psg.zero) a<P∧((ps.getD k Psg.zero).a=a∧oth out help (ps.getD k Psg.zero) a=(ps.getD k Psg.zero).b∨(ps.getD k Psg.zero).b=a∧oth out help (ps.getD k Psg.zero) a=(ps.getD k Psg.zero).a):=by
  have:=V k hk
  unfold oth othr at h ⊢
  split at h
  · omega
  · rename_i h1
    refine ⟨by simpa using h1,?_⟩
    rw [if_neg h1]
    split at h
    · rename_i h2;rw [if_pos h2];exact ⟨by omega,.inl ⟨h2,rfl⟩⟩
    · rename_i h2
      rw [if_neg h2]
      split at h
      · rename_i h3;rw [if_pos h3];exact ⟨by omega,.inr ⟨h3,rfl⟩⟩
      · omega
def FixAt (ps:List Psg) (out:Int) (help:Bool) (tk:Nat→Int) (i k:Nat):Prop:=∀ b:Nat,oth out help (ps.getD k Psg.zero) i=(b:Int)→0≤tk b→0≤tk i∧tk i≤tk b+(ps.getD k Psg.zero).ticks
def potF (P:Nat) (tk:Nat→Int):Int:=sm (fun i=>if tk i<0 then 1000 else tk i) P
def cntF (P:Nat) (tk:Nat→Int):Int:=sm (fun i=>if tk i<0 then 0 else 1) P
structure FarI (P:Nat) (ps:List Psg) (out:Int) (help:Bool) (to:Nat) (tk:Nat→Int):Prop where
  to0:tk to=0
  low:∀ i,-1≤tk i
  walk:∀ i,i<P→0≤tk i→∃ l,Wk ps out help i to (tk i).toNat l
  bd:∀ i,i<P→tk i≤20*(cntF P tk-1)
theorem Il {P:Nat} {tk:Nat→Int}:cntF P tk≤P:=by
  unfold cntF
  induction P with
  | zero=>exact Int.le_refl 0
  | succ n ih=>rw [sm];split <;> omega
theorem zD {P:Nat} {tk:Nat→Int}:0≤potF P tk:=fB fun i _=>by split <;> omega
def tk0 (to:Nat) (i:Nat):Int:=if i=to then 0 else -1
section
variable {P:Nat} {ps:List Psg} {out:Int} {help:Bool} {to:Nat} {tk:Nat→Int}
theorem FarI.init (hto:to<P):FarI P ps out help to (tk0 to):=by
  have h1:tk0 to to=0:=by unfold tk0;rw [if_pos rfl]
  have hc:1≤cntF P (tk0 to):=by
    have:=Le (f:=fun i=>if tk0 to i<0 then 0 else 1) (fun i _=>by split <;> omega) hto
    rw [h1] at this
    exact this
  refine ⟨h1,fun i=>?_,fun i _ h0=>?_,fun i _=>?_⟩
  · unfold tk0;split <;> omega
  · unfold tk0 at h0 ⊢
    split at h0
    · rename_i e;subst e;rw [if_pos rfl];exact ⟨_,Wk.nil _⟩
    · omega
  · unfold tk0 at hc ⊢;split <;> omega
theorem FarI.small (I:FarI P ps out help to tk) (hP:P≤10) {i:Nat} (hi:i<P):tk i≤180:=by
  have:=I.bd i hi
  have:=Il (P:=P) (tk:=tk)
  omega
theorem FarI.relax (I:FarI P ps out help to tk) (V:PsV P ps) {i b k:Nat} (hi:i<P) (hb:b<P) (hk:k<ps.length) (ho:oth out help (ps.getD k Psg.zero) i=(b:Int)) (h0:0≤tk b) (hl:tk i<0∨tk b+(ps.getD k Psg.zero).ticks<tk i) :
    FarI P ps out help to (upd tk i (tk b+(ps.getD k Psg.zero).ticks))∧potF P (upd tk i (tk b+(ps.getD k Psg.zero).ticks))+1≤potF P tk∨900<tk b+(ps.getD k Psg.zero).ticks:=by
  by_cases hbig:900<tk b+(ps.getD k Psg.zero).ticks
  · exact .inr hbig
  refine .inl ?_
  have ht:1≤(ps.getD k Psg.zero).ticks∧(ps.getD k Psg.zero).ticks≤20:=(V k hk).2.2
  have hti:i≠to:=fun e=>by subst e;have:=I.to0;omega
  have hbi:b≠i:=fun e=>by subst e;omega
  have hc:cntF P (upd tk i (tk b+(ps.getD k Psg.zero).ticks))=cntF P tk+(if tk i<0 then 1 else 0):=by
    unfold cntF
    rw [oB (f:=fun i=>if tk i<0 then 0 else 1) hi (fun j _ hj=>by rw [dZ _ _ hj]),dI,if_neg (by omega)]
    split <;> omega
  refine ⟨⟨by rw [dZ _ _ (fun e=>hti e.symm)];exact I.to0,fun j=>?_,fun j hj h=>?_,fun j hj=>?_⟩,?_⟩
  · by_cases e:j=i
    · subst e;rw [dI];omega
    · rw [dZ _ _ e];exact I.low j
  · by_cases e:j=i
    · subst e
      rw [dI]
      obtain ⟨l,hw⟩:=I.walk b hb h0
      have:=Wk.cons hk ho hw
      rw [show (tk b+(ps.getD k Psg.zero).ticks).toNat=(ps.getD k Psg.zero).ticks.toNat+(tk b).toNat by omega]
      exact ⟨_,this⟩
    · rw [dZ _ _ e] at h ⊢;exact I.walk j hj h
  · rw [hc]
    have hbb:=I.bd b hb
    by_cases e:j=i
    · subst e
      rw [dI]
      have:=I.bd j hj
      split <;> omega
    · rw [dZ _ _ e];have:=I.bd j hj;split <;> omega
  · unfold potF
    rw [oB (f:=fun i=>if tk i<0 then 1000 else tk i) hi (fun j _ hj=>by rw [dZ _ _ hj]),dI,if_neg (by omega)]
    split <;> omega
theorem FarI.step (I:FarI P ps out help to tk) (V:PsV P ps) (hP:P≤10) {i b k:Nat} (hi:i<P) (hb:b<P) (hk:k<ps.length) (ho:oth out help (ps.getD k Psg.zero) i=(b:Int)) (h0:0≤tk b) (hl:tk i<0∨tk b+(ps.getD k Psg.zero).ticks<tk i) :
    FarI P ps out help to (upd tk i (tk b+(ps.getD k Psg.zero).ticks))∧potF P (upd tk i (tk b+(ps.getD k Psg.zero).ticks))+1≤potF P tk:=by
  rcases I.relax V hi hb hk ho h0 hl with h|h
  · exact h
  · exfalso
    have:=I.small hP hb
    have:(ps.getD k Psg.zero).ticks≤20:=(V k hk).2.2.2
    omega
end
theorem pB {ps:List Psg} {out:Int} {help:Bool} {tk:Nat→Int} {i k:Nat} (h:oth out help (ps.getD k Psg.zero) i<0∨tk (oth out help (ps.getD k Psg.zero) i).toNat<0∨(0≤tk i∧tk i≤tk (oth out help (ps.getD k Psg.zero) i).toNat+(ps.getD k Psg.zero).ticks)):FixAt ps out help tk i k:=fun b hb h0=>by
  rw [hb,Int.toNat_natCast] at h
  omega
def b2i (b:Bool):Int:=if b=true then 1 else 0
theorem sT {P:Nat} {ps:List Psg} {out:Int} {help:Bool} {tk:Nat→Int} {m:Bool} {f k:Nat} (h:m=false→(∀ i,i<f→∀ k,k<ps.length→FixAt ps out help tk i k)∧∀ q,q<k→FixAt ps out help tk f q) (hk:FixAt ps out help tk f k) :
    m=false→(∀ i,i<f→∀ k,k<ps.length→FixAt ps out help tk i k)∧∀ q,q<k+1→FixAt ps out help tk f q:=fun e=>⟨(h e).1,fun q hq=>by
  by_cases e2:q=k
  · subst e2;exact hk
  · exact (h e).2 q (by omega)⟩
theorem Mc {P:Nat} {ps:List Psg} {out:Int} {help:Bool} {tk:Nat→Int} {m:Bool} {f k:Nat} (hk:ps.length≤k) (h:m=false→(∀ i,i<f→∀ k,k<ps.length→FixAt ps out help tk i k)∧∀ q,q<k→FixAt ps out help tk f q) :
    m=false→∀ i,i<f+1→∀ k,k<ps.length→FixAt ps out help tk i k:=fun e i hi q hq=>by
  by_cases e2:i=f
  · subst e2;exact (h e).2 q (by omega)
  · exact (h e).1 i (by omega) q hq
theorem FarI.up {P:Nat} {ps:List Psg} {out:Int} {help:Bool} {to:Nat} {tk:Nat→Int} (I:FarI P ps out help to tk) (V:PsV P ps) (hP:P≤10) {i k:Nat} {X:Int} {m:Bool} {Q:Prop} (hi:i<P) (hk:k<ps.length) (ho:0≤oth out help (ps.getD k Psg.zero) i) (hb:oth out help (ps.getD k Psg.zero) i<P) (h0:0≤tk (oth out help (ps.getD k Psg.zero) i).toNat)
    (hl:tk i<0∨tk (oth out help (ps.getD k Psg.zero) i).toNat+(ps.getD k Psg.zero).ticks<tk i) (hp:potF P tk+b2i m≤X) :
    FarI P ps out help to (upd tk i (tk (oth out help (ps.getD k Psg.zero) i).toNat+(ps.getD k Psg.zero).ticks))∧potF P (upd tk i (tk (oth out help (ps.getD k Psg.zero) i).toNat+(ps.getD k Psg.zero).ticks))+b2i true≤X∧(true=false→Q):=by
  have h:=I.step V hP hi (b:=(oth out help (ps.getD k Psg.zero) i).toNat) (by omega) hk (by omega) h0 hl
  have h8:b2i true=1:=rfl
  have h9:0≤b2i m:=by unfold b2i;split <;> omega
  exact ⟨h.1,by omega,fun e=>by cases e⟩
structure FarOk (P:Nat) (ps:List Psg) (out:Int) (help:Bool) (to:Nat) (tk:Nat→Int):Prop where
  to0:tk to=0
  low:∀ i,-1≤tk i
  walk:∀ i,i<P→0≤tk i→∃ l,Wk ps out help i to (tk i).toNat l
  fix:∀ i,i<P→∀ k,k<ps.length→FixAt ps out help tk i k
  sml:∀ i,i<P→tk i≤200
section
variable {P:Nat} {ps:List Psg} {out:Int} {help:Bool} {to:Nat} {tk tk':Nat→Int}
theorem FarI.done (I:FarI P ps out help to tk) (hP:P≤10) (h:∀ i,i<P→∀ k,k<ps.length→FixAt ps out help tk i k):FarOk P ps out help to tk:=
  ⟨I.to0,I.low,I.walk,h,fun i hi=>by have:=I.small hP hi;omega⟩
theorem FarOk.least (h:FarOk P ps out help to tk) (V:PsV P ps) {a c n:Nat} {l:List Nat} (W:Wk ps out help a c n l):a<P→c=to→0≤tk a∧tk a≤n:=by
  induction W with
  | nil a=>intro _ e;subst e;rw [h.to0];exact ⟨Int.le_refl 0,Int.le_refl 0⟩
  | @cons a b c n k l hk ho _ ih=>
    intro ha e
    have hb:=(pA V hk (a:=(a:Int)) (by rw [ho];omega)).2.1
    rw [ho] at hb
    have h1:=ih (by omega) e
    have h2:=h.fix a ha k hk b ho h1.1
    have:=(V k hk).2.2
    omega
theorem FarOk.unique (h:FarOk P ps out help to tk) (h':FarOk P ps out help to tk') (V:PsV P ps) {i:Nat} (hi:i<P):tk i=tk' i:=by
  have key:∀ {t t':Nat→Int},FarOk P ps out help to t→FarOk P ps out help to t'→0≤t i→0≤t' i∧t' i≤t i:=fun {t t'} H H' h0=>by
    obtain ⟨l,W⟩:=H.walk i hi h0
    have:=H'.least V W hi rfl
    omega
  have l1:=h.low i
  have l2:=h'.low i
  by_cases h0:0≤tk i
  · have h1:=key h h' h0
    have h2:=key h' h h1.1
    omega
  · by_cases h1:0≤tk' i
    · have:=key h' h h1;omega
    · omega
end
open Classical in
noncomputable def dst (P:Nat) (ps:List Psg) (out:Int) (help:Bool) (to:Nat) (i:Nat):Int:=if h:∃ tk,FarOk P ps out help to tk then (if i<P then Classical.choose h i else -1) else 0
section
variable {P:Nat} {ps:List Psg} {out:Int} {help:Bool} {to:Nat} {tk:Nat→Int}
theorem kL (V:PsV P ps) (h:FarOk P ps out help to tk) {i:Nat} (hi:i<P):dst P ps out help to i=tk i:=by
  have he:∃ tk,FarOk P ps out help to tk:=⟨tk,h⟩
  unfold dst
  rw [dif_pos he,if_pos hi]
  exact (Classical.choose_spec he).unique h V hi
theorem Md (V:PsV P ps) (hto:to<P) (h:FarOk P ps out help to tk):FarOk P ps out help to (dst P ps out help to):=by
  have he:∃ tk,FarOk P ps out help to tk:=⟨tk,h⟩
  have hd:∀ i,¬ i<P→dst P ps out help to i = -1:=fun i hi=>by unfold dst;rw [dif_pos he,if_neg hi]
  refine ⟨(kL V h hto).trans h.to0,fun i=>?_,fun i hi=>?_,fun i hi k hk b hb h0=>?_,fun i hi=>?_⟩
  · by_cases hi:i<P
    · rw [kL V h hi];exact h.low i
    · rw [hd i hi];omega
  · rw [kL V h hi];exact h.walk i hi
  · have hb2:=(pA V hk (a:=(i:Int)) (by rw [hb];omega)).2.1
    rw [hb] at hb2
    rw [kL V h (i:=b) (by omega)] at h0 ⊢
    rw [kL V h hi]
    exact h.fix i hi k hk b hb h0
  · rw [kL V h hi];exact h.sml i hi
end
def stepB (ps:List Psg) (out:Int) (help:Bool) (d:Nat→Int) (at_ k:Nat):Bool:=
  decide (0≤oth out help (ps.getD k Psg.zero) at_)&&(decide (0≤d (oth out help (ps.getD k Psg.zero) at_).toNat)&&decide (d (oth out help (ps.getD k Psg.zero) at_).toNat+(ps.getD k Psg.zero).ticks=d at_))
def stepK (ps:List Psg) (out:Int) (help:Bool) (d:Nat→Int) (at_:Nat):Nat:=fstB (stepB ps out help d at_) ps.length
def wayG (ps:List Psg) (out:Int) (help:Bool) (d:Nat→Int) (to:Nat):Nat→Nat→List Nat
  | 0,_=>[]
  | g+1,a=>if a=to then [] else stepK ps out help d a::wayG ps out help d to g (oth out help (ps.getD (stepK ps out help d a) Psg.zero) a).toNat
section
variable {P:Nat} {ps:List Psg} {out:Int} {help:Bool} {to:Nat} {d:Nat→Int}
theorem zE {g:Nat}:wayG ps out help d to g to=[]:=by
  cases g with
  | zero=>rfl
  | succ g=>unfold wayG;rw [if_pos rfl]
theorem zF (V:PsV P ps) {a k:Nat} (hk:k<ps.length) (h:stepB ps out help d a k=true):∃ b:Nat,oth out help (ps.getD k Psg.zero) a=(b:Int)∧b<P∧0≤d b∧d b+(ps.getD k Psg.zero).ticks=d a∧1≤(ps.getD k Psg.zero).ticks:=by
  unfold stepB at h
  simp only [Bool.and_eq_true,decide_eq_true_eq] at h
  have h1:=pA V hk h.1
  have hV:=(V k hk).2.2
  exact ⟨(oth out help (ps.getD k Psg.zero) a).toNat,by omega,by omega,h.2.1,h.2.2,hV.1⟩
theorem FarOk.step_ex (h:FarOk P ps out help to d) (V:PsV P ps) {a:Nat} (ha:a<P) (h0:0≤d a) (hne:a≠to):∃ k,k<ps.length∧stepB ps out help d a k=true:=by
  obtain ⟨l,W⟩:=h.walk a ha h0
  generalize hn:(d a).toNat=n at W
  cases W with
  | nil=>exact absurd rfl hne
  | @cons _ b _ n2 k l2 hk ho W2=>
    have hb:=(pA V hk (a:=(a:Int)) (by rw [ho];omega)).2.1
    rw [ho] at hb
    have h1:=h.least V W2 (by omega) rfl
    have h2:=h.fix a ha k hk b ho h1.1
    have:=(V k hk).2.2
    refine ⟨k,hk,?_⟩
    unfold stepB
    simp only [Bool.and_eq_true,decide_eq_true_eq]
    rw [ho,Int.toNat_natCast]
    omega
theorem FarOk.stp (h:FarOk P ps out help to d) (V:PsV P ps) {a:Nat} (ha:a<P) (h0:0≤d a) (hne:a≠to):stepK ps out help d a<ps.length∧stepB ps out help d a (stepK ps out help d a)=true∧∀ q,q<stepK ps out help d a→stepB ps out help d a q=false:=by
  obtain ⟨k,hk,hs⟩:=h.step_ex V ha h0 hne
  have key:∀ n,(∃ k,k<n∧stepB ps out help d a k=true)→fstB (stepB ps out help d a) n<n∧stepB ps out help d a (fstB (stepB ps out help d a) n)=true∧∀ q,q<fstB (stepB ps out help d a) n→stepB ps out help d a q=false:=by
    intro n
    induction n with
    | zero=>rintro ⟨k,hk,_⟩;omega
    | succ n ih=>
      rintro ⟨k,hk,hs⟩
      by_cases he:∃ k,k<n∧stepB ps out help d a k=true
      · obtain ⟨h1,h2,h3⟩:=ih he
        rw [fstB,if_pos h1]
        exact ⟨by omega,h2,h3⟩
      · have hno:∀ q,q<n→stepB ps out help d a q=false:=fun q hq=>by
          cases hb:stepB ps out help d a q with
          | false=>rfl
          | true=>exact absurd ⟨q,hq,hb⟩ he
        have hkn:k=n:=by
          by_cases e:k<n
          · exact absurd ⟨k,e,hs⟩ he
          · omega
        subst hkn
        rw [fstB,jG hno,if_neg (by omega),if_pos hs]
        exact ⟨by omega,hs,hno⟩
  exact key _ ⟨k,hk,hs⟩
theorem Ay {a k g:Nat} (hne:a≠to) (h:stepK ps out help d a=k):wayG ps out help d to (g+1) a=k::wayG ps out help d to g (oth out help (ps.getD k Psg.zero) a).toNat:=by
  rw [wayG,if_neg hne,h]
theorem FarOk.way (h:FarOk P ps out help to d) (V:PsV P ps):∀ (g a:Nat),a<P→0≤d a→d a≤g→Wk ps out help a to (d a).toNat (wayG ps out help d to g a):=by
  intro g
  induction g with
  | zero=>
    intro a ha h0 hg
    by_cases e:a=to
    · subst e;rw [zE,h.to0];exact Wk.nil _
    · obtain ⟨h1,h2,h3⟩:=h.stp V ha h0 e
      obtain ⟨b,hb,hbP,hb0,hbd,hbt⟩:=zF V h1 h2
      omega
  | succ g ih=>
    intro a ha h0 hg
    by_cases e:a=to
    · subst e;rw [zE,h.to0];exact Wk.nil _
    · obtain ⟨h1,h2,h3⟩:=h.stp V ha h0 e
      obtain ⟨b,hb,hbP,hb0,hbd,hbt⟩:=zF V h1 h2
      rw [Ay e rfl,hb,Int.toNat_natCast]
      have:=Wk.cons h1 hb (ih b hbP hb0 (by omega))
      rw [show (d a).toNat=(ps.getD (stepK ps out help d a) Psg.zero).ticks.toNat+(d b).toNat by omega]
      exact this
end
def plOk (P:Int) (l:List Int):Bool:=allN (fun k=>decide (0≤l.getD k 0∧l.getD k 0≤P-1)) l.length
theorem xG {P:Int} {l:List Int} {k:Nat} (hk:k<l.length) (h:¬ (0≤l.getD k 0∧l.getD k 0≤P-1)):plOk P l=false:=fD hk (decide_eq_false h)
theorem Az {x y:Int}:∀ k j,k<2→j<1→([[Value.int .i64 x],[Value.int .i64 y]].getD k []).getD j undef=icl [x,y] k j:=by
  intro k j hk hj
  have:j=0:=by omega
  subst this
  match k,hk with
  | 0,_=>rfl
  | 1,_=>rfl
section
variable {ps:List Psg} {out:Int} {help:Bool} {d:Nat→Int} {p:Nat} {k:Nat}
theorem zG {q:Psg} {a:Int} (h:opn out help q=true):oth out help q a=othr q a:=by unfold oth;rw [if_neg (by rw [h];simp)]
theorem Eu {q:Psg} {a:Int} (h:opn out help q=false):oth out help q a = -1:=by unfold oth;rw [if_pos h]
end
section
variable {ps:List Psg} {out kind:Int}
end
theorem Wk.mono' {ps:List Psg} {out out':Int} {help help':Bool} {a c n:Nat} {l:List Nat} (W:Wk ps out help a c n l):(∀ k,k ∈ l→k<ps.length→opn out help (ps.getD k Psg.zero)=true→opn out' help' (ps.getD k Psg.zero)=true)→Wk ps out' help' a c n l:=by
  induction W with
  | nil a=>exact fun _ => .nil a
  | @cons a b c n k l hk ho _ ih=>
    intro h
    have ho1:opn out help (ps.getD k Psg.zero)=true:=by
      cases hb:opn out help (ps.getD k Psg.zero) with
      | true=>rfl
      | false=>rw [Eu hb] at ho;omega
    refine .cons hk ?_ (ih fun q hq=>h q (List.mem_cons_of_mem _ hq))
    rw [zG (h k (List.mem_cons_self ..) hk ho1),←zG ho1]
    exact ho
theorem Wk.mono {ps:List Psg} {out out':Int} {help help':Bool} (h:∀ k,k<ps.length→opn out help (ps.getD k Psg.zero)=true→opn out' help' (ps.getD k Psg.zero)=true) {a c n:Nat} {l:List Nat} (W:Wk ps out help a c n l):Wk ps out' help' a c n l:=W.mono' fun k _=>h k
end
section
section
variable {ps:List Psg} {out:Int} {help:Bool} {l:List Int} {a b:Int} {k:Nat} {s:Int×Int}
end
section
variable {P:Nat} {ps:List Psg} {xs:List Int} {out:Int} {help:Bool} {fr to:Nat} {l:List Int}
end
structure Hr where
  out:Int
  help:Bool
  pe:List Int
  A:Option Addr
  c:Nat
def Hr.zero:Hr:=⟨0,false,[],none,0⟩
def Hr.cell (h:Hr):Nat→Value
  | 0 => .int .i64 h.out
  | 1 => .bool h.help
  | _ => .slice h.A h.pe.length h.c
structure Hq where
  out:Int
  help:Bool
  pe:List Int
def Hq.zero:Hq:=⟨0,false,[]⟩
def Hr.q (h:Hr):Hq:=⟨h.out,h.help,h.pe⟩
def hcl (l:List Hq) (DA:Nat→Option Addr) (dc:Nat→Nat) (k:Nat):Nat→Value
  | 0 => .int .i64 (l.getD k Hq.zero).out
  | 1 => .bool (l.getD k Hq.zero).help
  | _ => .slice (DA k) (l.getD k Hq.zero).pe.length (dc k)
structure Prm where
  fr:Int
  to:Int
  first:Int
  last:Int
  helped:Bool
def Prm.zero:Prm:=⟨0,0,0,0,false⟩
def Prm.cell (p:Prm):Nat→Value
  | 0 => .int .i64 p.fr
  | 1 => .int .i64 p.to
  | 2 => .int .i64 p.first
  | 3 => .int .i64 p.last
  | _ => .bool p.helped
def Ev (l:List Prm) (k j:Nat):Value:=(l.getD k Prm.zero).cell j
def hqOk (pl:Int) (h:Hq):Bool:=decide (0≤h.out∧h.out≤4095)&&lL pl h.pe
def dayOk (pl:Int) (day:List Hq):Bool:=allN (fun k=>hqOk pl (day.getD k Hq.zero)) day.length&&decide (day.length≤48)
def dayE (pl:Int) (ps:List Psg) (xs:List Int) (day:List Hq):Int:=if stE pl ps xs≠0 then stE pl ps xs else if dayOk pl day=true then 0 else 81
def prmOk (pl:Int) (p:Prm):Bool:=decide (0≤p.fr∧p.fr≤pl-1∧0≤p.to∧p.to≤pl-1∧0≤p.first∧p.first≤p.last∧p.last<48)
def prsOk (pl:Int) (l:List Prm):Bool:=allN (fun k=>prmOk pl (l.getD k Prm.zero)) l.length&&decide (l.length≤40)
def keptE (pl:Int) (ps:List Psg) (xs:List Int) (day:List Hq) (l:List Prm):Int:=if dayE pl ps xs day≠0 then dayE pl ps xs day else if prsOk pl l=true then 0 else 82
theorem zH {pl:Int} {ps:List Psg} {xs:List Int} {day:List Hq} (h:dayE pl ps xs day=0):stE pl ps xs=0∧dayOk pl day=true:=by
  unfold dayE at h
  split at h
  · omega
  · split at h
    · exact ⟨by omega,by assumption⟩
    · cases h
theorem Ew {pl:Int} {day:List Hq} (h:dayOk pl day=true):day.length≤48∧∀ k,k<day.length→(0≤(day.getD k Hq.zero).out∧(day.getD k Hq.zero).out≤4095)∧lL pl (day.getD k Hq.zero).pe=true:=by
  unfold dayOk at h
  simp only [Bool.and_eq_true,decide_eq_true_eq] at h
  refine ⟨h.2,fun k hk=>?_⟩
  have:=bL.1 h.1 k hk
  unfold hqOk at this
  simpa using this
theorem uX {pl:Int} {ps:List Psg} {xs:List Int} {day:List Hq} {l:List Prm} (h:keptE pl ps xs day l=0):dayE pl ps xs day=0∧l.length≤40∧∀ k,k<l.length→prmOk pl (l.getD k Prm.zero)=true:=by
  unfold keptE at h
  split at h
  · omega
  · split at h
    · rename_i h1 h2
      unfold prsOk at h2
      simp only [Bool.and_eq_true,decide_eq_true_eq] at h2
      exact ⟨by omega,h2.2,bL.1 h2.1⟩
    · cases h
theorem qQ {pl:Int} {p:Prm}:prmOk pl p=true↔(0≤p.fr∧p.fr≤pl-1∧0≤p.to∧p.to≤pl-1∧0≤p.first∧p.first≤p.last∧p.last<48):=by unfold prmOk;rw [decide_eq_true_eq]
noncomputable def eA (P:Nat) (ps:List Psg) (h:Hq) (n:Nat) (p:Prm):Bool:=(decide (p.first≤(n:Int))&&decide ((n:Int)≤p.last))&&decide (dst P ps h.out (h.help&&p.helped) p.to.toNat p.fr.toNat<0)
noncomputable def lM (P:Nat) (ps:List Psg) (day:List Hq) (l:List Prm) (h:Nat):Nat:=fstB (fun i=>eA P ps (day.getD h Hq.zero) h (l.getD i Prm.zero)) l.length
noncomputable def pC (P:Nat) (ps:List Psg) (day:List Hq) (l:List Prm):Nat:=fstB (fun h=>decide (lM P ps day l h<l.length)) day.length
noncomputable def keptV (pl:Int) (ps:List Psg) (xs:List Int) (day:List Hq) (l:List Prm):Int×Int×Bool×Int:=
  if keptE pl ps xs day l≠0 then (0,0,false,keptE pl ps xs day l)
  else if pC pl.toNat ps day l<day.length then ((pC pl.toNat ps day l:Int),(lM pl.toNat ps day l (pC pl.toNat ps day l):Int),false,0) else (0,0,true,0)
section
variable {P:Nat} {ps:List Psg} {xs:List Int} {day:List Hq} {l:List Prm} {h i:Nat}
theorem lN {pl:Int} (he:keptE pl ps xs day l≠0):keptV pl ps xs day l=(0,0,false,keptE pl ps xs day l):=by unfold keptV;rw [if_pos he]
theorem Im (he:keptE P ps xs day l=0) (hh:h<day.length) (hi:i<l.length) (h1:∀ q,q<h→∀ j,j<l.length→eA P ps (day.getD q Hq.zero) q (l.getD j Prm.zero)=false) (h2:∀ j,j<i→eA P ps (day.getD h Hq.zero) h (l.getD j Prm.zero)=false)
    (hb:eA P ps (day.getD h Hq.zero) h (l.getD i Prm.zero)=true):keptV P ps xs day l=((h:Int),(i:Int),false,0):=by
  have e1:lM P ps day l h=i:=Es h2 hb hi
  have e2:pC P ps day l=h:=Es (fun q hq=>decide_eq_false (by unfold lM;rw [jG (h1 q hq)];omega)) (decide_eq_true (by rw [e1];exact hi)) hh
  unfold keptV
  rw [if_neg (by omega),Int.toNat_natCast,e2,if_pos hh,e1]
theorem Ex (he:keptE P ps xs day l=0) (h1:∀ q,q<day.length→∀ j,j<l.length→eA P ps (day.getD q Hq.zero) q (l.getD j Prm.zero)=false):keptV P ps xs day l=(0,0,true,0):=by
  have e2:pC P ps day l=day.length:=jG (fun q hq=>decide_eq_false (by unfold lM;rw [jG (h1 q hq)];omega))
  unfold keptV
  rw [if_neg (by omega),Int.toNat_natCast,e2,if_neg (by omega)]
theorem Ey {pl:Int} {k:Nat} (hk:k<day.length) (hx:hqOk pl (day.getD k Hq.zero)=false):dayOk pl day=false:=by unfold dayOk;rw [fD hk hx];rfl
theorem Ez {pl:Int} (h1:allN (fun k=>hqOk pl (day.getD k Hq.zero)) day.length=true):dayOk pl day=decide (day.length≤48):=by unfold dayOk;rw [h1];rfl
theorem Ba (h1:∀ q,q<h→∀ j,j<l.length→eA P ps (day.getD q Hq.zero) q (l.getD j Prm.zero)=false) (h2:∀ j,j<i→eA P ps (day.getD h Hq.zero) h (l.getD j Prm.zero)=false) (hi:l.length≤i) :
    ∀ q,q<h+1→∀ j,j<l.length→eA P ps (day.getD q Hq.zero) q (l.getD j Prm.zero)=false:=fun q hq j hj=>by
  by_cases e:q=h
  · subst e;exact h2 j (by omega)
  · exact h1 q (by omega) j hj
theorem Io {f:Nat→Bool} (h:∀ j,j<i→f j=false) (hi:f i=false):∀ j,j<i+1→f j=false:=fun j hj=>by
  by_cases e:j=i
  · subst e;exact hi
  · exact h j (by omega)
end
section
variable {w w0:World} {F0:Nat→Prop} {R:List Mem} {e sz i k:Nat} {A:Nat→Option Addr} {n c:Nat→Nat} {cell:Nat→Nat→Nat→Value}
theorem ragM.none (S:St w0 F0 R w) (e sz:Nat) (A:Nat→Option Addr) (n c:Nat→Nat) (cell:Nat→Nat→Nat→Value):St w0 F0 (ragM e sz (fun q=>q<0) A n c cell::R) w:=
  S.new (Keeps.refl _ _) ⟨fun q hq=>absurd hq (Nat.not_lt_zero q),fun q _ hq=>absurd hq (Nat.not_lt_zero q)⟩ (fun b ⟨q,hq,_⟩=>absurd hq (Nat.not_lt_zero q))
theorem ragM.add {A':Option Addr} {n' c':Nat} {cell':Nat→Nat→Value} (S:St w0 F0 (ownM e sz A' n' c' cell'::R) w) (hi:R[i]?=some (ragM e sz (fun q=>q<k) A n c cell)) :
    St w0 F0 (R.set i (ragM e sz (fun q=>q<k+1) (upd A k A') (upd n k n') (upd c k c') (upd cell k cell'))) w:=by
  have e1:(fun q=>q<k)=(fun q=>q<k+1∧q≠k):=by funext q;exact propext ⟨fun h=>by omega,fun h=>by omega⟩
  rw [e1] at hi
  exact ragM.put (D:=fun q=>q<k+1) S hi (by omega)
theorem ragM.recell {n':Nat→Nat} {A':Nat→Option Addr} {c':Nat→Nat} {cell':Nat→Nat→Nat→Value} {D:Nat→Prop} (S:St w0 F0 R w) (hi:R[i]?=some (ragM e sz D A n c cell)) (h:∀ q,D q→A q=A' q∧n q=n' q∧c q=c' q∧cell q=cell' q):St w0 F0 (R.set i (ragM e sz D A' n' c' cell')) w:=by
  have hrow:∀ q,D q→ownM e sz (A' q) (n' q) (c' q) (cell' q)=ownM e sz (A q) (n q) (c q) (cell q):=fun q hq=>by obtain ⟨h1,h2,h3,h4⟩:=h q hq;rw [h1,h2,h3,h4]
  refine S.imp hi (fun ⟨h1,h2⟩=>⟨fun q hq=>by rw [hrow q hq];exact h1 q hq,fun q r hq hr hqr b hb hb'=>?_⟩) ?_
  · rw [hrow q hq] at hb;rw [hrow r hr] at hb';exact h2 q r hq hr hqr b hb hb'
  · rintro b ⟨q,hq,hb⟩;rw [hrow q hq] at hb;exact ⟨q,hq,hb⟩
end
end
section
structure Chain where
  links:Int
  pitch:Int
  limit:Int
structure Gauge where
  fr:Int
  to:Int
  lo:Int
  hi:Int
def Gauge.zero:Gauge:=⟨0,0,0,0⟩
def Gauge.cell (g:Gauge):Nat→Value
  | 0 => .int .i64 g.fr
  | 1 => .int .i64 g.to
  | 2 => .int .i64 g.lo
  | _ => .int .i64 g.hi
abbrev Chain.val (c:Chain):Value := .agg [.int .i64 c.links,.int .i64 c.pitch,.int .i64 c.limit].toArray
theorem uY {α:Type} {l:List α} {p:α→Bool} {k:Nat} {d:α} (hk:k<l.length) (h:(l.take k).all p=true) (hp:p (l.getD k d)=true):(l.take (k+1)).all p=true:=by
  rw [List.take_succ_eq_append_getElem hk,List.all_append,h]
  simp only [List.getD_eq_getElem?_getD,List.getElem?_eq_getElem hk,Option.getD_some] at hp
  simp [hp]
theorem qR {α:Type} {l:List α} {p:α→Bool} {k:Nat} {d:α} (hk:k<l.length) (hp:p (l.getD k d)=false):l.all p=false:=by
  simp only [List.getD_eq_getElem?_getD,List.getElem?_eq_getElem hk,Option.getD_some] at hp
  rw [←Bool.not_eq_true,List.all_eq_true]
  intro h
  have:=h _ (List.getElem_mem hk)
  rw [hp] at this
  cases this
abbrev IM:=Nat→Nat→Int
section
variable (M:IM) (a b:Nat) (far:Int)
end
def diagB (n:Nat) (M:IM):Bool:=(List.range n).all fun k=>decide (0≤M k k)
theorem jH {n k:Nat} {p:Nat→Bool}:(List.range (k+1)).all p=((List.range k).all p&&p k):=by
  rw [List.range_succ,List.all_append];simp
theorem iS {n k:Nat} {p:Nat→Bool} (hk:k<n) (h:p k=false):(List.range n).all p=false:=by
  rw [←Bool.not_eq_true,List.all_eq_true]
  intro hh
  have:=hh k (List.mem_range.2 hk)
  rw [h] at this
  cases this
def wide:Int:=1099511627776
structure Good (n:Nat) (M:IM):Prop where
  diag:∀ x,x<n→M x x=0
  tri:∀ x y z,x<n→y<n→z<n→M x z≤M x y+M y z
  top:∀ x y,x<n→y<n→M x y≤wide
theorem Good.low {n:Nat} {M:IM} (h:Good n M) {x y:Nat} (hx:x<n) (hy:y<n) : -wide≤M x y:=by
  have h1:=h.tri x y x hx hy hx
  have h2:=h.diag x hx
  have h3:=h.top y x hy hx
  omega
theorem qS {n:Nat} {M:IM}:diagB n M=true↔∀ k,k<n→0≤M k k:=by
  unfold diagB
  rw [List.all_eq_true]
  constructor
  · intro h k hk;simpa using h k (List.mem_range.2 hk)
  · intro h k hk;simpa using h k (List.mem_range.1 hk)
structure Under (n:Nat) (E M:IM):Prop where
  le:∀ x y,x<n→y<n→E x y≤M x y
  add:∀ x y z,x<n→y<n→z<n→E x z=E x y+E y z
theorem Under.diag {n:Nat} {E M:IM} (h:Under n E M):diagB n M=true:=by
  rw [qS]
  intro k hk
  have h1:=h.le k k hk hk
  have h2:=h.add k k k hk hk hk
  omega
def Chain.n (c:Chain):Nat:=c.links.toNat+1
structure Best (n:Nat) (C:IM→Prop) (M:IM):Prop where
  good:Good n M
  sat:C M
  best:∀ E,Good n E→C E→∀ x y,x<n→y<n→E x y≤M x y
theorem Best.same {n:Nat} {C:IM→Prop} {M M':IM} (h:Best n C M) (h':Best n C M'):∀ x y,x<n→y<n→M x y=M' x y:=by
  intro x y hx hy
  have h1:=h.best M' h'.good h'.sat x y hx hy
  have h2:=h'.best M h.good h.sat x y hx hy
  omega
def fwP (M:IM) (m:Nat):IM:=fun x y=>min (M x y) (M x m+M m y)
def fstg (M:IM) (m p q:Nat):IM:=fun x y=>if x<p∨(x=p∧y<q) then fwP M m x y else M x y
theorem uZ (M:IM) (m n x y:Nat) (hx:x<n):fstg M m n 0 x y=fwP M m x y:=by
  unfold fstg;rw [if_pos (by omega)]
def pw:Nat→Int
  | 0=>10000000
  | k+1=>2*pw k
structure CNet (n k:Nat) (M:IM):Prop where
  diag:∀ x,x<n→M x x=0
  lo:∀ x y,x<n→y<n → -(pw k)≤M x y
  top:∀ x y,x<n→y<n→M x y≤wide
theorem CNet.fstg {n k m:Nat} {M:IM} (h:CNet n k M) (hm:m<n) (p q x y:Nat) (hx:x<n) (hy:y<n) : -(pw (k+1))≤fstg M m p q x y∧fstg M m p q x y≤wide:=by
  have h1:=h.lo x y hx hy
  have h2:=h.lo x m hx hm
  have h3:=h.lo m y hm hy
  have h4:=h.top x y hx hy
  have h5:pw (k+1)=2*pw k:=rfl
  have h6:=h.diag m hm
  have h7:=h.lo m m hm hm
  unfold Go.Proofs.YtinghmelkmblmaaDoor.fstg fwP
  split <;> omega
theorem CNet.next {n k m:Nat} {M:IM} (h:CNet n k M) (hm:m<n) (hd:diagB n (fwP M m)=true):CNet n (k+1) (fwP M m):=by
  rw [qS] at hd
  refine ⟨fun x hx=>?_,fun x y hx hy=>?_,fun x y hx hy=>?_⟩
  · have h1:=hd x hx
    have h2:=h.diag x hx
    have h3:fwP M m x x≤M x x:=by unfold fwP;omega
    omega
  · have:=h.fstg hm n 0 x y hx hy
    rw [uZ M m n x y hx] at this
    exact this.1
  · have:=h.fstg hm n 0 x y hx hy
    rw [uZ M m n x y hx] at this
    exact this.2
structure Use where
  day:Int
  turns:Int
  cls:Int
  meas:Bool
  lo:Int
  hi:Int
structure Part where
  rates:List (Int×Int)
  worn:Int
  turns:Int
  age:Int
def Use.zero:Use:=⟨0,0,0,false,0,0⟩
def Use.cell (u:Use):Nat→Value
  | 0 => .int .i64 u.day
  | 1 => .int .i64 u.turns
  | 2 => .int .i64 u.cls
  | 3 => .bool u.meas
  | 4 => .int .i64 u.lo
  | _ => .int .i64 u.hi
def ucell (l:List Use) (k j:Nat):Value:=(l.getD k Use.zero).cell j
def sU (s:Int×Int):Nat→Value
  | 0 => .int .i64 s.1
  | _ => .int .i64 s.2
def scell (l:List (Int×Int)) (k j:Nat):Value:=sU (l.getD k (0,0)) j
def fcell (f:Nat→Int×Int) (k j:Nat):Value:=sU (f k) j
def iK (p:Part):Bool:=decide (1≤p.rates.length∧p.rates.length≤4∧0≤p.worn∧p.worn≤1000∧0≤p.turns∧p.turns≤1000000∧0≤p.age∧p.age≤100000)
def jI (r:Int×Int):Bool:=decide (0≤r.1∧r.1≤r.2∧r.2≤1000000)
def useOk (n:Nat) (d:Int) (u:Use):Bool:=decide ((d≤u.day∧u.day≤100000∧0≤u.turns∧u.turns≤1000000∧0≤u.cls∧u.cls≤(n:Int)-1)∧0≤u.lo∧u.lo≤u.hi∧u.hi≤2000000000∧(u.meas=false→u.lo=0∧u.hi=0))
def prevD (l:List Use):Nat→Int
  | 0=>0
  | k+1=>(l.getD k Use.zero).day
def hG (n:Nat) (l:List Use) (k:Nat):Bool:=(List.range k).all fun i=>useOk n (prevD l i) (l.getD i Use.zero)
def dR (p:Part) (l:List Use):Int:=
  if iK p then (if p.rates.all jI then (if l.length≤40 then (if hG p.rates.length l l.length then 0 else 23) else 23) else 22) else 22
structure PartOk (p:Part) (l:List Use):Prop where
  hdr:iK p=true
  rates:p.rates.all jI=true
  len:l.length≤40
  uses:hG p.rates.length l l.length=true
theorem mD {p:Part} {l:List Use} (h:dR p l=0):PartOk p l:=by
  unfold dR at h
  split at h
  · split at h
    · split at h
      · split at h
        · exact ⟨by assumption,by assumption,by assumption,by assumption⟩
        · cases h
      · cases h
    · cases h
  · cases h
theorem PartOk.use {p:Part} {l:List Use} (h:PartOk p l) {k:Nat} (hk:k<l.length):useOk p.rates.length (prevD l k) (l.getD k Use.zero)=true:=by
  have:=h.uses
  unfold hG at this
  exact List.all_eq_true.1 this k (List.mem_range.2 hk)
theorem PartOk.rate {p:Part} {l:List Use} (h:PartOk p l) {k:Nat} (hk:k<p.rates.length):jI (p.rates.getD k (0,0))=true:=by
  rw [List.getD_eq_getElem?_getD,List.getElem?_eq_getElem hk]
  exact List.all_eq_true.1 h.rates _ (List.getElem_mem hk)
def dV (p:Part) (u:Use):Int×Int:=(u.turns*(p.rates.getD u.cls.toNat (0,0)).1,u.turns*(p.rates.getD u.cls.toNat (0,0)).2)
def meetS (a b:Int×Int):Int×Int:=(max a.1 b.1,min a.2 b.2)
def addS (a b:Int×Int):Int×Int:=(a.1+b.1,a.2+b.2)
def fwd (p:Part) (l:List Use):Nat→Int×Int
  | 0=>(0,0)
  | k+1=>if (l.getD k Use.zero).meas then meetS (addS (fwd p l k) (dV p (l.getD k Use.zero))) ((l.getD k Use.zero).lo,(l.getD k Use.zero).hi) else addS (fwd p l k) (dV p (l.getD k Use.zero))
def fits (p:Part) (l:List Use) (k:Nat):Prop:=(l.getD k Use.zero).meas=true→(fwd p l (k+1)).1≤(fwd p l (k+1)).2
structure IsAt (p:Part) (l:List Use) (n:Nat):Prop where
  le:n≤l.length
  good:∀ k,k<n→fits p l k
  bad:n<l.length→¬ fits p l n
theorem IsAt.same {p:Part} {l:List Use} {n m:Nat} (h:IsAt p l n) (h':IsAt p l m):n=m:=by
  rcases Nat.lt_trichotomy n m with h1|h1|h1
  · exact absurd (h'.good n h1) (h.bad (by have:=h'.le;omega))
  · exact h1
  · exact absurd (h.good m h1) (h'.bad (by have:=h.le;omega))
def bkw (p:Part) (l:List Use):Nat→Int×Int
  | 0=>fwd p l l.length
  | d+1=>meetS (fwd p l (l.length-1-d)) ((bkw p l d).1-(dV p (l.getD (l.length-1-d) Use.zero)).2,(bkw p l d).2-(dV p (l.getD (l.length-1-d) Use.zero)).1)
def bT (p:Part) (l:List Use) (k:Nat):Int×Int:=bkw p l (l.length-1-k)
theorem lO {p:Part} {l:List Use} (h:PartOk p l) {k:Nat} (hk:k<l.length):0≤(dV p (l.getD k Use.zero)).1∧(dV p (l.getD k Use.zero)).1≤1000000000000∧0≤(dV p (l.getD k Use.zero)).2∧(dV p (l.getD k Use.zero)).2≤1000000000000:=by
  have hu:=h.use hk
  unfold useOk at hu
  simp only [decide_eq_true_eq] at hu
  have hr:=h.rate (k:=(l.getD k Use.zero).cls.toNat) (by omega)
  unfold jI at hr
  simp only [decide_eq_true_eq] at hr
  unfold dV
  refine ⟨Int.mul_nonneg (by omega) (by omega),?_,Int.mul_nonneg (by omega) (by omega),?_⟩
  · exact Int.le_trans (Int.mul_le_mul (c:=1000000) (d:=1000000) (by omega) (by omega) (by omega) (by omega)) (by decide)
  · exact Int.le_trans (Int.mul_le_mul (c:=1000000) (d:=1000000) (by omega) (by omega) (by omega) (by omega)) (by decide)
theorem xH {p:Part} {l:List Use} (h:PartOk p l):∀ k,k≤l.length→0≤(fwd p l k).1∧(fwd p l k).1≤(k:Int)*1000000000000∧0≤(fwd p l k).2∧(fwd p l k).2≤(k:Int)*1000000000000:=by
  intro k
  induction k with
  | zero=>intro _;simp [fwd]
  | succ k ih=>
    intro hk
    have h1:=ih (by omega)
    have h2:=lO h (show k<l.length by omega)
    have hu:=h.use (show k<l.length by omega)
    unfold useOk at hu
    simp only [decide_eq_true_eq] at hu
    unfold fwd addS meetS
    split <;> (dsimp only;omega)
theorem Me {p:Part} {l:List Use} (h:PartOk p l):∀ d,d<l.length → -((d:Int)*1000000000000)≤(bkw p l d).1∧(bkw p l d).1≤40000000000000 ∧ -((d:Int)*1000000000000)≤(bkw p l d).2∧(bkw p l d).2≤40000000000000:=by
  intro d
  have hlen:=h.len
  induction d with
  | zero=>intro hd;have:=xH h l.length (Nat.le_refl _);unfold bkw;omega
  | succ d ih=>
    intro hd
    have h1:=ih (by omega)
    have h2:=lO h (show l.length-1-d<l.length by omega)
    have h3:=xH h (l.length-1-d) (by omega)
    unfold bkw meetS
    dsimp only
    omega
def sumT (l:List Use):Nat→Int
  | 0=>0
  | k+1=>sumT l k+(l.getD k Use.zero).turns
theorem Ip {p:Part} {l:List Use} (h:PartOk p l):∀ k,k≤l.length→0≤sumT l k∧sumT l k≤(k:Int)*1000000:=by
  intro k
  induction k with
  | zero=>intro _;simp [sumT]
  | succ k ih=>
    intro hk
    have h1:=ih (by omega)
    have hu:=h.use (show k<l.length by omega)
    unfold useOk at hu
    simp only [decide_eq_true_eq] at hu
    unfold sumT
    omega
section
variable {P:Program} {ops:Array Oper} {w w0:World} {F0 F:Nat→Prop} {R:List Mem} {Q:Exit→Act→World→Prop} {rest:List Oper} {N:FN} {L:List (Nat×Value)} {a:Act} {ty:TypeId} {pos:String} {af:Array Edge}
theorem boxM.same {i b:Nat} {t:TypeId} {cs cs':List Value} (S:St w0 F0 R w) (hi:R[i]?=some (boxM b t cs)) (h:cs=cs'):St w0 F0 (R.set i (boxM b t cs')) w:=by
  subst h;exact S.imp hi (fun h=>h) (fun _ h=>h)
theorem iL {i e n c k:Nat} {A:Option Addr} {f:Nat→Int×Int} {s:Int×Int} (S:St w0 F0 R w) (hi:R[i]?=some (ownM e 2 A n c (fcell f))) (hk:k<n) (hs:f k=s) :
    ∀ (j:Nat) v,[Value.int .i64 s.1,Value.int .i64 s.2][j]?=some v→w.cell? ⟨(adr A).block,(adr A).off+k*2+0+j,none⟩=some v:=by
  intro j v hv
  subst hs
  have h0:=ownM.rd S hi hk (j:=j)
  have hj:j<2:=(List.getElem?_eq_some_iff.1 hv).1
  have h1:=h0 hj
  have:j=0∨j=1:=by omega
  rcases this with rfl|rfl <;> (simp at hv;subst hv;exact h1)
theorem cW {t e i kk n c:Nat} {A:Option Addr} {f:Nat→Int×Int} {x y:Operand} {v1 v2:Int} (H:Fr N L a) (S:St w0 F0 R w) (hi:R[i]?=some (ownM e 2 A n c (fcell f)))
    (hx:ev L x=some (.pointer (some (pt A 2 kk 0)))) (hy:ev L y=some (.agg [.int .i64 v1,.int .i64 v2].toArray)) (hk:kk<n) (hs:Sz P t 2)
    (k:∀ w' a',St w0 F0 (R.set i (ownM e 2 A n c (fcell fun q=>if q=kk then (v1,v2) else f q))) w'→Fr N L a'→wpList P ops Q rest a' w') :
    wpList P ops Q (⟨none,.store t x y,ty,pos,af,none⟩::rest) a w:=by
  refine wpList_plain rfl fun K hK=>?_
  unfold Oper.wp
  rcases S.holds hi with ⟨_,h,_⟩|⟨b,cs,rfl,hb,hnc,hcm,hsz,hc⟩
  · omega
  have hlt:kk*2+1<cs.size:=by omega
  have hp:pt (some ⟨b,0,none⟩) 2 kk 0=⟨b,kk*2,none⟩:=by simp [pt,adr]
  rw [hp] at hx
  have hr:=iF (P:=P) (w:=w) (t:=t) (b:=b) (o:=kk*2) (v := .agg [.int .i64 v1,.int .i64 v2].toArray) (vs:=[.int .i64 v1,.int .i64 v2]) (by simpa using hs) rfl hb (by simp;omega) (fun u hu=>by
    simp only [List.mem_cons,List.not_mem_nil,or_false] at hu
    rcases hu with rfl|rfl <;> rfl)
  have e1:(execOp a.eval ⟨none,.store t x y,ty,pos,af,none⟩).run P w = .ok .skip (w.setRow b (fA cs.toList (kk*2) [.int .i64 v1,.int .i64 v2]).toArray):=by
    simp only [execOp,H.eval hx,H.eval hy]
    simp only [Sem.run_bind,hr]
    rfl
  rw [e1]
  refine hK _ _ (k _ _ (S.updSame hi ((iE w b _).mono ?_) ?_ (fun _ h=>h)) (H.put_none _))
  · rintro q rfl;exact ⟨_,rfl,rfl⟩
  · refine .inr ⟨b,_,rfl,setRow_heap w b _ _ e (0,0) hb,hnc,hcm,?_,?_⟩
    · rw [List.size_toArray,kC _ _ _ (by simp;omega)];simpa using hsz
    · intro k' j' hk' hj'
      rw [List.getElem?_toArray,hH _ _ _ (by simp;omega)]
      have hj2:j'=0∨j'=1:=by omega
      by_cases hh:k'=kk
      · subst hh
        rw [List.append_assoc,List.getElem?_append_right (by simp;omega)]
        simp only [List.length_take,Array.length_toList,Nat.min_eq_left (show k'*2≤cs.size by omega)]
        rcases hj2 with rfl|rfl <;> simp [fcell,sU]
      · have hcell:=hc k' j' hk' hj'
        have:fcell (fun q=>if q=kk then (v1,v2) else f q) k' j'=fcell f k' j':=by simp [fcell,hh]
        rw [this,←hcell]
        rcases Nat.lt_or_ge (k'*2+j') (kk*2) with h|h
        · rw [List.append_assoc,List.getElem?_append_left (by simp;omega),List.getElem?_take_of_lt h];simp
        · have h':kk*2+2≤k'*2+j':=by omega
          rw [List.getElem?_append_right (by simp;omega),List.getElem?_drop]
          simp only [List.length_append,List.length_take,List.length_cons,List.length_nil,Array.length_toList]
          rw [Nat.min_eq_left (by omega)]
          rw [show kk*2+(0+1+1)+(k'*2+j'-(kk*2+(0+1+1)))=k'*2+j' by omega]
          simp
end
theorem pD {p:Part} {l:List Use} {k:Nat} (h:(l.getD k Use.zero).meas=true):fwd p l (k+1)=meetS (addS (fwd p l k) (dV p (l.getD k Use.zero))) ((l.getD k Use.zero).lo,(l.getD k Use.zero).hi):=by rw [fwd,if_pos h]
theorem zI {p:Part} {l:List Use} {k:Nat} (h:(l.getD k Use.zero).meas=false):fwd p l (k+1)=addS (fwd p l k) (dV p (l.getD k Use.zero)):=by rw [fwd,if_neg (by rw [h];simp)]
theorem vA {p:Part} {l:List Use} {k:Nat} (h:(l.getD k Use.zero).meas=false):fits p l k:=fun h'=>by rw [h] at h';cases h'
theorem gI {p:Part} {l:List Use} (h:PartOk p l) {k:Nat} (hk:k<l.length) : -40000000000000≤(bT p l k).1∧(bT p l k).1≤40000000000000 ∧ -40000000000000≤(bT p l k).2∧(bT p l k).2≤40000000000000:=by
  have:=Me h (l.length-1-k) (by omega)
  have:=h.len
  unfold bT
  omega
theorem vB {p:Part} {l:List Use} {k:Nat} (hk:k+1=l.length):bT p l k=fwd p l l.length:=by
  unfold bT;rw [show l.length-1-k=0 by omega];rfl
theorem eO {p:Part} {l:List Use} {k:Nat} (hk:k+1<l.length):bT p l k=meetS (fwd p l (k+1)) ((bT p l (k+1)).1-(dV p (l.getD (k+1) Use.zero)).2,(bT p l (k+1)).2-(dV p (l.getD (k+1) Use.zero)).1):=by
  unfold bT
  rw [show l.length-1-k=(l.length-1-(k+1))+1 by omega]
  rw [bkw]
  rw [show l.length-1-(l.length-1-(k+1))=k+1 by omega]
end
section
def jJ (b:Nat→Bool) (n:Nat):Int:=match (List.range n).find? b with
  | some k=>(k:Int)
  | none => -1
theorem mE {b:Nat→Bool} {n k:Nat} (hk:k<n) (hb:b k=true) (h:∀ q,q<k→b q=false):jJ b n=k:=by
  unfold jJ
  have e:(List.range n).find? b=some k:=by
    rw [List.find?_eq_some_iff_append]
    refine ⟨hb,List.range k,(List.range (n-k-1)).map (k+1+·),?_,fun a ha=>?_⟩
    · have e1:n=k+((n-k-1)+1):=by omega
      conv=>lhs;rw [e1,List.range_add]
      rw [List.range_succ_eq_map]
      simp only [List.map_cons,Nat.add_zero,List.map_map]
      congr 2
      refine List.map_congr_left fun a _=>?_
      simp only [Function.comp]
      omega
    · rw [h a (List.mem_range.1 ha)];rfl
  rw [e]
theorem vC {b:Nat→Bool} {n:Nat} (h:∀ q,q<n→b q=false):jJ b n = -1:=by
  unfold jJ
  have e:(List.range n).find? b=none:=by
    rw [List.find?_eq_none]
    intro a ha
    rw [h a (List.mem_range.1 ha)];simp
  rw [e]
open Classical in
noncomputable def wearE (p:Part) (l:List Use):Int:=if dR p l≠0 then dR p l else if IsAt p l l.length then 0 else 3
theorem Bb {p:Part} {l:List Use} (h:dR p l≠0):wearE p l=dR p l:=by unfold wearE;rw [if_pos h]
theorem xI {p:Part} {l:List Use} (h:dR p l=0) (h':¬ IsAt p l l.length):wearE p l=3:=by unfold wearE;rw [if_neg (by omega),if_neg h']
theorem vD {p:Part} {l:List Use} (h:dR p l=0) (h':IsAt p l l.length):wearE p l=0:=by unfold wearE;rw [if_neg (by omega),if_pos h']
theorem pE {p:Part} {l:List Use} (h:wearE p l=0):dR p l=0∧IsAt p l l.length:=by
  unfold wearE at h
  split at h
  · exact absurd h (by assumption)
  · split at h
    · exact ⟨by omega,by assumption⟩
    · omega
def wornB (p:Part) (l:List Use) (k:Nat) (wr:Int):Bool:=(decide (p.turns<sumT l (k+1))||decide (p.age<(l.getD k Use.zero).day))||decide (p.worn*1000000<wr)
noncomputable def dY (p:Part) (l:List Use) (e:Int×Int→Int):Int×Int:=if wearE p l≠0 then (0,wearE p l) else (jJ (fun k=>wornB p l k (e (bT p l k))) l.length,0)
end
section
structure EndN (N:Net) (r0:RM) (b x:Nat) (v:Int) (r:RM) (L:Nat→Int):Prop where
  fl:Fl N r0 r b x v
  nn:0≤v
  lev:LevOk N r b L
  full:L x<0
section
variable {N:Net} {r r0 r1 r2:RM} {b x u:Nat} {v v' m B:Int} {L L':Nat→Int}
theorem vE {S:Nat→Bool} (h:∀ i,i<N.k→∀ j,j<N.n i→r2 i j=r1 i j):resid N r2 S=resid N r1 S:=iY fun i hi=>iY fun j hj=>by rw [h i hi j hj]
theorem Fl.congr (W:N.Wf) (h:Fl N r r1 u x m) (e:∀ i,i<N.k→∀ j,j<N.n i→r2 i j=r1 i j):Fl N r r2 u x m:=
  ⟨fun S=>by rw [vE e];exact h.cut S,fun i hi j hj=>by rw [e i hi j hj,e _ (W.to_lt i hi j hj) _ (W.bk_lt i hi j hj)];exact h.pair i hi j hj,fun i hi j hj=>by rw [e i hi j hj];exact h.nn i hi j hj⟩
theorem Fa {S:Nat→Bool} (hb:S b=true) (hx:S x=false):ind S b-ind S x=1:=by unfold ind;rw [hb,hx];rfl
theorem EndN.bound (O:Ok N r0 B) (h:EndN N r0 b x v r L) {S:Nat→Bool} (hb:S b=true) (hx:S x=false):v≤resid N r0 S:=by
  have h1:=uD (S:=S) (h.fl.ok O)
  rw [h.fl.cut,Fa hb hx] at h1
  omega
theorem EndN.inside (h:EndN N r0 b x v r L) {S:Nat→Bool} (hb:S b=true) (hx:S x=false) (hc:resid N r0 S=v):∀ u,u<N.k→0≤L u→S u=true:=by
  have h0:resid N r S=0:=by rw [h.fl.cut,Fa hb hx];omega
  exact h.lev.least hb (oZ h.fl.nn h0)
end
structure Eg where
  f:Nat
  t:Nat
  pas:Int
  tick:Int
def Eg.zero:Eg:=⟨0,0,0,0⟩
def Jn.zero:Jn:=⟨0,0,0,Mv.none⟩
def ixs (E:List Eg) (i:Nat):List Nat:=(List.range E.length).filter fun e=>decide ((E.getD e Eg.zero).f=i)
def tw (e:Nat):Nat:=if e%2=0 then e+1 else e-1
structure Lk (N:Net) (E:List Eg):Prop where
  len:∀ i,i<N.k→(ixs E i).length=N.n i
  lt:∀ i,i<N.k→∀ q,q<N.n i→(ixs E i).getD q 0<E.length
  ef:∀ i,i<N.k→∀ q,q<N.n i→(E.getD ((ixs E i).getD q 0) Eg.zero).f=i
  et:∀ i,i<N.k→∀ q,q<N.n i→(E.getD ((ixs E i).getD q 0) Eg.zero).t=N.to i q
  tw:∀ i,i<N.k→∀ q,q<N.n i→(ixs E (N.to i q)).getD (N.back i q) 0=tw ((ixs E i).getD q 0)
  inj:∀ i,i<N.k→∀ q q',q<N.n i→q'<N.n i→(ixs E i).getD q 0=(ixs E i).getD q' 0→q=q'
  evn:E.length%2=0
def rmE (E:List Eg) (r:Nat→Int):RM:=fun i q=>r ((ixs E i).getD q 0)
theorem Pf {e:Nat}:tw e≠e:=by unfold tw;split <;> omega
def pushE (r:Nat→Int) (e:Nat) (m:Int):Nat→Int:=upd (upd r e (r e-m)) (tw e) (r (tw e)+m)
section
variable {N:Net} {E:List Eg} {r:Nat→Int} {u j:Nat} {m B:Int}
theorem Fb:pushE r u m u=r u-m:=by unfold pushE;rw [dZ _ _ (fun e=>Pf e.symm),dI]
theorem Fc:pushE r u m (tw u)=r (tw u)+m:=dI _ _ _
theorem Fd {e:Nat} (h1:e≠u) (h2:e≠tw u):pushE r u m e=r e:=by unfold pushE;rw [dZ _ _ h2,dZ _ _ h1]
theorem Lk.push (K:Lk N E) (W:N.Wf) (hu:u<N.k) (hj:j<N.n u):∀ i,i<N.k→∀ q,q<N.n i→rmE E (pushE r ((ixs E u).getD j 0) m) i q=along N (rmE E r) u j m i q:=by
  intro i hi q hq
  have htk:=W.to_lt u hu j hj
  have hbk:=W.bk_lt u hu j hj
  have same:∀ {i q i' q'},i<N.k→q<N.n i→i'<N.k→q'<N.n i'→(ixs E i).getD q 0=(ixs E i').getD q' 0→i=i'∧q=q':=by
    intro i q i' q' hi hq hi' hq' e
    have e1:i=i':=by rw [←K.ef i hi q hq,e,K.ef i' hi' q' hq']
    subst e1
    exact ⟨rfl,K.inj i hi q q' hq hq' e⟩
  show pushE r ((ixs E u).getD j 0) m ((ixs E i).getD q 0)=_
  by_cases h1:i=u∧q=j
  · obtain ⟨rfl,rfl⟩:=h1
    rw [Fb,kV W hi hq];rfl
  · by_cases h2:i=N.to u j∧q=N.back u j
    · obtain ⟨rfl,rfl⟩:=h2
      rw [kW,K.tw u hu j hj,Fc]
      show _=r ((ixs E (N.to u j)).getD (N.back u j) 0)+m
      rw [K.tw u hu j hj]
    · rw [kX h1 h2,Fd (fun e=>h1 (same hi hq hu hj e)) (fun e=>h2 (same hi hq htk hbk (by rw [K.tw u hu j hj];exact e)))];rfl
structure Rch (N:Net) (E:List Eg) (r:Nat→Int) (b:Nat) (L:Nat→Int) (by_:Nat→Nat):Prop where
  from_:∀ v,v<N.k→0≤L v→v=b∨∃ u,u<N.k∧∃ j,j<N.n u∧0≤L u∧0<rmE E r u j∧N.to u j=v∧L v=L u+1∧by_ v=(ixs E u).getD j 0
theorem Rch.start {b:Nat} (hb:b<N.k) {L:Nat→Int} (hL:∀ v,v<N.k→L v=if v=b then 0 else -1) {by_:Nat→Nat}:Rch N E r b L by_:=⟨fun v hv h0=>by
  rw [hL v hv] at h0
  split at h0
  · rename_i e;exact .inl e
  · omega⟩
end
def cr (S:Nat→Bool) (f t:Nat) (c:Int):Int:=if S f=true∧S t=false then c else 0
def hC (U:Nat→Nat→Bool) (T:Nat) (f t:Nat) (d:Int) (c:Int) (tick:Nat):Int:=if (tick:Int)+d≤T∧U f tick=true∧U t (tick+d.toNat)=false then c else 0
section
variable {P T:Nat} {pe xs:List Int} {out:Int} {ps:List Psg} {S:Nat→Bool}
end
section
variable {P T:Nat} {pe xs:List Int} {out:Int} {ps:List Psg} {S:Nat→Bool}
end
section
variable {P T:Nat} {pe xs:List Int} {out:Int} {ps:List Psg} {S:Nat→Bool} {v v':Int} {r r':RM} {L L':Nat→Int}
end
section
variable {N:Net} {E:List Eg} {r r2:Nat→Int} {b x:Nat} {L:Nat→Int} {by_:Nat→Nat} {m B:Int}
end
section
variable {P T:Nat} {pe xs:List Int} {out:Int} {ps:List Psg}
end
section
variable {P T:Nat} {ps:List Psg} {xs:List Int} {out:Int} {pe bl:List Int} {k:Nat}
end
section
variable {P T:Nat} {ps:List Psg} {xs:List Int} {out:Int} {pe pe' bl:List Int}
end
section
variable (ps:List Psg) (xs:List Int) (out:Int) (pe:List Int) (l:List Mv)
def mvIn (m:Mv):Prop:=(0≤m.pas∧m.pas<ps.length)∧(0≤m.at_∧m.at_≤60)∧(1≤m.many∧m.many≤1000)
instance (m:Mv):Decidable (mvIn ps m):=by unfold mvIn;exact inferInstance
end
section
variable {P T:Nat} {ps:List Psg} {xs:List Int} {out:Int} {pe bl:List Int} {l:List Mv} {m:Mv}
end
end
section
def enc2 (k:Int×Int):Value := .agg #[.int .i64 k.1,.int .i64 k.2]
section
variable {P:Program} {w:World} {kt e:TypeId}
theorem Bc (h1:One P e) {cs:Array Value} {i:Nat} {v:Value} (h:cs[i]?=some v):(part e cs i).run P w = .ok v w:=by
  have:(isAgg e).run P w = .ok false w:=by
    unfold One gY at h1
    unfold isAgg
    cases hu:P.underlying e with
    | none=>rw [hu] at h1;simp at h1
    | some d=>rw [hu] at h1;simp only [Sem.run_bind,bP hu,Result.andThen_ok];cases d <;> simp_all
  simp [part,this,h]
theorem Iq (he:P.underlying e=some (.int .i64)) (d:Nat) (a b:Int):(Op.equalIn (d+1) e (.int .i64 a) (.int .i64 b)).run P w = .ok (a == b) w:=by
  simp [Op.equalIn,bP he]
theorem Ir (he:P.underlying e=some (.int .i64)) (m:Bool) (n:Nat) (a:Int):(Instr.checkKey m (n+1) e (.int .i64 a)).run P w = .ok () w:=by
  rw [Instr.checkKey]
  simp only [Sem.run_bind,bP he,Result.andThen_ok]
  rfl
theorem Is {κ:Type} [DecidableEq κ] {enc:κ→Value} (heq:∀ (k k':κ) (w:World),(Op.equal kt (enc k) (enc k')).run P w = .ok (decide (k=k')) w) (k:κ):∀ (l:List (κ×Value)) (es:List MapEntry) (i:Nat),es.map (fun e=>(e.key,e.val))=l.map (fun p=>(enc p.1,p.2))→(Instr.findAsking kt (enc k) es i).run P w = .ok (findL k l i) w:=by
  intro l
  induction l with
  | nil=>
    intro es i he
    have:es=[]:=by simpa using he
    subst this
    rfl
  | cons p l ih=>
    intro es i he
    cases es with
    | nil=>simp at he
    | cons x es=>
      simp only [List.map_cons,List.cons.injEq,Prod.mk.injEq] at he
      obtain ⟨⟨g1,g2⟩,g3⟩:=he
      rw [Instr.findAsking,g1]
      simp only [Sem.run_bind,heq,Result.andThen_ok,findL]
      by_cases hk:k=p.1
      · rw [if_pos hk,decide_eq_true hk,g2];rfl
      · rw [if_neg hk,decide_eq_false hk]
        exact ih es (i+1) g3
end
theorem Mf {κ:Type} {enc:κ→Value} {es:List MapEntry} {l:List (κ×Value)} {j:Nat} {k:κ} {v:Value} (he:es.map (fun e=>(e.key,e.val))=l.map (fun p=>(enc p.1,p.2))) (h:l[j]?=some (k,v)):∃ e,es[j]?=some e∧e.key=enc k∧e.val=v:=by
  have h1:(es.map (fun e=>(e.key,e.val)))[j]?=(l.map (fun p=>(enc p.1,p.2)))[j]?:=by rw [he]
  rw [List.getElem?_map,List.getElem?_map,h] at h1
  cases h2:es[j]? with
  | none=>rw [h2] at h1;simp at h1
  | some e=>rw [h2] at h1;simp at h1;exact ⟨e,rfl,h1.1,h1.2⟩
def mapK {κ:Type} [DecidableEq κ] (enc:κ→Value) (b:Nat) (Φ:(κ→Option Value)→Prop):Mem where
  fp:=fun k=>k=b
  holds:=fun w=>∃ (es:Array MapEntry) (ck:Nat) (l:List (κ×Value)),w.heap[b]?=some (.map es ck)∧es.toList.map (fun e=>(e.key,e.val))=l.map (fun p=>(enc p.1,p.2))∧(∀ x ∈ es.toList,x.born<ck)∧(es.toList.map MapEntry.born).Nodup∧Φ (getL l)
  stable:=fun _ _ h ⟨es,ck,l,h1,h2⟩=>⟨es,ck,l,(h b rfl).trans h1,h2⟩
section
variable {P:Program} {ops:Array Oper} {w w0:World} {F0:Nat→Prop} {R:List Mem} {Q:Exit→Act→World→Prop} {rest:List Oper} {N:FN} {L:List (Nat×Value)} {a:Act} {ty:TypeId} {pos:String} {af:Array Edge}
variable {κ:Type} [DecidableEq κ] {enc:κ→Value} {Φ Φ':(κ→Option Value)→Prop}
theorem fJ {d t:Nat} (enc:κ→Value) (Φ:(κ→Option Value)→Prop) (hΦ:Φ (fun _=>none)) (H:Fr N L a) (hd:Nat.blt d N.n=true) (S:St w0 F0 R w)
    (k:∀ b w' a',w0.heap.size≤b→St w0 F0 (mapK enc b Φ::R) w'→Fr N ((d,.map (some b))::L) a'→wpList P ops Q rest a' w') :
    wpList P ops Q (⟨some d,.makeMap t none,ty,pos,af,none⟩::rest) a w:=by
  refine wpList_plain rfl fun K hK=>?_
  unfold Oper.wp
  have e:(execOp a.eval ⟨some d,.makeMap t none,ty,pos,af,none⟩).run P w = .ok (.value (.map (some w.heap.size))) (w.alloc (.map #[] 0)):=by
    simp [execOp,Instr.makeMap,newObj,Sem.run]
  rw [e]
  refine hK _ _ (k w.heap.size _ _ S.size (S.new (Keeps.alloc w _ _) ⟨#[],0,[],heap_alloc_new w _,rfl,fun x hx=>by simp at hx,by simp,hΦ⟩ ?_) (H.put _ hd))
  intro q hq
  rw [show q=w.heap.size from hq]
  simp
theorem sV {x y:Operand} {t kt et b i:Nat} {d:Option Nat} {g:Option (Nat×Bool)} {z v:Value} {k:κ} (S:St w0 F0 R w) (hi:R[i]?=some (mapK enc b Φ)) (ht:MapT P t kt et) (hk:KeyOk P kt enc) (hz:ZeroV P et z) (hx:ev L x=some (.map (some b))) (hy:ev L y=some (enc k)) (hv:∀ h,Φ h→(h k).getD z=v) :
    Does P L ⟨d,.lookup t x y false,ty,pos,af,g⟩ w v:=fun ρ hρ=>by
  obtain ⟨es,ck,l,hb,he,_,_,hΦ⟩:=S.holds hi
  have:=kI (k:=k) ht hk hz (⟨es,ck,hb,he⟩:(mapM enc b l).holds w) false
  simp [execOp,hρ _ _ hx,hρ _ _ hy,this,hv _ hΦ]
theorem jK {x y:Operand} {t kt et b i:Nat} {d:Option Nat} {g:Option (Nat×Bool)} {z v:Value} {s:Bool} {k:κ} (S:St w0 F0 R w) (hi:R[i]?=some (mapK enc b Φ)) (ht:MapT P t kt et) (hk:KeyOk P kt enc) (hz:ZeroV P et z) (hx:ev L x=some (.map (some b))) (hy:ev L y=some (enc k)) (hv:∀ h,Φ h→(h k).getD z=v∧(h k).isSome=s) :
    Does P L ⟨d,.lookup t x y true,ty,pos,af,g⟩ w (.tuple #[v,.bool s]):=fun ρ hρ=>by
  obtain ⟨es,ck,l,hb,he,_,_,hΦ⟩:=S.holds hi
  have:=kI (k:=k) ht hk hz (⟨es,ck,hb,he⟩:(mapM enc b l).holds w) true
  obtain ⟨h1,h2⟩:=hv _ hΦ
  simp [execOp,hρ _ _ hx,hρ _ _ hy,this,h1,h2]
theorem Fe {l:List (κ×Value)} {k:κ} {v:Value} (h:findL k l 0=none):setL l k v=l++[(k,v)]:=by unfold setL;rw [h]
theorem Ff {l:List (κ×Value)} {k:κ} {v v0:Value} {j:Nat} (h:findL k l 0=some (j,v0)):setL l k v=l.modify j fun p=>(p.1,v):=by unfold setL;rw [h]
theorem Bd {l:List (κ×Value)} {k:κ} {v:Value}:getL (setL l k v)=fun k'=>if k'=k then some v else getL l k':=funext fun k'=>uA v k k' l
theorem vF (f:MapEntry→MapEntry) (hf:∀ e,(f e).born=e.born):∀ (l:List MapEntry) (i:Nat),(l.modify i f).map MapEntry.born=l.map MapEntry.born:=by
  intro l
  induction l with
  | nil=>intro i;simp
  | cons e l ih=>
    intro i
    cases i with
    | zero=>simp [hf]
    | succ i=>simp [List.modify_succ_cons,ih]
theorem It {l l':List MapEntry} {ck:Nat} (h:l'.map MapEntry.born=l.map MapEntry.born) (hl:∀ x ∈ l,x.born<ck):∀ x ∈ l',x.born<ck:=fun x hx=>by
  have h1:x.born ∈ l'.map MapEntry.born:=List.mem_map.2 ⟨x,hx,rfl⟩
  rw [h] at h1
  obtain ⟨y,hy,e⟩:=List.mem_map.1 h1
  have:=hl y hy
  omega
theorem Fg {l:List MapEntry} {e:MapEntry} {ck:Nat} (he:e.born=ck) (hl:∀ x ∈ l,x.born<ck) (hn:(l.map MapEntry.born).Nodup):(∀ x ∈ l++[e],x.born<ck+1)∧((l++[e]).map MapEntry.born).Nodup:=by
  constructor
  · intro x hx
    rcases List.mem_append.1 hx with hx|hx
    · have:=hl x hx;omega
    · rw [List.mem_singleton.1 hx];omega
  · rw [List.map_append,List.nodup_append]
    refine ⟨hn,by simp,fun p hp q hq e1=>?_⟩
    obtain ⟨x,hx,rfl⟩:=List.mem_map.1 hp
    simp only [List.map_cons,List.map_nil,List.mem_singleton] at hq
    have:=hl x hx
    omega
theorem fS {x y u:Operand} {t kt et b i:Nat} {k:κ} {v:Value} (Φ':(κ→Option Value)→Prop) (H:Fr N L a) (S:St w0 F0 R w) (hi:R[i]?=some (mapK enc b Φ)) (ht:MapT P t kt et) (hk:KeyOk P kt enc) (hx:ev L x=some (.map (some b))) (hy:ev L y=some (enc k)) (hu:ev L u=some v)
    (hΦ':∀ h,Φ h→Φ' (fun k'=>if k'=k then some v else h k'))
    (kk:∀ w' a',St w0 F0 (R.set i (mapK enc b Φ')) w'→Fr N L a'→wpList P ops Q rest a' w') :
    wpList P ops Q (⟨none,.mapUpdate t x y u,ty,pos,af,none⟩::rest) a w:=by
  refine wpList_plain rfl fun K hK=>?_
  obtain ⟨es,ck,l,hb,he,hlt,hnd,hΦ⟩:=S.holds hi
  have hf:=hk.find l k es.toList w he
  have hg:(getObj b).run P w = .ok (.map es ck) w:=by simp [getObj,Sem.run,hb]
  have hs:∀ o,(setObj b o).run P w = .ok () (w.putObj b o):=fun o=>by simp [setObj,Sem.run,hb,World.putObj]
  have hkeeps:∀ o,Keeps w (w.putObj b o) (fun k=>k=b):=fun o=>⟨rfl,rfl,rfl,by simp [World.putObj],fun q _ hq=>World.putObj_heap_other (fun e=>hq e)⟩
  have hΦ2:Φ' (getL (setL l k v)):=by rw [Bd];exact hΦ' _ hΦ
  unfold MapT at ht
  unfold Oper.wp
  cases hfl:findL k l 0 with
  | none=>
    rw [hfl] at hf
    have e1:(execOp a.eval ⟨none,.mapUpdate t x y u,ty,pos,af,none⟩).run P w = .ok .skip (w.putObj b (.map (es.push { key:=enc k,val:=v,born:=ck }) (ck+1))):=by
      simp [execOp,H.eval hx,H.eval hy,H.eval hu,Instr.mapUpdate,bP ht,hg,hk.check,hf,hs]
    rw [e1]
    have hb2:=Fg (e:={ key:=enc k,val:=v,born:=ck }) rfl hlt hnd
    refine hK _ _ (kk _ _ (S.updSame hi (hkeeps _) ⟨_,_,setL l k v,World.putObj_heap_same (dC hb),?_,?_,?_,hΦ2⟩ (fun _ h=>h)) (H.put_none _))
    · rw [Fe hfl];simp [he]
    · rw [Array.toList_push];exact hb2.1
    · rw [Array.toList_push];exact hb2.2
  | some q=>
    obtain ⟨j,v0⟩:=q
    rw [hfl] at hf
    have hat:=uB hfl
    obtain ⟨e0,h1,h2,h3⟩:=Mf he hat
    have hej:(es[j]?).map (·.key)=some (enc k):=by rw [←Array.getElem?_toList,h1,←h2];rfl
    have hst:(Instr.keyThatStays (enc k) (enc k)).run P w = .ok (enc k) w:=by simp [Instr.keyThatStays,hk.bits k]
    have e1:(execOp a.eval ⟨none,.mapUpdate t x y u,ty,pos,af,none⟩).run P w = .ok .skip (w.putObj b (.map (es.modify j fun e=>{ e with key:=enc k,val:=v }) ck)):=by
      simp [execOp,H.eval hx,H.eval hy,H.eval hu,Instr.mapUpdate,bP ht,hg,hk.check,hf,hs,hej,hst]
    rw [e1]
    have hbm:=vF (fun e=>{ e with key:=enc k,val:=v }) (fun _=>rfl) es.toList j
    refine hK _ _ (kk _ _ (S.updSame hi (hkeeps _) ⟨_,_,setL l k v,World.putObj_heap_same (dC hb),?_,?_,?_,hΦ2⟩ (fun _ h=>h)) (H.put_none _))
    · rw [Ff hfl,Array.toList_modify]
      refine nZ _ _ _ _ es.toList l j he fun e p g1 g2 g3=>?_
      rw [hat] at g3
      injection g3 with g3
      subst g3
      rfl
    · rw [Array.toList_modify];exact It hbm hlt
    · rw [Array.toList_modify,hbm];exact hnd
end
def ints (xs:List Int):Value := .agg (xs.map fun x=>Value.int .i64 x).toArray
structure IntsK (P:Program) (t:TypeId) (n D:Nat):Prop where
  agg:Agg P t
  sz:Sz P t n
  eq:∀ (d:Nat) (xs ys:List Int) (w:World),xs.length=n→ys.length=n→(Op.equalIn (d+D) t (ints xs) (ints ys)).run P w = .ok (decide (xs=ys)) w
  ck:∀ (m:Bool) (d:Nat) (xs:List Int) (w:World),xs.length=n→(Instr.checkKey m (d+D) t (ints xs)).run P w = .ok () w
section
variable {P:Program} {w:World} {kt e:TypeId} {n D:Nat}
theorem qT {n:Nat} (ha:Agg P e) (hs:Sz P e n) (cs:Array Value) (i:Nat):(part e cs i).run P w = .ok (.agg (cs.extract i (i+n))) w:=by
  have h1:(isAgg e).run P w = .ok true w:=by
    unfold Agg gY at ha
    unfold isAgg
    cases hu:P.underlying e with
    | none=>rw [hu] at ha;simp at ha
    | some d=>rw [hu] at ha;simp only [Sem.run_bind,bP hu,Result.andThen_ok];cases d <;> simp_all
  have h2:(sizeOf e).run P w = .ok n w:=by
    unfold Sz at hs
    cases hi:P.info? e with
    | none=>rw [hi] at hs;simp at hs
    | some i=>rw [hi] at hs;simp at hs;simp [sizeOf,typeInfo,hi,hs]
  simp [part,h1,h2]
theorem qU {n:Nat} (hs:Sz P e n):(sizeOf e).run P w = .ok n w:=by
  unfold Sz at hs
  cases hi:P.info? e with
  | none=>rw [hi] at hs;simp at hs
  | some i=>rw [hi] at hs;simp at hs;simp [sizeOf,typeInfo,hi,hs]
theorem vG (xs:List Int) (i n:Nat):((xs.map fun x=>Value.int .i64 x).toArray).extract i (i+n)=(((xs.drop i).take n).map fun x=>Value.int .i64 x).toArray:=by
  rw [List.extract_toArray,List.extract_eq_take_drop,Nat.add_sub_cancel_left,List.map_take,List.map_drop]
theorem Iu {xs:List Int} {i:Nat} (h:i<xs.length):((xs.map fun x=>Value.int .i64 x).toArray)[i]?=some (.int .i64 (xs.getD i 0)):=by
  simp [List.getD_eq_getElem?_getD,h]
theorem Fh {α:Type} {f:α→Sem Bool} {b:α→Bool} {w:World} (l:List α) (h:∀ i ∈ l,(f i).run P w = .ok (b i) w) :
    (do let r ←forIn (m:=Sem) l ((none,()):Option Bool×PUnit) fun i r=>do
          let x ←f i
          if !x then pure (ForInStep.done (some false,())) else pure (ForInStep.yield (none,()))
        match r.fst with
        | some a=>pure a
        | none=>pure true:Sem Bool).run P w = .ok (l.all b) w:=by
  have key:∀ l:List α,(∀ i ∈ l,(f i).run P w = .ok (b i) w)→(forIn (m:=Sem) l ((none,()):Option Bool×PUnit) fun i r=>do
          let x ←f i
          if !x then pure (ForInStep.done (some false,())) else pure (ForInStep.yield (none,()))).run P w = .ok ((if l.all b=true then none else some false,())) w:=by
    intro l
    induction l with
    | nil=>intro _;simp
    | cons a l ih=>
      intro h
      have h1:=h a (by simp)
      have h2:=ih fun i hi=>h i (by simp [hi])
      rw [List.forIn_cons]
      cases hb:b a with
      | true=>
        rw [hb] at h1
        have e:(a::l).all b=l.all b:=by simp [hb]
        rw [e]
        simp only [Sem.run_bind,h1,Result.andThen_ok]
        simpa using h2
      | false=>
        rw [hb] at h1
        simp [h1,hb]
  simp only [Sem.run_bind,key l h,Result.andThen_ok]
  by_cases hl:l.all b=true
  · simp [hl]
  · simp [hl]
theorem Be {α:Type} {f:α→Sem Unit} {w:World} (l:List α) (h:∀ i ∈ l,(f i).run P w = .ok () w) :
    (forIn (m:=Sem) l () fun i r=>do f i;pure (ForInStep.yield ())).run P w = .ok () w:=by
  induction l with
  | nil=>simp
  | cons a l ih=>
    have h1:=h a (by simp)
    have h2:=ih fun i hi=>h i (by simp [hi])
    rw [List.forIn_cons]
    simp only [Sem.run_bind,h1,Result.andThen_ok]
    simpa using h2
def seg (xs:List Int) (off n:Nat):List Int:=(xs.drop off).take n
theorem lP {xs:List Int} {off n:Nat} (h:off+n≤xs.length):(seg xs off n).length=n:=by simp [seg];omega
structure PartK (P:Program) (t:TypeId) (n D:Nat):Prop where
  eq:∀ (d:Nat) (xs ys:List Int) (off:Nat) (w:World),off+n≤xs.length→off+n≤ys.length →
    (do let a ←part t (xs.map fun x=>Value.int .i64 x).toArray off;let b ←part t (ys.map fun x=>Value.int .i64 x).toArray off;Op.equalIn (d+D) t a b:Sem Bool).run P w = .ok (decide (seg xs off n=seg ys off n)) w
  ck:∀ (m:Bool) (d:Nat) (xs:List Int) (off:Nat) (w:World),off+n≤xs.length→(do let a ←part t (xs.map fun x=>Value.int .i64 x).toArray off;Instr.checkKey m (d+D) t a:Sem Unit).run P w = .ok () w
theorem PartK.of (h:IntsK P kt n D):PartK P kt n D:=by
  refine ⟨fun d xs ys off w hx hy=>?_,fun m d xs off w hx=>?_⟩
  · simp only [Sem.run_bind,qT h.agg h.sz,Result.andThen_ok,vG]
    exact h.eq d _ _ w (lP hx) (lP hy)
  · simp only [Sem.run_bind,qT h.agg h.sz,Result.andThen_ok,vG]
    exact h.ck m d _ w (lP hx)
theorem zJ {xs:List Int} {i:Nat} (h:i<xs.length):seg xs i 1=[xs.getD i 0]:=by
  rw [seg,List.drop_eq_getElem_cons h,List.take_succ_cons,List.take_zero,List.getD_eq_getElem?_getD,List.getElem?_eq_getElem h]
  rfl
theorem PartK.int (he:P.underlying e=some (.int .i64)) (h1:One P e):PartK P e 1 1:=by
  have hp:∀ (zs:List Int) (i:Nat),i<zs.length→∀ w,(part e (zs.map fun x=>Value.int .i64 x).toArray i).run P w = .ok (.int .i64 (zs.getD i 0)) w:=fun zs i hi w=>Bc h1 (Iu hi)
  refine ⟨fun d xs ys off w hx hy=>?_,fun m d xs off w hx=>?_⟩
  · simp only [Sem.run_bind,hp xs off (by omega),hp ys off (by omega),Result.andThen_ok,Iq he]
    rw [zJ (by omega),zJ (by omega)]
    rw [show decide ([xs.getD off 0]=[ys.getD off 0])=decide (xs.getD off 0=ys.getD off 0) by simp]
    rfl
  · simp only [Sem.run_bind,hp xs off (by omega),Result.andThen_ok,Ir he]
theorem PartK.mono {n D:Nat} (h:PartK P e n D):PartK P e n (D+1):=
  ⟨fun d xs ys off w hx hy=>by have:=h.eq (d+1) xs ys off w hx hy;rw [Nat.add_assoc,Nat.add_comm 1 D] at this;exact this,fun m d xs off w hx=>by have:=h.ck m (d+1) xs off w hx;rw [Nat.add_assoc,Nat.add_comm 1 D] at this;exact this⟩
theorem PartK.int2 (he:P.underlying e=some (.int .i64)) (h1:One P e):PartK P e 1 2:=(PartK.int he h1).mono
theorem zK {xs ys:List Int} {off n m:Nat} (hx:off+n+m≤xs.length) (hy:off+n+m≤ys.length):seg xs off (n+m)=seg ys off (n+m)↔seg xs off n=seg ys off n∧seg xs (off+n) m=seg ys (off+n) m:=by
  have e:∀ zs:List Int,seg zs off (n+m)=seg zs off n++seg zs (off+n) m:=fun zs=>by
    unfold seg;rw [List.take_add,List.drop_drop]
  rw [e,e]
  exact ⟨fun h=>List.append_inj h (by rw [lP (by omega),lP (by omega)]),fun h=>by rw [h.1,h.2]⟩
theorem nL {xs:List Int} {n:Nat} (h:xs.length=n):seg xs 0 n=xs:=by unfold seg;rw [List.drop_zero,List.take_of_length_le (by omega)]
theorem Mg {xs ys:List Int} {m:Nat}:∀ len,len*m≤xs.length→len*m≤ys.length→((List.range len).all fun i=>decide (seg xs (i*m) m=seg ys (i*m) m))=decide (seg xs 0 (len*m)=seg ys 0 (len*m)):=by
  intro len
  induction len with
  | zero=>intro _ _;simp [seg]
  | succ len ih=>
    intro hx hy
    rw [Nat.add_mul] at hx hy
    rw [List.range_succ,List.all_append,ih (by omega) (by omega),Bool.eq_iff_iff,Nat.add_mul,Nat.one_mul,decide_eq_true_eq,zK (by omega) (by omega),Nat.zero_add]
    simp
theorem Fi {len m D:Nat} (hk:P.underlying kt=some (.array len e)) (hs:Sz P kt (len*m)) (he:PartK P e m D) (hse:Sz P e m):IntsK P kt (len*m) (D+1):=by
  refine ⟨by unfold Agg gY;rw [hk],hs,fun d xs ys w hx hy=>?_,fun b d xs w hx=>?_⟩
  · have hq:∀ i ∈ List.range len,(do let a ←part e (xs.map fun x=>Value.int .i64 x).toArray (i*m);let b ←part e (ys.map fun x=>Value.int .i64 x).toArray (i*m);Op.equalIn (d+D) e a b:Sem Bool).run P w = .ok (decide (seg xs (i*m) m=seg ys (i*m) m)) w:=fun i hi=>by
      have hi':=List.mem_range.1 hi
      have:(i+1)*m≤len*m:=Nat.mul_le_mul_right _ (by omega)
      rw [Nat.add_mul] at this
      exact he.eq d xs ys (i*m) w (by omega) (by omega)
    have hr:=Fh (P:=P) (w:=w) (List.range len) hq
    rw [Mg len (by omega) (by omega),nL hx,nL hy] at hr
    unfold ints
    rw [show d+(D+1)=(d+D)+1 from rfl,Op.equalIn]
    simp only [Sem.run_bind,bP hk,qU hse,Result.andThen_ok,Std.Legacy.Range.forIn_eq_forIn_range',Std.Legacy.Range.size]
    rw [List.range_eq_range'] at hr
    simp at hr ⊢
    rw [←hr]
    congr 1
    funext a w'
    cases a with|mk x y=>cases x <;> rfl
  · have hz:(sizeOf e).run P w = .ok m w:=qU hse
    have hq:∀ i ∈ List.range len,(do let s ←sizeOf e;let a ←part e (xs.map fun x=>Value.int .i64 x).toArray (i*s);Instr.checkKey b (d+D) e a:Sem Unit).run P w = .ok () w:=fun i hi=>by
      have hi':=List.mem_range.1 hi
      have:(i+1)*m≤len*m:=Nat.mul_le_mul_right _ (by omega)
      rw [Nat.add_mul] at this
      have h9:=he.ck b d xs (i*m) w (by omega)
      rw [Sem.run_bind,hz,Result.andThen_ok]
      exact h9
    have hr:=Be (P:=P) (w:=w) (List.range len) hq
    unfold ints
    rw [show d+(D+1)=(d+D)+1 from rfl,Instr.checkKey]
    simp only [Sem.run_bind,bP hk,Result.andThen_ok,Std.Legacy.Range.forIn_eq_forIn_range',Std.Legacy.Range.size]
    rw [List.range_eq_range'] at hr
    simp at hr ⊢
    exact congrArg (fun r:Result Unit=>r.andThen fun _ w'=>Result.ok () w') hr
inductive FieldsK (P:Program) (D:Nat):Nat→List Field→Nat→Prop
  | nil (off:Nat):FieldsK P D off [] off
  | cons {off n E : Nat} {f : Field} {fs : List Field} (h1 : f.name ≠ "_") (h2 : f.offset = off) (h3 : PartK P f.type n D) (h4 : FieldsK P D (off + n) fs E) : FieldsK P D off (f :: fs) E
theorem FieldsK.le {fs:List Field} {off E:Nat} (h:FieldsK P D off fs E):off≤E:=by
  induction h with
  | nil=>exact Nat.le_refl _
  | cons _ _ _ _ ih=>omega
theorem FieldsK.eqs {fs:List Field} {off E:Nat} (h:FieldsK P D off fs E) (xs ys:List Int) (d:Nat) (hx:E≤xs.length) (hy:E≤ys.length) :
    (forIn (m := Sem) fs ((none, ()) : Option Bool × PUnit) fun f r => if f.name ≠ "_" then do
          let c ←(do let a ←part f.type (xs.map fun x=>Value.int .i64 x).toArray f.offset;let b ←part f.type (ys.map fun x=>Value.int .i64 x).toArray f.offset;Op.equalIn (d+D) f.type a b:Sem Bool)
          if !c then pure (ForInStep.done (some false,())) else pure (ForInStep.yield (none,()))
        else pure (ForInStep.yield (none,()))).run P w = .ok ((if seg xs off (E-off)=seg ys off (E-off) then none else some false,())) w:=by
  induction h with
  | nil off=>simp [seg]
  | @cons off n E f fs h1 h2 h3 h4 ih=>
    have hle:=h4.le
    have h5:=h3.eq d xs ys off w (by omega) (by omega)
    have h6:=ih hx hy
    have h7:=zK (xs:=xs) (ys:=ys) (off:=off) (n:=n) (m:=E-(off+n)) (by omega) (by omega)
    rw [show n+(E-(off+n))=E-off by omega] at h7
    rw [List.forIn_cons,if_pos h1,h2]
    by_cases hs:seg xs off n=seg ys off n
    · rw [decide_eq_true hs] at h5
      rw [Sem.run_bind,Sem.run_bind,h5,Result.andThen_ok]
      simp only [Bool.not_true,Bool.false_eq_true,if_false,Sem.run_pure,Result.andThen_ok]
      rw [h6]
      by_cases ht:seg xs (off+n) (E-(off+n))=seg ys (off+n) (E-(off+n))
      · rw [if_pos ht,if_pos (h7.2 ⟨hs,ht⟩)]
      · rw [if_neg ht,if_neg (fun h=>ht (h7.1 h).2)]
    · rw [decide_eq_false hs] at h5
      rw [Sem.run_bind,Sem.run_bind,h5,Result.andThen_ok]
      simp only [Bool.not_false,if_true,Sem.run_pure,Result.andThen_ok]
      rw [if_neg (fun h=>hs (h7.1 h).1)]
theorem FieldsK.cks {fs:List Field} {off E:Nat} (h:FieldsK P D off fs E) (xs:List Int) (m:Bool) (d:Nat) (hx:E≤xs.length) :
    (forIn (m := Sem) fs () fun f r => if f.name ≠ "_" then do
          (do let a ←part f.type (xs.map fun x=>Value.int .i64 x).toArray f.offset;Instr.checkKey m (d+D) f.type a:Sem Unit)
          pure (ForInStep.yield ())
        else pure (ForInStep.yield ())).run P w = .ok () w:=by
  induction h with
  | nil off=>simp
  | @cons off n E f fs h1 h2 h3 h4 ih=>
    have hle:=h4.le
    have h5:=h3.ck m d xs off w (by omega)
    have h6:=ih hx
    rw [List.forIn_cons,if_pos h1,h2]
    rw [Sem.run_bind,Sem.run_bind,h5,Result.andThen_ok]
    simp only [Sem.run_pure,Result.andThen_ok]
    exact h6
theorem Fj {fs:Array Field} {n:Nat} (hk:P.underlying kt=some (.struct fs)) (hs:Sz P kt n) (hf:FieldsK P D 0 fs.toList n) (hst:P.stoodInHeld kt=false):IntsK P kt n (D+1):=by
  refine ⟨by unfold Agg gY;rw [hk],hs,fun d xs ys w hx hy=>?_,fun b d xs w hx=>?_⟩
  · have hr:=hf.eqs (w:=w) xs ys d (by omega) (by omega)
    rw [Nat.sub_zero,nL hx,nL hy] at hr
    have hpg:(program:Sem Program).run P w = .ok P w:=rfl
    unfold ints
    rw [show d+(D+1)=(d+D)+1 from rfl,Op.equalIn]
    simp only [Sem.run_bind,bP hk,hpg,hst,Result.andThen_ok]
    simp at hr ⊢
    have hr2:=congrArg (fun r:Result (Option Bool×PUnit)=>r.andThen fun a w'=>Sem.run P (match a.fst with|some r=>pure r|none=>pure true) w') hr
    refine Eq.trans ?_ (hr2.trans (by by_cases h:xs=ys <;> simp [h]))
    refine congrArg _ ?_
    funext a w'
    cases a with|mk x y=>cases x <;> rfl
  · have hr:=hf.cks (w:=w) xs b d (by omega)
    unfold ints
    rw [show d+(D+1)=(d+D)+1 from rfl,Instr.checkKey]
    simp only [Sem.run_bind,bP hk,Result.andThen_ok]
    simp at hr ⊢
    exact congrArg (fun r:Result Unit=>r.andThen fun _ w'=>Result.ok () w') hr
def KeyN (n:Nat):Type:={ l:List Int // l.length=n }
instance {n:Nat}:DecidableEq (KeyN n):=fun a b=>if h:a.1=b.1 then .isTrue (Subtype.ext h) else .isFalse fun e=>h (congrArg Subtype.val e)
def encN {n:Nat} (k:KeyN n):Value:=ints k.1
theorem Bf (xs:List Int) (d:Nat):Instr.sameBits (d+1) (ints xs) (ints xs)=true:=by
  unfold ints
  rw [Instr.sameBits]
  simp only [beq_self_eq_true,Bool.true_and]
  rw [List.all_eq_true]
  rintro ⟨x,y⟩ h
  rw [List.zip_eq_zipWith] at h
  simp only [List.zipWith_self,List.mem_map] at h
  obtain ⟨v,hv,e⟩:=h
  cases e
  have hv':x ∈ xs.map fun x=>Value.int .i64 x:=by simpa using hv
  obtain ⟨q,_,rfl⟩:=List.mem_map.1 hv'
  simp [Instr.sameBits]
theorem Iv {n:Nat} (h:IntsK P kt n D) (hD:D≤100) (hwide:(match P.underlying kt with|some (.array _ _)|some (.struct _)=>true|_=>false)=true):KeyOk P kt (encN (n:=n)):=by
  have heq:∀ (k k':KeyN n) (w:World),(Op.equal kt (encN k) (encN k')).run P w = .ok (decide (k=k')) w:=fun k k' w=>by
    have:=h.eq (10000-D) k.1 k'.1 w k.2 k'.2
    rw [Nat.sub_add_cancel (by omega)] at this
    unfold Op.equal Op.maxDepth encN
    rw [this]
    congr 1
    exact decide_eq_decide.2 ⟨fun h=>Subtype.ext h,fun h=>congrArg Subtype.val h⟩
  refine ⟨fun l k es w he=>?_,fun m k w=>?_,fun k=>Bf _ _⟩
  · rw [run_findKey_eq w hwide]
    exact Is heq k l es 0 he
  · have:=h.ck m (10000-D) k.1 w k.2
    rw [Nat.sub_add_cancel (by omega)] at this
    exact this
end
structure Unt where
  mach:Int
  every:Int
  seen:Int
  rates:List (Int×Int)
  RA:Option Addr
  rc:Nat
  worn:Int
  turns:Int
  age:Int
  uses:List Use
  UA:Option Addr
  uc:Nat
  old:Int
  tn:Int
  cl:Int
  kind:Int
def Unt.zero:Unt:=⟨0,0,0,[],none,0,0,0,0,[],none,0,0,0,0,0⟩
def Unt.cell (u:Unt):Nat→Value
  | 0 => .int .i64 u.mach
  | 1 => .int .i64 u.every
  | 2 => .int .i64 u.seen
  | 3 => .slice u.RA u.rates.length u.rc
  | 4 => .int .i64 u.worn
  | 5 => .int .i64 u.turns
  | 6 => .int .i64 u.age
  | 7 => .slice u.UA u.uses.length u.uc
  | 8 => .int .i64 u.old
  | 9 => .int .i64 u.tn
  | 10 => .int .i64 u.cl
  | _ => .int .i64 u.kind
def vcell (l:List Unt) (k j:Nat):Value:=(l.getD k Unt.zero).cell j
def Unt.part (u:Unt):Part:=⟨u.rates,u.worn,u.turns,u.age⟩
def Unt.same (u v:Unt):Prop:=v={ u with RA:=v.RA,rc:=v.rc,UA:=v.UA,uc:=v.uc }
structure Spr where
  day:Int
  kind:Int
  many:Int
def Spr.zero:Spr:=⟨0,0,0⟩
def Spr.cell (s:Spr):Nat→Value
  | 0 => .int .i64 s.day
  | 1 => .int .i64 s.kind
  | _ => .int .i64 s.many
def Mh (l:List Spr) (k j:Nat):Value:=(l.getD k Spr.zero).cell j
structure Tsk where
  day:Int
  unit:Int
  kind:Int
deriving instance DecidableEq for Tsk
def Tsk.zero:Tsk:=⟨0,0,0⟩
def Tsk.cell (t:Tsk):Nat→Value
  | 0 => .int .i64 t.day
  | 1 => .int .i64 t.unit
  | _ => .int .i64 t.kind
def eJ (l:List Tsk) (k j:Nat):Value:=(l.getD k Tsk.zero).cell j
structure Yr where
  days:Int
  pl:Int
  ps:List Psg
  PA:Option Addr
  pc:Nat
  xs:List Int
  XA:Option Addr
  xc:Nat
  pe:List Int
  BA:Option Addr
  bc:Nat
  limit:Int
  help:Bool
  prs:List Prm
  QA:Option Addr
  qc:Nat
  us:List Unt
  VA:Option Addr
  vc:Nat
  crew:Int
  sps:List Spr
  SA:Option Addr
  sc:Nat
def Yr.cells (y:Yr):List Value:=[.int .i64 y.days,.int .i64 y.pl,.slice y.PA y.ps.length y.pc,.slice y.XA y.xs.length y.xc,.slice y.BA y.pe.length y.bc,.int .i64 y.limit,.bool y.help,.slice y.QA y.prs.length y.qc,.slice y.VA y.us.length y.vc,.int .i64 y.crew,.slice y.SA y.sps.length y.sc]
abbrev Yr.st (y:Yr):Value := .agg [.int .i64 y.pl,.slice y.PA y.ps.length y.pc,.slice y.XA y.xs.length y.xc].toArray
abbrev Yr.u (y:Yr) (k:Nat):Unt:=y.us.getD k Unt.zero
structure YIn (w:World) (F:Nat→Prop) (y:Yr):Prop where
  ps:InS w F 7 y.PA y.ps.length (pcell y.ps)
  xs:InS w F 1 y.XA y.xs.length (icl y.xs)
  pe:InS w F 1 y.BA y.pe.length (icl y.pe)
  prs:InS w F 5 y.QA y.prs.length (Ev y.prs)
  us:InS w F 12 y.VA y.us.length (vcell y.us)
  sps:InS w F 3 y.SA y.sps.length (Mh y.sps)
  rt:∀ k,k<y.us.length→InS w F 2 (y.us.getD k Unt.zero).RA (y.us.getD k Unt.zero).rates.length (scell (y.us.getD k Unt.zero).rates)
  ul:∀ k,k<y.us.length→InS w F 6 (y.us.getD k Unt.zero).UA (y.us.getD k Unt.zero).uses.length (ucell (y.us.getD k Unt.zero).uses)
structure YBd (y:Yr):Prop where
  ps:y.ps.length*56≤140737488351232
  xs:y.xs.length*8≤140737488351232
  pe:y.pe.length*8≤140737488351232
  prs:y.prs.length*40≤140737488351232
  us:y.us.length*120≤140737488351232
  sps:y.sps.length*24≤140737488351232
  rt:∀ k,k<y.us.length→(y.us.getD k Unt.zero).rates.length*16≤140737488351232
  ul:∀ k,k<y.us.length→(y.us.getD k Unt.zero).uses.length*48≤140737488351232
  cap:∀ k,k<y.us.length→(y.us.getD k Unt.zero).uses.length≤(y.us.getD k Unt.zero).uc
section
variable {w w0:World} {F F0:Nat→Prop} {R:List Mem} {y:Yr}
theorem YIn.now (h:YIn w0 F0 y) (S:St w0 F0 R w):YIn w noF y:=
  ⟨h.ps.now S,h.xs.now S,h.pe.now S,h.prs.now S,h.us.now S,h.sps.now S,fun k hk=>(h.rt k hk).now S,fun k hk=>(h.ul k hk).now S⟩
theorem YBd.psn (h:YBd y):y.ps.length≤9223372036854775807:=by have:=h.ps;omega
theorem YBd.xsn (h:YBd y):y.xs.length≤9223372036854775807:=by have:=h.xs;omega
theorem YBd.pen (h:YBd y):y.pe.length≤9223372036854775807:=by have:=h.pe;omega
theorem YBd.prn (h:YBd y):y.prs.length≤9223372036854775807:=by have:=h.prs;omega
theorem YBd.usn (h:YBd y):y.us.length≤9223372036854775807:=by have:=h.us;omega
theorem YBd.spn (h:YBd y):y.sps.length≤9223372036854775807:=by have:=h.sps;omega
theorem YBd.rtn (h:YBd y) {k:Nat} (hk:k<y.us.length):(y.us.getD k Unt.zero).rates.length≤9223372036854775807:=by have:=h.rt k hk;omega
theorem YBd.uln (h:YBd y) {k:Nat} (hk:k<y.us.length):(y.us.getD k Unt.zero).uses.length≤9223372036854775807:=by have:=h.ul k hk;omega
end
def untI (u:Unt):Prop:=(1≤u.every∧u.every≤20)∧(-20≤u.seen∧u.seen≤0)∧(0≤u.kind∧u.kind≤3)∧u.uses.length≤20∧(prevD u.uses u.uses.length≤u.old∧u.old≤99980)∧(0≤u.tn∧u.tn≤1000000)∧(0≤u.cl∧u.cl≤(u.rates.length:Int)-1)
instance (u:Unt):Decidable (untI u):=by unfold untI;exact inferInstance
def freeN (ps:List Psg) (us:List Unt) (n i:Nat) (m:Int):Bool:=!allN (fun k=>!(decide (0≤(ps.getD k Psg.zero).mach)&&decide ((ps.getD k Psg.zero).mach=m))) n&&allN (fun k=>!decide ((us.getD k Unt.zero).mach=m)) i
def freeM (ps:List Psg) (us:List Unt) (i:Nat) (m:Int):Bool:=freeN ps us ps.length i m
noncomputable def untU (ps:List Psg) (us:List Unt) (i:Nat) (u:Unt):Bool:=freeM ps us i u.mach&&(decide (untI u)&&decide (wearE u.part u.uses=0))
noncomputable def untB (ps:List Psg) (us:List Unt) (i:Nat):Bool:=untU ps us i (us.getD i Unt.zero)
def sprB (days:Int) (s:Spr):Bool:=decide ((0≤s.day∧s.day≤days-1)∧(0≤s.kind∧s.kind≤3)∧(1≤s.many∧s.many≤8))
def yrI (y:Yr):Prop:=(1≤y.days∧y.days≤20)∧((y.pe.length:Int)=y.pl∧∀ k,k<y.pe.length→0≤y.pe.getD k 0∧y.pe.getD k 0≤1000)∧(0≤y.limit∧y.limit≤60)∧(0≤y.crew∧y.crew≤8)∧y.sps.length≤20∧∀ k,k<y.sps.length→sprB y.days (y.sps.getD k Spr.zero)=true
open Classical in
noncomputable def yearE (y:Yr):Int:=if keptE y.pl y.ps y.xs [] y.prs≠0 then keptE y.pl y.ps y.xs [] y.prs else if ¬ yrI y then 120 else if 6<y.us.length then 2 else if allN (untB y.ps y.us) y.us.length=true then 0 else 121
def befB (a b:Tsk):Bool:=if a.day≠b.day then decide (a.day<b.day) else if a.unit≠b.unit then decide (a.unit<b.unit) else decide (a.kind<b.kind)
def tskB (y:Yr) (l:List Tsk) (i:Nat):Bool:=decide ((0≤(l.getD i Tsk.zero).day∧(l.getD i Tsk.zero).day≤y.days-1)∧(0≤(l.getD i Tsk.zero).unit∧(l.getD i Tsk.zero).unit≤(y.us.length:Int)-1)∧(1≤(l.getD i Tsk.zero).kind∧(l.getD i Tsk.zero).kind≤2))&&(decide (i=0)||befB (l.getD (i-1) Tsk.zero) (l.getD i Tsk.zero))
noncomputable def taskE (y:Yr) (l:List Tsk):Int:=if yearE y≠0 then yearE y else if 60<l.length then 2 else if allN (tskB y l) l.length=true then 0 else 122
structure YOk (y:Yr):Prop where
  kept:keptE y.pl y.ps y.xs [] y.prs=0
  yr:yrI y
  many:y.us.length≤6
  un:∀ k,k<y.us.length→untB y.ps y.us k=true
section
variable {y:Yr} {l:List Tsk} {i k:Nat} {ps:List Psg} {us:List Unt}
theorem xJ (h:keptE y.pl y.ps y.xs [] y.prs≠0):yearE y=keptE y.pl y.ps y.xs [] y.prs:=by unfold yearE;rw [if_pos h]
theorem pF (h:keptE y.pl y.ps y.xs [] y.prs=0) (h1:¬ yrI y):yearE y=120:=by unfold yearE;rw [if_neg (by omega),if_pos h1]
theorem xK (h:keptE y.pl y.ps y.xs [] y.prs=0) (h1:yrI y) (h2:6<y.us.length):yearE y=2:=by unfold yearE;rw [if_neg (by omega),if_neg (fun h=>h h1),if_pos h2]
theorem xL (h:keptE y.pl y.ps y.xs [] y.prs=0) (h1:yrI y) (h2:¬ 6<y.us.length) (hk:k<y.us.length) (h3:untB y.ps y.us k=false):yearE y=121:=by
  unfold yearE;rw [if_neg (by omega),if_neg (fun h=>h h1),if_neg h2,if_neg]
  rw [bL]
  intro h4
  rw [h4 k hk] at h3
  cases h3
theorem vH (h:keptE y.pl y.ps y.xs [] y.prs=0) (h1:yrI y) (h2:¬ 6<y.us.length) (h3:allN (untB y.ps y.us) y.us.length=true):yearE y=0:=by
  unfold yearE;rw [if_neg (by omega),if_neg (fun h=>h h1),if_neg h2,if_pos h3]
theorem sW (h:yearE y=0):YOk y:=by
  unfold yearE at h
  split at h
  · omega
  · split at h
    · cases h
    · split at h
      · cases h
      · split at h
        · rename_i h1 h2 h3 h4
          exact ⟨by omega,Classical.not_not.1 h2,by omega,bL.1 h4⟩
        · cases h
theorem xM (h:yearE y≠0):taskE y l=yearE y:=by unfold taskE;rw [if_pos h]
theorem xN (h:yearE y=0) (h1:60<l.length):taskE y l=2:=by unfold taskE;rw [if_neg (by omega),if_pos h1]
theorem jZ (h:yearE y=0) (h1:¬ 60<l.length) (hi:i<l.length) (h2:tskB y l i=false):taskE y l=122:=by
  unfold taskE;rw [if_neg (by omega),if_neg h1,if_neg]
  rw [bL]
  intro h4
  rw [h4 i hi] at h2
  cases h2
theorem vI (h:yearE y=0) (h1:¬ 60<l.length) (h2:allN (tskB y l) l.length=true):taskE y l=0:=by unfold taskE;rw [if_neg (by omega),if_neg h1,if_pos h2]
theorem zL (h:taskE y l=0):yearE y=0∧l.length≤60∧∀ k,k<l.length→tskB y l k=true:=by
  unfold taskE at h
  split at h
  · omega
  · split at h
    · cases h
    · split at h
      · rename_i h1 h2 h3
        exact ⟨by omega,by omega,bL.1 h3⟩
      · cases h
theorem Mi (h:tskB y l i=true):(0≤(l.getD i Tsk.zero).day∧(l.getD i Tsk.zero).day≤y.days-1)∧(0≤(l.getD i Tsk.zero).unit∧(l.getD i Tsk.zero).unit≤(y.us.length:Int)-1)∧(1≤(l.getD i Tsk.zero).kind∧(l.getD i Tsk.zero).kind≤2):=by
  unfold tskB at h
  rw [Bool.and_eq_true] at h
  exact of_decide_eq_true h.1
theorem Bg {m:Int}:freeM ps us i m=true↔(∃ k,k<ps.length∧0≤(ps.getD k Psg.zero).mach∧(ps.getD k Psg.zero).mach=m)∧∀ k,k<i→(us.getD k Unt.zero).mach≠m:=by
  unfold freeM freeN
  rw [Bool.and_eq_true,Bool.not_eq_true',←Bool.not_eq_true,bL,bL]
  constructor
  · rintro ⟨h1,h2⟩
    refine ⟨Classical.byContradiction fun h3=>h1 fun k hk=>?_,fun k hk=>?_⟩
    · rw [Bool.not_eq_true',←Bool.not_eq_true,Bool.and_eq_true,decide_eq_true_eq,decide_eq_true_eq]
      exact fun h4=>h3 ⟨k,hk,h4⟩
    · have:=h2 k hk
      rw [Bool.not_eq_true'] at this
      exact of_decide_eq_false this
  · rintro ⟨⟨k,hk,h1⟩,h2⟩
    refine ⟨fun h3=>?_,fun k hk=>by rw [decide_eq_false (h2 k hk)];rfl⟩
    have:=h3 k hk
    rw [decide_eq_true h1.1,decide_eq_true h1.2] at this
    cases this
structure UntOk (ps:List Psg) (us:List Unt) (u:Unt) (i:Nat):Prop where
  free:freeM ps us i u.mach=true
  i:untI u
  wear:wearE u.part u.uses=0
theorem pG {u:Unt}:untU ps us i u=true↔UntOk ps us u i:=by
  unfold untU
  rw [Bool.and_eq_true,Bool.and_eq_true,decide_eq_true_eq,decide_eq_true_eq]
  exact ⟨fun h=>⟨h.1,h.2.1,h.2.2⟩,fun h=>⟨h.free,h.i,h.wear⟩⟩
theorem vJ:untB ps us i=true↔UntOk ps us (us.getD i Unt.zero) i:=pG
theorem vK {u:Unt} (h:¬ UntOk ps us u i):untU ps us i u=false:=by rw [←Bool.not_eq_true,pG];exact h
def macP (ps:List Psg) (us:List Unt) (n i:Nat) (h:Int→Option Value):Prop:=∀ m,(h m).getD (.bool false) = .bool (freeN ps us n i m)
theorem Bh:macP ps us 0 0 (fun _=>none):=fun m=>rfl
theorem Fk {n:Nat} {m:Int}:freeN ps us (n+1) 0 m=(freeN ps us n 0 m||(decide (0≤(ps.getD n Psg.zero).mach)&&decide ((ps.getD n Psg.zero).mach=m))):=by
  unfold freeN
  simp only [allN,Bool.and_true,Bool.not_and,Bool.not_not,Bool.not_or]
theorem Iw {n:Nat} (hd:∀ j,j<n→0≤(ps.getD n Psg.zero).mach→(ps.getD j Psg.zero).mach≠(ps.getD n Psg.zero).mach) (hn:∀ j,j<n→(ps.getD n Psg.zero).mach<0→(ps.getD j Psg.zero).mach=(ps.getD n Psg.zero).mach→(ps.getD j Psg.zero).mach<0) :
    ∀ h,macP ps us n 0 h→macP ps us (n+1) 0 (fun k'=>if k'=(ps.getD n Psg.zero).mach then some (.bool (decide (0≤(ps.getD n Psg.zero).mach))) else h k'):=fun h hh m=>by
  dsimp only
  rw [Fk]
  by_cases e:m=(ps.getD n Psg.zero).mach
  · subst e
    rw [if_pos rfl,decide_eq_true (p:=(ps.getD n Psg.zero).mach=(ps.getD n Psg.zero).mach) rfl,Bool.and_true]
    by_cases h0:0≤(ps.getD n Psg.zero).mach
    · rw [decide_eq_true h0,Bool.or_true];rfl
    · rw [decide_eq_false h0,Bool.or_false]
      have:freeN ps us n 0 (ps.getD n Psg.zero).mach=false:=by
        unfold freeN
        rw [Bool.and_eq_false_iff]
        left
        rw [Bool.not_eq_false',bL]
        intro k hk
        rw [Bool.not_eq_true',Bool.and_eq_false_iff,decide_eq_false_iff_not,decide_eq_false_iff_not]
        by_cases e2:(ps.getD k Psg.zero).mach=(ps.getD n Psg.zero).mach
        · left;omega
        · exact .inr e2
      rw [this];rfl
  · rw [if_neg e,decide_eq_false (p:=(ps.getD n Psg.zero).mach=m) (fun h=>e h.symm),Bool.and_false,Bool.or_false]
    exact hh m
theorem Ix {i:Nat}:∀ h,macP ps us ps.length i h→macP ps us ps.length (i+1) (fun k'=>if k'=(us.getD i Unt.zero).mach then some (.bool false) else h k'):=fun h hh m=>by
  dsimp only
  have e0:freeN ps us ps.length (i+1) m=(freeN ps us ps.length i m&&!decide ((us.getD i Unt.zero).mach=m)):=by
    unfold freeN
    show (_&&(allN _ i&&_))=_
    rw [Bool.and_assoc]
  rw [e0]
  by_cases e:m=(us.getD i Unt.zero).mach
  · subst e
    rw [if_pos rfl,decide_eq_true rfl,Bool.not_true,Bool.and_false];rfl
  · rw [if_neg e,decide_eq_false (fun h=>e h.symm),Bool.not_false,Bool.and_true]
    exact hh m
end
def bsum (f:Nat→Bool):Nat→Int
  | 0=>0
  | n+1=>bsum f n+if f n=true then 2^n else 0
theorem lQ (n:Nat):(0:Int)<2^n:=Int.pow_pos (by decide)
theorem kA (f:Nat→Bool):∀ n,0≤bsum f n∧bsum f n<2^n:=by
  intro n
  induction n with
  | zero=>exact ⟨Int.le_refl 0,(by decide:(0:Int)<2^0)⟩
  | succ n ih=>
    have h:=lQ n
    rw [bsum,Int.pow_succ]
    split <;> omega
theorem zM {x:Int} {n:Nat} (h0:0≤x) (h1:x<2^n):x/2^n%2=0∧(x+2^n)/2^n%2=1:=by
  have hp:=lQ n
  have e1:x/2^n=0:=Int.ediv_eq_zero_of_lt h0 h1
  refine ⟨by rw [e1];rfl,?_⟩
  have e2:(x+2^n)/2^n=x/2^n+1:=by
    have:=Int.add_mul_ediv_right x 1 (show (2:Int)^n≠0 by omega)
    rw [Int.one_mul] at this
    exact this
  rw [e2,e1];rfl
theorem Iy {x:Int} {n d:Nat} (hd:d<n):(x+2^n)/2^d%2=x/2^d%2:=by
  have hp:=lQ d
  have e:(2:Int)^n=(2^(n-d-1)*2)*2^d:=by
    rw [←Int.pow_succ,←Int.pow_add]
    congr 1;omega
  rw [e,Int.add_mul_ediv_right _ _ (by omega)]
  omega
theorem pH {f:Nat→Bool}:∀ {n d:Nat},d<n→bsum f n/2^d%2=if f d=true then 1 else 0:=by
  intro n
  induction n with
  | zero=>intro d h;omega
  | succ n ih=>
    intro d hd
    have hb:=kA f n
    rw [bsum]
    by_cases e:d=n
    · subst e
      have h:=zM hb.1 hb.2
      split
      · exact h.2
      · rw [Int.add_zero];exact h.1
    · split
      · rw [Iy (by omega)];exact ih (by omega)
      · rw [Int.add_zero];exact ih (by omega)
theorem zN {f:Nat→Bool} {n d:Nat} (h:n≤d):bsum f n/2^d%2=0:=by
  have hb:=kA f n
  have hp:(2:Int)^n≤2^d:=by
    have h1:2^n≤2^d:=Nat.pow_le_pow_right (by decide) h
    exact_mod_cast h1
  rw [Int.ediv_eq_zero_of_lt hb.1 (by omega)];rfl
theorem mF (f:Nat→Bool) {n:Nat} (h:n≤39):0≤bsum f n∧bsum f n<2^40:=by
  have hb:=kA f n
  have hp:(2:Int)^n≤2^39:=by
    have h1:2^n≤2^39:=Nat.pow_le_pow_right (by decide) h
    exact_mod_cast h1
  omega
theorem Fm {d:Nat} (h:d≤39):i64ok (1*2^((d:Nat):Int).toNat):=by
  have hp:(2:Int)^d≤2^39:=by
    have h1:2^d≤2^39:=Nat.pow_le_pow_right (by decide) h
    exact_mod_cast h1
  have h0:=lQ d
  rw [Int.toNat_natCast]
  unfold i64ok
  omega
theorem xO {f:Nat→Bool} {n:Nat} (h:f n=true):bsum f n+2^((n:Nat):Int).toNat=bsum f (n+1):=by rw [bsum,if_pos h];rfl
theorem xP {f:Nat→Bool} {n:Nat} (h:f n=false):bsum f n=bsum f (n+1):=by rw [bsum,if_neg (by rw [h];simp),Int.add_zero]
theorem pI {f g:Nat→Bool}:∀ {n:Nat},(∀ i,i<n→f i=g i)→bsum f n=bsum g n:=by
  intro n
  induction n with
  | zero=>intro _;rfl
  | succ n ih=>intro h;rw [bsum,bsum,ih fun i hi=>h i (by omega),h n (by omega)]
theorem Iz {m k:Nat} (hm:m<2^40) (hk:k<40) (h:m/2^k%2=0):IntKind.i64.wrap ((BitVec.ofInt 64 (m:Int) ||| BitVec.ofInt 64 ((2^k:Nat):Int)).toNat:Int)=((m+2^k:Nat):Int):=by
  have hp:2^k≤2^39:=Nat.pow_le_pow_right (by omega) (by omega)
  have e:((BitVec.ofInt 64 (m:Int) ||| BitVec.ofInt 64 ((2^k:Nat):Int)).toNat)=m+2^k:=by
    rw [BitVec.toNat_or,BitVec.ofInt_natCast,BitVec.ofInt_natCast,BitVec.toNat_ofNat,BitVec.toNat_ofNat,Nat.mod_eq_of_lt (by omega),Nat.mod_eq_of_lt (by omega)]
    exact De h
  rw [e]
  exact i64ok.eq ⟨by omega,by omega⟩
section
variable {P:Program} {L:List (Nat×Value)} {w:World} {d:Option Nat} {ty:TypeId} {pos:String} {af:Array Edge} {g:Option (Nat×Bool)}
theorem pJ {x y:Operand} {xt yt:TypeId} {m k:Int} (hx:ev L x=some (.int .i64 m)) (hy:ev L y=some (.int .i64 (1*2^k.toNat))) (hm:0≤m∧m<2^40) (hk:0≤k∧k<40) (h:m/2^k.toNat%2=0) :
    Does P L ⟨d,.binOp .or xt x y yt,ty,pos,af,g⟩ w (.int .i64 (m+2^k.toNat)):=fun ρ hρ=>by
  obtain ⟨m,rfl⟩:∃ n:Nat,m=n:=⟨m.toNat,by omega⟩
  have e1:(1:Int)*2^k.toNat=((2^k.toNat:Nat):Int):=by push_cast;omega
  have h1:m/2^k.toNat%2=0:=by
    have h2:((m/2^k.toNat%2:Nat):Int)=0:=by push_cast;exact h
    omega
  have e2:(m:Int)+2^k.toNat=((m+2^k.toNat:Nat):Int):=by push_cast;rfl
  have e:Op.intBits .or .i64 (m:Int) (1*2^k.toNat)=pure (.int .i64 ((m:Int)+2^k.toNat)):=by
    rw [e1,e2]
    exact congrArg (fun z=>(pure (Value.int .i64 z):Sem Value)) (Iz (by have:=hm.2;omega) (by omega) h1)
  rw [Int.one_mul] at e
  simp [execOp,hρ _ _ hx,hρ _ _ hy,eqGuard,binOp,e]
end
structure LSt where
  uses:List Use
  born:Int
  seen:Int
def insp (j:Int):Bool:=decide (j/2^(1:Int).toNat%2=1)
def renw (j:Int):Bool:=decide (j/2^(2:Int).toNat%2=1)
def useAt (u:Unt) (d born:Int):Use:=⟨d-born,u.tn,u.cl,false,0,0⟩
noncomputable def bydB (p:Part) (l:List Use):Bool:=!decide ((dY p l Prod.snd).2=0)||decide (0≤(dY p l Prod.snd).1)
def seenN (s:LSt) (j:Int) (d:Nat):Int:=if insp j=true then (d:Int) else s.seen
def certN (u:Unt) (s:LSt) (j:Int) (d:Nat):Bool:=decide ((d:Int)-seenN s j d≤u.every)
noncomputable def runN (u:Unt) (s:LSt) (j:Int) (d:Nat):Bool:=(decide (j=0)&&certN u s j d)&&!bydB u.part (s.uses++[useAt u d s.born])
noncomputable def stepL (u:Unt) (s:LSt) (j:Int) (d:Nat):LSt:=⟨if renw j=true then [] else if runN u s j d=true then s.uses++[useAt u d s.born] else s.uses,if renw j=true then (d:Int) else s.born,seenN s j d⟩
noncomputable def lifeS (u:Unt) (J:Nat→Int):Nat→LSt
  | 0=>⟨u.uses,-u.old,u.seen⟩
  | d+1=>stepL u (lifeS u J d) (J d) d
noncomputable def certB (u:Unt) (J:Nat→Int) (d:Nat):Bool:=certN u (lifeS u J d) (J d) d
noncomputable def runB' (u:Unt) (J:Nat→Int) (d:Nat):Bool:=runN u (lifeS u J d) (J d) d
section
variable {u:Unt} {J J':Nat→Int} {d n:Nat}
theorem Bi:∀ d,(lifeS u J d).uses.length≤u.uses.length+d:=by
  intro d
  induction d with
  | zero=>exact Nat.le_refl _
  | succ d ih=>
    show (stepL u (lifeS u J d) (J d) d).uses.length≤_
    unfold stepL
    dsimp only
    split
    · simp
    · split
      · rw [List.length_append];show _+1≤_;omega
      · omega
theorem xQ (ho:0≤u.old∧u.old≤99980):∀ d,-99980≤(lifeS u J d).born∧(lifeS u J d).born≤d:=by
  intro d
  induction d with
  | zero=>exact ⟨by show -99980 ≤ -u.old;omega,by show -u.old≤((0:Nat):Int);omega⟩
  | succ d ih=>
    show -99980≤(stepL u (lifeS u J d) (J d) d).born∧(stepL u (lifeS u J d) (J d) d).born≤((d+1:Nat):Int)
    unfold stepL
    dsimp only
    split <;> omega
theorem vL {s:LSt} {j:Int} (h : -20≤s.seen∧s.seen≤d) : -20≤seenN s j d∧seenN s j d≤d:=by
  unfold seenN
  split <;> omega
theorem xR (ho : -20≤u.seen∧u.seen≤0):∀ d:Nat,-20≤(lifeS u J d).seen∧(lifeS u J d).seen≤d:=by
  intro d
  induction d with
  | zero=>exact ⟨ho.1,ho.2⟩
  | succ d ih=>
    have h:=vL (j:=J d) ih
    show -20≤seenN (lifeS u J d) (J d) d∧seenN (lifeS u J d) (J d) d≤((d+1:Nat):Int)
    omega
theorem mW:∀ d,(∀ i,i<d→J i=J' i)→lifeS u J d=lifeS u J' d:=by
  intro d
  induction d with
  | zero=>intro _;rfl
  | succ d ih=>intro h;rw [lifeS,lifeS,ih fun i hi=>h i (by omega),h d (by omega)]
theorem xS (h:∀ i,i≤d→J i=J' i):runB' u J d=runB' u J' d:=by unfold runB';rw [mW d fun i hi=>h i (by omega),h d (Nat.le_refl d)]
theorem vM (h:∀ i,i≤d→J i=J' i):certB u J d=certB u J' d:=by unfold certB;rw [mW d fun i hi=>h i (by omega),h d (Nat.le_refl d)]
end
theorem Ja {w w0:World} {F0:Nat→Prop} {R:List Mem} {i b ty n:Nat} {f:Nat→Value} (S:St w0 F0 R w) (hi:R[i]?=some (boxM b ty ((List.range n).map f))) (hn:n≤maxLen):St w0 F0 (R.set i (ownM ty 1 (some ⟨b,0,none⟩) n n (fun k _=>f k))) w:=by
  refine S.imp hi (fun h => .inr ⟨b,_,rfl,h,Nat.le_refl _,hn,by simp,fun k j hk hj=>?_⟩) (fun k hk=>by obtain ⟨a,e,h⟩:=hk;cases e;exact h.symm)
  have:j=0:=by omega
  subst this
  simp [hk]
theorem zO (u:Unt) (J:Nat→Int) (d:Nat) (x:Int) (h:x=seenN (lifeS u J d) (J d) d):((decide (J d=0)&&decide ((d:Int)-x≤u.every))&&!bydB u.part ((lifeS u J d).uses++[⟨(d:Int)-(lifeS u J d).born,u.tn,u.cl,false,0,0⟩]))=runB' u J d:=by subst h;rfl
theorem vN (u:Unt) (J:Nat→Int) (d:Nat) (x:Int) (h:x=seenN (lifeS u J d) (J d) d):decide ((d:Int)-x≤u.every)=certB u J d:=by subst h;rfl
noncomputable def usesN (u:Unt) (J:Nat→Int) (d:Nat):List Use:=if runB' u J d=true then (lifeS u J d).uses++[useAt u d (lifeS u J d).born] else (lifeS u J d).uses
theorem Mj {u:Unt} {J:Nat→Int} {d:Nat} {x:Int} (h:renw (J d)=true) (hx:x=seenN (lifeS u J d) (J d) d):(⟨[],(d:Int),x⟩:LSt)=lifeS u J (d+1):=by
  subst hx
  show _=stepL u (lifeS u J d) (J d) d
  unfold stepL
  simp only [h,if_true]
theorem Mk {u:Unt} {J:Nat→Int} {d:Nat} {x:Int} (h:renw (J d)=false) (hx:x=seenN (lifeS u J d) (J d) d):(⟨usesN u J d,(lifeS u J d).born,x⟩:LSt)=lifeS u J (d+1):=by
  subst hx
  show _=stepL u (lifeS u J d) (J d) d
  unfold stepL usesN
  simp only [h,Bool.false_eq_true,if_false]
  rfl
theorem zP {u:Unt} {J:Nat→Int} {d:Nat} (h:runB' u J d=true):usesN u J d=(lifeS u J d).uses++[useAt u d (lifeS u J d).born]:=if_pos h
theorem sX {u:Unt} {J:Nat→Int} {d:Nat} (h:runB' u J d=false):usesN u J d=(lifeS u J d).uses:=if_neg (by rw [h];simp)
def hasT (l:List Tsk) (d u k:Int):Bool:=l.any fun t=>decide (t.day=d∧t.unit=u∧t.kind=k)
def jobV (l:List Tsk) (u d:Int):Int:=(if hasT l d u 1=true then 2 else 0)+(if hasT l d u 2=true then 4 else 0)
theorem Bj {l:List Tsk} {u d:Int}:insp (jobV l u d)=hasT l d u 1:=by
  unfold insp jobV
  cases hasT l d u 1 <;> cases hasT l d u 2 <;> decide
theorem Jc (l:List Tsk) (u d:Int):0≤jobV l u d∧jobV l u d≤6:=by
  unfold jobV
  cases hasT l d u 1 <;> cases hasT l d u 2 <;> decide
theorem vO (l m:List Tsk) (d u k:Int):hasT (l++m) d u k=(hasT l d u k||hasT m d u k):=by unfold hasT;rw [List.any_append]
def jobF (l:List Tsk) (u:Nat):Nat→Int:=fun d=>jobV l u d
noncomputable def certY (y:Yr) (l:List Tsk) (i d:Nat):Bool:=certB (y.us.getD i Unt.zero) (jobF l i) d
def frzM (B:Nat→Prop) (wz:World):Mem where
  fp:=B
  holds:=fun w=>∀ k,B k→w.heap[k]?=wz.heap[k]?
  stable:=fun _ _ h h' k hk=>(h k hk).trans (h' k hk)
def RdF (w0:World) (F0 B:Nat→Prop) (wz:World) (sz:Nat) (A:Option Addr) (n:Nat) (cell:Nat→Nat→Value):Prop:=
  0<n→∃ b o,A=some ⟨b,o,none⟩∧((b<w0.heap.size∧¬ F0 b∧∀ k j,k<n→j<sz→w0.cell? ⟨b,o+k*sz+j,none⟩=some (cell k j))∨(B b∧b<wz.heap.size∧∀ k j,k<n→j<sz→wz.cell? ⟨b,o+k*sz+j,none⟩=some (cell k j)))
section
variable {w w0 wz:World} {F0 B:Nat→Prop} {R:List Mem} {sz n c i:Nat} {A:Option Addr} {cell:Nat→Nat→Value} {e:TypeId}
theorem RdF.base (h:InS w0 F0 sz A n cell):RdF w0 F0 B wz sz A n cell:=fun hn=>by
  obtain ⟨b,o,e,h1,h2,h3⟩:=h hn
  exact ⟨b,o,e,.inl ⟨h1,h2,h3⟩⟩
theorem RdF.nil:RdF w0 F0 B wz sz A 0 cell:=fun hn=>absurd hn (Nat.lt_irrefl 0)
theorem RdF.now (h:RdF w0 F0 B wz sz A n cell) (S:St w0 F0 R w) (hi:R[i]?=some (frzM B wz)):InS w noF sz A n cell:=fun hn=>by
  obtain ⟨b,o,e,h⟩:=h hn
  rcases h with ⟨h1,h2,h3⟩|⟨h1,h2,h3⟩
  · refine ⟨b,o,e,Nat.lt_of_lt_of_le h1 S.size,fun h=>h,fun k j hk hj=>?_⟩
    rw [←h3 k j hk hj]
    exact World.cell?_of_block (w:=w0) (S.ro b h1 h2)
  · refine ⟨b,o,e,(S.inn _ (List.mem_of_getElem? hi) b h1).1,fun h=>h,fun k j hk hj=>?_⟩
    rw [←h3 k j hk hj]
    exact World.cell?_of_block (w:=wz) (S.holds hi b h1)
theorem RdF.nowR {R':List Mem} (h:RdF w0 F0 B wz sz A n cell) (S:St w0 F0 R w) (hi:R[i]?=some (frzM B wz)) (hR:∀ m ∈ R',∃ j,j≠i∧R[j]?=some m):InS w (fps R') sz A n cell:=fun hn=>by
  obtain ⟨b,o,e,h⟩:=h hn
  rcases h with ⟨h1,h2,h3⟩|⟨h1,h2,h3⟩
  · refine ⟨b,o,e,Nat.lt_of_lt_of_le h1 S.size,fun ⟨m,hm,hmb⟩=>?_,fun k j hk hj=>?_⟩
    · obtain ⟨j,_,hj⟩:=hR m hm
      exact h2 ((S.inn m (List.mem_of_getElem? hj) b hmb).2 h1)
    · rw [←h3 k j hk hj]
      exact World.cell?_of_block (w:=w0) (S.ro b h1 h2)
  · refine ⟨b,o,e,(S.inn _ (List.mem_of_getElem? hi) b h1).1,fun ⟨m,hm,hmb⟩=>?_,fun k j hk hj=>?_⟩
    · obtain ⟨j,hji,hj⟩:=hR m hm
      exact S.disj j i m _ hj hi hji b hmb h1
    · rw [←h3 k j hk hj]
      exact World.cell?_of_block (w:=wz) (S.holds hi b h1)
theorem RdF.adr (h:RdF w0 F0 B wz sz A n cell) (hn:0<n):A=some ⟨(Go.Proofs.YtinghmelkmblmaaDoor.adr A).block,(Go.Proofs.YtinghmelkmblmaaDoor.adr A).off,none⟩:=by
  obtain ⟨b,o,rfl,_⟩:=h hn
  rfl
theorem RdF.rd (h:RdF w0 F0 B wz sz A n cell) (S:St w0 F0 R w) (hi:R[i]?=some (frzM B wz)) {k j:Nat} (hk:k<n) (hj:j<sz):w.cell? (pt A sz k j)=some (cell k j):=(h.now S hi).rd (St.start w) hk hj
theorem RdF.congr {cell':Nat→Nat→Value} (h:RdF w0 F0 B wz sz A n cell) (hc:∀ k j,k<n→j<sz→cell k j=cell' k j):RdF w0 F0 B wz sz A n cell':=fun hn=>by
  obtain ⟨b,o,e,h⟩:=h hn
  rcases h with ⟨h1,h2,h3⟩|⟨h1,h2,h3⟩
  · exact ⟨b,o,e,.inl ⟨h1,h2,fun k j hk hj=>by rw [h3 k j hk hj,hc k j hk hj]⟩⟩
  · exact ⟨b,o,e,.inr ⟨h1,h2,fun k j hk hj=>by rw [h3 k j hk hj,hc k j hk hj]⟩⟩
theorem St.frz0 (S:St w0 F0 R w):St w0 F0 (frzM noF w::R) w:=S.new (Keeps.refl _ _) (fun _ h=>h.elim) (fun _ h=>h.elim)
theorem RdF.grow {B':Nat→Prop} (h:RdF w0 F0 B wz sz A n cell) (S:St w0 F0 R w) (hi:R[i]?=some (frzM B wz)) (hB:∀ k,B k→B' k):RdF w0 F0 B' w sz A n cell:=fun hn=>by
  obtain ⟨b,o,e,h⟩:=h hn
  rcases h with h|⟨h1,h2,h3⟩
  · exact ⟨b,o,e,.inl h⟩
  · refine ⟨b,o,e,.inr ⟨hB b h1,(S.inn _ (List.mem_of_getElem? hi) b h1).1,fun k j hk hj=>?_⟩⟩
    rw [←h3 k j hk hj]
    exact World.cell?_of_block (w:=wz) (S.holds hi b h1)
theorem St.freeze (S:St w0 F0 (ownM e sz A n c cell::R) w) (hi:R[i]?=some (frzM B wz)) :
    ∃ B',St w0 F0 (R.set i (frzM B' w)) w∧RdF w0 F0 B' w sz A n cell∧∀ sz' A' n' cell',RdF w0 F0 B wz sz' A' n' cell'→RdF w0 F0 B' w sz' A' n' cell':=by
  refine ⟨fun k=>B k∨(ownM e sz A n c cell).fp k,S.merge (i:=i) hi (fun _ _=>rfl) (fun k h=>h.symm),fun hn=>?_,fun sz' A' n' cell' h=>h.grow S (i:=i+1) (by simpa using hi) fun _ h => .inl h⟩
  have hown:=S.holds (i:=0) rfl
  rcases hown with ⟨_,h,_⟩|⟨b,cs,rfl,hb,h1,h2,h3,h4⟩
  · omega
  · refine ⟨b,0,rfl,.inr ⟨.inr ⟨_,rfl,rfl⟩,dC hb,fun k j hk hj=>?_⟩⟩
    rw [←h4 k j hk hj,Nat.zero_add]
    exact cell_of_row w b (k*sz+j) cs e (0,0) hb
end
section
variable {P:Program} {ops:Array Oper} {w w0:World} {F0:Nat→Prop} {R:List Mem} {Q:Exit→Act→World→Prop} {rest:List Oper} {N:FN} {L:List (Nat×Value)} {a:Act} {ty:TypeId} {pos:String} {af:Array Edge}
theorem lR {d t e sz by_ n c m c':Nat} {x y:Operand} {zs:List Value} {A B:Option Addr} {cell cell':Nat→Nat→Value} (H:Fr N L a) (hd:Nat.blt d N.n=true) (S:St w0 F0 R w) (ht:SlT P t e) (hs:Sz P e sz) (hz:Zero P e zs) (hby:Bytes P e by_) (hzs:Nat.beq zs.length sz=true) (hpos:Nat.blt 0 sz=true)
    (hx:ev L x=some (.slice A n c)) (hy:ev L y=some (.slice B m c')) (hA:InS w noF sz A n cell) (hn:A=none→n=0∧c=0) (hfull:c<n+m) (hm:0<m) (hB:InS w noF sz B m cell') (hone:∀ k j,k<m→j<sz→(cell' k j).oneCell'=true)
    (hlen:(n+m)*by_≤140737488355328) (hlen2:n+m≤9223372036854775807)
    (k:∀ A' c1 w' a',St w0 F0 (ownM e sz A' (n+m) c1 (capp n cell cell')::R) w'→Fr N ((d,.slice A' (n+m) c1)::L) a'→wpList P ops Q rest a' w') :
    wpList P ops Q (⟨some d,.call ⟨.builtin .append,#[x,y],#[t,t]⟩,ty,pos,af,none⟩::rest) a w:=by
  have hpos':0<sz:=by simpa using hpos
  have hzs':zs.length=sz:=Nat.eq_of_beq_eq_true hzs
  have hflat:∀ (q:Nat) (C:Option Addr) (cl:Nat→Nat→Value),InS w noF sz C q cl→∀ b,C=some b→∀ (j:Nat) u,(flat sz q cl)[j]?=some u→w.cell? (b.add j)=some u:=by
    intro q C cl h b hb j u hu
    have hjl:j<q*sz:=by
      have:=(List.getElem?_eq_some_iff.1 hu).1
      simpa [flat] using this
    have hq0:0<q:=by
      rcases Nat.eq_zero_or_pos q with h0|h0
      · subst h0;omega
      · exact h0
    obtain ⟨b',o,hC,_,_,hc⟩:=h hq0
    rw [hb] at hC
    injection hC with hC
    subst hC
    rw [fW]
    have hk:j/sz<q:=(Nat.div_lt_iff_lt_mul hpos').2 hjl
    have hj:j%sz<sz:=Nat.mod_lt _ hpos'
    have he:j/sz*sz+j%sz=j:=by rw [Nat.mul_comm];exact Nat.div_add_mod j sz
    have h1:=hc _ _ hk hj
    have h2:=gK (cell:=cl) hk hj
    rw [he,hu,Option.some.injEq] at h2
    rw [Nat.add_assoc,he] at h1
    rw [h1,h2]
  unfold Zero at hz
  unfold Sz at hs
  unfold Bytes at hby
  cases hi:P.info? e with
  | none=>rw [hi] at hz;simp at hz
  | some i=>
    rw [hi] at hz hs hby
    simp at hz hs hby
    obtain ⟨z,hz1,hz2⟩:=hz
    have hzsz:z.cells.size=sz:=by rw [←hzs',←hz2];simp
    obtain ⟨bb,bo,hBe,_⟩:=hB hm
    have hone':∀ u ∈ flat sz m cell',u.oneCell'=true:=by
      intro u hu
      simp only [flat,List.mem_map,List.mem_range] at hu
      obtain ⟨q,hq,rfl⟩:=hu
      exact hone _ _ ((Nat.div_lt_iff_lt_mul hpos').2 hq) (Nat.mod_lt _ hpos')
    refine wpList_append_grows (w:=w) rfl x y t rfl e i z sz by_ ht hi hz1 hs hby hzsz hpos' A n c (flat sz n cell) (H.eval hx) hn (by simp [flat]) (hflat n A cell hA) ⟨bb,bo,none⟩ m c' (flat sz m cell') (by rw [H.eval hy,hBe]) (by simp [flat]) (fun j u hu=>hflat m B cell' hB ⟨bb,bo,none⟩ hBe j u hu) hone' hfull (by simp only [maxLen];omega) hlen ?_
    intro v' w' hown hgrow
    have hfl:∀ k j,k<n+m→j<sz→(flat sz n cell++flat sz m cell')[k*sz+j]?=some (capp n cell cell' k j):=by
      intro k j hk hj
      have hl:(flat sz n cell).length=n*sz:=by simp [flat]
      unfold capp
      by_cases hkn:k<n
      · rw [if_pos hkn]
        have hlt:k*sz+j<n*sz:=by
          have:(k+1)*sz≤n*sz:=Nat.mul_le_mul_right _ (by omega)
          rw [Nat.add_mul] at this
          omega
        rw [List.getElem?_append_left (by omega)]
        exact gK hkn hj
      · rw [if_neg hkn]
        have hge:n*sz≤k*sz:=Nat.mul_le_mul_right _ (by omega)
        rw [List.getElem?_append_right (by omega),hl]
        have:k*sz+j-n*sz=(k-n)*sz+j:=by rw [Nat.sub_mul];omega
        rw [this]
        exact gK (by omega) hj
    have hown0:w'.ownsRow 0 e sz v' (n+m) (flat sz n cell++flat sz m cell'):=⟨hown.1,hown.2.imp (fun h=>h) fun ⟨g,cap,cur,h1,h2,h3⟩=>⟨g,cap,cur,h1,Nat.zero_le _,h3⟩⟩
    obtain ⟨A',c1,rfl,h6,h7⟩:=yG (cell:=capp n cell cell') hown0 hfl
    refine k A' c1 w' _ (S.new ((Keeps.of_grown hgrow).mono fun k hk=>by cases hk) h6 ?_) (H.put _ hd)
    rintro q ⟨aa,rfl,rfl⟩
    rcases hown.2 with ⟨h,_⟩|⟨g,cap,cur,h,h1,h2,_⟩
    · cases h
    · injection h with h _ _
      injection h with h
      subst h
      exact ⟨h1,dC h2⟩
end
theorem mX {P:Program} {L:List (Nat×Value)} {w:World} {d:Option Nat} {ty:TypeId} {pos:String} {af:Array Edge} {g:Option (Nat×Bool)} {t e sz:Nat} {x y z:Operand} {A:Option Addr} {n c hi:Nat} {k1 k2:IntKind} (ht:SlT P t e) (hs:Sz P e sz) (hx:ev L x=some (.slice A n c)) (hy:ev L y=some (.int k1 (hi:Int))) (hz:ev L z=some (.int k2 (hi:Int))) (h:hi≤c) :
    Does P L ⟨d,.slice t x none (some y) (some z),ty,pos,af,g⟩ w (.slice A hi hi):=fun ρ hρ=>by
  have hb:(Instr.sliceBounds true n c none (some (.int k1 (hi:Int))) (some (.int k2 (hi:Int)))).run P w = .ok (0,hi,hi) w:=by
    simp [Instr.sliceBounds,Instr.sliceBound,asIntOf,h]
  have e1:(Instr.sliceAt t (.slice A n c) none (some (.int k1 (hi:Int))) (some (.int k2 (hi:Int)))).run P w = .ok (.slice A hi hi) w:=by
    unfold Instr.sliceAt
    simp only [Sem.run_bind,bP ht,Result.andThen_ok,Instr.slice,hb,hs.run,Sem.run_pure]
    have e0:(if hi=0 then A else A.map (·.add (0*sz)))=A:=by
      split
      · rfl
      · cases A with
        | none=>rfl
        | some ad=>simp [Addr.add]
    rw [e0]
    rfl
  simp [execOp,hρ _ _ hx,hρ _ _ hy,hρ _ _ hz,e1]
section
variable {w w0:World} {F0:Nat→Prop} {R:List Mem} {i b:Nat} {κ:Type} [DecidableEq κ] {enc:κ→Value} {Φ Φ':(κ→Option Value)→Prop}
theorem mapK.fix (S:St w0 F0 R w) (hi:R[i]?=some (mapK enc b Φ)):∃ h0,Φ h0∧St w0 F0 (R.set i (mapK enc b (fun h=>h=h0))) w:=by
  obtain ⟨es,ck,l,h1,h2,h3,h4,h5⟩:=S.holds hi
  exact ⟨getL l,h5,S.imp hi (fun _=>⟨es,ck,l,h1,h2,h3,h4,rfl⟩) (fun _ h=>h)⟩
theorem mapK.weak (S:St w0 F0 R w) (hi:R[i]?=some (mapK enc b Φ)) (h:∀ g,Φ g→Φ' g):St w0 F0 (R.set i (mapK enc b Φ')) w:=
  S.imp hi (fun ⟨es,ck,l,h1,h2,h3,h4,h5⟩=>⟨es,ck,l,h1,h2,h3,h4,h _ h5⟩) (fun _ h=>h)
theorem Fo {ty:TypeId} {cs:List Value} (S:St w0 F0 R w) (hi:R[i]?=some (boxM b ty cs)) (hn:cs.length≤maxLen):St w0 F0 (R.set i (ownM ty 1 (some ⟨b,0,none⟩) cs.length cs.length (fun k _=>cs.getD k undef))) w:=by
  refine S.imp hi (fun h => .inr ⟨b,_,rfl,h,Nat.le_refl _,hn,by simp,fun k j hk hj=>?_⟩) (fun k hk=>by obtain ⟨a,e,h⟩:=hk;cases e;exact h.symm)
  have:j=0:=by omega
  subst this
  simp [hk]
theorem Jd {ty:TypeId} {n:Nat} {cell:Nat→Nat→Value} (S:St w0 F0 R w) (hi:R[i]?=some (ownM ty 1 (some ⟨b,0,none⟩) n n cell)):St w0 F0 (R.set i (boxM b ty ((List.range n).map fun k=>cell k 0))) w:=by
  refine S.imp hi (fun h=>?_) (fun k hk=>⟨_,rfl,hk.symm⟩)
  rcases h with ⟨h,_⟩|⟨b',cs,hA,hb,h1,h2,h3,h4⟩
  · cases h
  · injection hA with hA
    injection hA with hA
    subst hA
    show w.heap[b]?=_
    rw [hb]
    have e:cs=((List.range n).map fun k=>cell k 0).toArray:=by
      apply Array.ext
      · simp;omega
      · intro k hk1 hk2
        have hk:k<n:=by simpa using hk2
        have:=h4 k 0 hk (by omega)
        rw [Nat.mul_one,Nat.add_zero,Array.getElem?_eq_getElem hk1,Option.some.injEq] at this
        rw [this];simp
    rw [e]
end
def orJ (j k:Int):Int:=if k=1 then (if j/2%2=1 then j else j+2) else (if j/4%2=1 then j else j+4)
theorem Fp {P:Program} {L:List (Nat×Value)} {w:World} {d:Option Nat} {ty:TypeId} {pos:String} {af:Array Edge} {g:Option (Nat×Bool)} {x y:Operand} {xt yt:TypeId} {j k:Int} (hx:ev L x=some (.int .i64 j)) (hy:ev L y=some (.int .i64 (1*2^k.toNat))) (hj:j=0∨j=2∨j=4∨j=6) (hk:1≤k∧k≤2) :
    Does P L ⟨d,.binOp .or xt x y yt,ty,pos,af,g⟩ w (.int .i64 (orJ j k)):=fun ρ hρ=>by
  have hk':k=1∨k=2:=by omega
  have e:Op.intBits .or .i64 j (1*2^k.toNat)=pure (.int .i64 (orJ j k)):=by
    rcases hk' with rfl|rfl <;> rcases hj with rfl|rfl|rfl|rfl <;> rfl
  simp only [execOp,hρ _ _ hx,hρ _ _ hy]
  rw [Int.one_mul] at e
  simp [eqGuard,binOp,e]
theorem Bk (l:List Tsk) (u d:Int):jobV l u d=0∨jobV l u d=2∨jobV l u d=4∨jobV l u d=6:=by
  unfold jobV
  cases hasT l d u 1 <;> cases hasT l d u 2 <;> decide
theorem Fq (t:Tsk) (d u k:Int):hasT [t] d u k=decide (t.day=d∧t.unit=u∧t.kind=k):=by
  unfold hasT;simp
theorem pK {l:List Tsk} {t:Tsk} {u d:Int} (hk:1≤t.kind∧t.kind≤2):jobV (l++[t]) u d=if t.unit=u∧t.day=d then orJ (jobV l u d) t.kind else jobV l u d:=by
  have h1:=vO l [t] d u 1
  have h2:=vO l [t] d u 2
  rw [Fq] at h1 h2
  by_cases h:t.unit=u∧t.day=d
  · rw [if_pos h]
    have hk':t.kind=1∨t.kind=2:=by omega
    unfold jobV
    rw [h1,h2]
    rcases hk' with e|e
    · rw [e,decide_eq_true (show t.day=d∧t.unit=u∧(1:Int)=1 from ⟨h.2,h.1,rfl⟩),decide_eq_false (show ¬ (t.day=d∧t.unit=u∧(1:Int)=2) from fun h=>by omega)]
      cases hasT l d u 1 <;> cases hasT l d u 2 <;> decide
    · rw [e,decide_eq_false (show ¬ (t.day=d∧t.unit=u∧(2:Int)=1) from fun h=>by omega),decide_eq_true (show t.day=d∧t.unit=u∧(2:Int)=2 from ⟨h.2,h.1,rfl⟩)]
      cases hasT l d u 1 <;> cases hasT l d u 2 <;> decide
  · rw [if_neg h]
    unfold jobV
    rw [h1,h2,decide_eq_false (fun h9=>h ⟨h9.2.1,h9.1⟩),decide_eq_false (fun h9=>h ⟨h9.2.1,h9.1⟩),Bool.or_false,Bool.or_false]
theorem qV {l:List Tsk} {k:Nat} (hk:k<l.length):l.take (k+1)=l.take k++[l.getD k Tsk.zero]:=by
  rw [List.take_succ_eq_append_getElem hk,List.getD_eq_getElem?_getD,List.getElem?_eq_getElem hk]
  rfl
def kcl (i:Nat) (J:Nat→Int) (k _j:Nat):Value:=if k=0 then .int .i64 i else .int .i64 (J (k-1))
def jobP (l:List Tsk) (n i:Nat):Nat→Int:=fun d=>jobV (l.take n) i d
theorem Fs (l:List Tsk) (i:Nat):jobP l l.length i=jobF l i:=by
  funext d;unfold jobP jobF;rw [List.take_length]
theorem Bl (l:List Tsk) (i:Nat):jobP l 0 i=fun _=>0:=by funext d;rfl
theorem Ft {l:List Tsk} {i k j:Nat} (hk:k<21) (hj:j<1):(([.int .i64 (i:Int),.int .i64 0,.int .i64 0,.int .i64 0,.int .i64 0,.int .i64 0,.int .i64 0,.int .i64 0,.int .i64 0,.int .i64 0,.int .i64 0,.int .i64 0,.int .i64 0,.int .i64 0,.int .i64 0,.int .i64 0,.int .i64 0,.int .i64 0,.int .i64 0,.int .i64 0,.int .i64 0]:List Value).getD k undef)=kcl i (jobP l 0 i) k j:=by
  rw [Bl]
  unfold kcl
  rcases Nat.eq_zero_or_pos k with e|e
  · subst e;rfl
  · rw [if_neg (by omega)]
    obtain ⟨q,rfl⟩:∃ q,k=q+1:=⟨k-1,by omega⟩
    have hq:q<20:=by omega
    show ((List.replicate 20 (Value.int .i64 0)).getD q undef)=_
    rw [List.getD_eq_getElem?_getD,List.getElem?_replicate,if_pos hq]
    rfl
theorem Je {k:Int} (h:1≤k∧k≤2):i64ok (1*2^k.toNat):=by
  have hk':k=1∨k=2:=by omega
  rcases hk' with rfl|rfl <;> (unfold i64ok;decide)
theorem Jf {l:List Tsk} {n i:Nat} (hn:n<l.length) (hk:1≤(l.getD n Tsk.zero).kind∧(l.getD n Tsk.zero).kind≤2) (h:¬ (l.getD n Tsk.zero).unit=(i:Int)):jobP l (n+1) i=jobP l n i:=by
  funext d
  unfold jobP
  rw [qV hn,pK hk,if_neg (fun h9=>h h9.1)]
theorem Jg {l:List Tsk} {n i d:Nat} (hn:n<l.length) (hk:1≤(l.getD n Tsk.zero).kind∧(l.getD n Tsk.zero).kind≤2) (h:(l.getD n Tsk.zero).unit=(i:Int)) (hd:(l.getD n Tsk.zero).day=(d:Int)) :
    ∀ k j,j<1→cput (kcl i (jobP l n i)) (d+1) 0 (.int .i64 (orJ (jobP l n i d) (l.getD n Tsk.zero).kind)) k j=kcl i (jobP l (n+1) i) k j:=by
  intro k j hj
  have hj0:j=0:=by omega
  subst hj0
  unfold cput kcl jobP
  rw [qV hn]
  by_cases e:k=d+1
  · subst e
    rw [if_pos ⟨rfl,rfl⟩,if_neg (by omega),Nat.add_sub_cancel,pK hk,if_pos ⟨h,hd⟩]
  · rw [if_neg (fun h9=>e h9.1)]
    by_cases e0:k=0
    · rw [if_pos e0,if_pos e0]
    · rw [if_neg e0,if_neg e0,pK hk,if_neg (fun h9=>by omega)]
def keyOf (i:Nat) (J:Nat→Int):KeyN 21:=⟨(i:Int)::(List.range 20).map J,by simp⟩
noncomputable def lifeV (u:Unt) (J:Nat→Int) (n:Nat):Value := .agg [.int .i64 (bsum (runB' u J) n),.int .i64 (bsum (certB u J) n)].toArray
theorem vP {u:Unt} {J J':Nat→Int} {n:Nat} (h:∀ d,d<n→J d=J' d):lifeV u J n=lifeV u J' n:=by
  unfold lifeV
  rw [pI (f:=runB' u J) (g:=runB' u J') fun d hd=>xS fun i hi=>h i (by omega),pI (f:=certB u J) (g:=certB u J') fun d hd=>vM fun i hi=>h i (by omega)]
theorem Bm {i i':Nat} {J J':Nat→Int} (h:keyOf i J=keyOf i' J'):i=i'∧∀ d,d<20→J d=J' d:=by
  have h1:(i:Int)::(List.range 20).map J=(i':Int)::(List.range 20).map J':=congrArg Subtype.val h
  injection h1 with h2 h3
  refine ⟨by omega,fun d hd=>?_⟩
  have h4:=congrArg (fun l=>l[d]?) h3
  simp only [List.getElem?_map,List.getElem?_range hd,Option.map_some,Option.some.injEq] at h4
  exact h4
def livP (y:Yr) (h:KeyN 21→Option Value):Prop:=∀ i J v,i<y.us.length→h (keyOf i J)=some v→v=lifeV (y.us.getD i Unt.zero) J y.days.toNat
theorem Bn {y:Yr}:livP y (fun _=>none):=fun _ _ _ _ h=>by cases h
theorem Fu {y:Yr} {i:Nat} {J:Nat→Int} {v:Value} (hd:y.days.toNat≤20) (hv:v=lifeV (y.us.getD i Unt.zero) J y.days.toNat):∀ h,livP y h→livP y (fun k'=>if k'=keyOf i J then some v else h k'):=fun h hh i' J' v' hi' hv'=>by
  dsimp only at hv'
  split at hv'
  · rename_i e
    obtain ⟨e1,e2⟩:=Bm e
    subst e1
    rw [Option.some.injEq] at hv'
    rw [←hv',hv]
    exact vP fun d hd'=>(e2 d (by omega)).symm
  · exact hh i' J' v' hi' hv'
noncomputable def leavB (y:Yr) (out:Int):Bool:=decide (mfv y.pl.toNat y.limit.toNat y.pe y.xs (hds out y.xs y.ps)=sumI y.pe y.pe.length)
def safP (y:Yr) (h:Int→Option Value):Prop:=∀ o v,(0≤o∧o≤4095)→h o=some v→v = .bool (leavB y o)
theorem Bo {y:Yr}:safP y (fun _=>none):=fun _ _ _ h=>by cases h
noncomputable def prmB (y:Yr) (d out:Int) (k:Nat):Bool:=!(decide ((y.prs.getD k Prm.zero).first≤d)&&decide (d≤(y.prs.getD k Prm.zero).last))||decide (0≤dst y.pl.toNat y.ps out (y.help&&(y.prs.getD k Prm.zero).helped) (y.prs.getD k Prm.zero).to.toNat (y.prs.getD k Prm.zero).fr.toNat)
noncomputable def keepB (y:Yr) (d out:Int):Bool:=allN (prmB y d out) y.prs.length
def kepP (y:Yr) (h:Int×Int→Option Value):Prop:=∀ d o v,(0≤o∧o≤4095)→h (d,o)=some v→v = .bool (keepB y d o)
theorem Bp {y:Yr}:kepP y (fun _=>none):=fun _ _ _ _ h=>by cases h
section
variable {y:Yr} {l:List Tsk} {d k m:Nat}
theorem YOk.V (h:YOk y):StV y.pl y.ps y.xs:=oY (zH (uX h.kept).1).1
end
section
variable {y:Yr} {l:List Tsk} {d k n m:Nat}
end
def setHi (l:List (Int×Int)) (n:Int):List (Int×Int):=l.set (l.length-1) ((l.getD (l.length-1) (0,0)).1,n)
def spanS (l:List (Int×Int)) (n:Int):List (Int×Int):=if 0<l.length∧(l.getD (l.length-1) (0,0)).2=n-1 then setHi l n else l++[(n,n)]
def spanN (f:Nat→Bool):Nat→List (Int×Int)
  | 0=>[]
  | n+1=>if f n=true then spanS (spanN f n) n else spanN f n
noncomputable def askdE (y:Yr) (l:List Tsk) (u:Int):Int:=if taskE y l≠0 then taskE y l else if 0≤u∧u≤(y.us.length:Int)-1 then 0 else 1
noncomputable def termL (y:Yr) (l:List Tsk) (u:Int):List (Int×Int):=if askdE y l u≠0 then [] else spanN (certY y l u.toNat) y.days.toNat
section
variable {y:Yr} {l:List Tsk} {u:Int} {f:Nat→Bool} {n:Nat}
theorem qW (h:taskE y l≠0):askdE y l u=taskE y l:=by unfold askdE;rw [if_pos h]
theorem vQ (h:taskE y l=0) (h1:¬ (0≤u∧u≤(y.us.length:Int)-1)):askdE y l u=1:=by unfold askdE;rw [if_neg (by omega),if_neg h1]
theorem sY (h:taskE y l=0) (h1:0≤u∧u≤(y.us.length:Int)-1):askdE y l u=0:=by unfold askdE;rw [if_neg (by omega),if_pos h1]
theorem Bq (h:askdE y l u=0):taskE y l=0∧0≤u∧u≤(y.us.length:Int)-1:=by
  unfold askdE at h
  split at h
  · omega
  · split at h
    · exact ⟨by omega,by omega⟩
    · cases h
theorem qX (l:List (Int×Int)) (n:Int):(setHi l n).length=l.length:=List.length_set
theorem Br (l:List (Int×Int)) (n:Int):(spanS l n).length≤l.length+1:=by
  unfold spanS
  split
  · rw [qX];omega
  · rw [List.length_append];exact Nat.le_refl _
theorem Bs:∀ n,(spanN f n).length≤n:=by
  intro n
  induction n with
  | zero=>exact Nat.le_refl _
  | succ n ih=>
    rw [spanN]
    have h:=Br (spanN f n) n
    split <;> omega
theorem Ml (h:f n=false):spanN f n=spanN f (n+1):=by rw [spanN,if_neg (by rw [h];simp)]
theorem Mm {l:List (Int×Int)} (hl:l=spanN f n) (h:f n=true) (h1:0<l.length∧(l.getD (l.length-1) (0,0)).2=(n:Int)-1):setHi l n=spanN f (n+1):=by
  subst hl;rw [spanN,if_pos h];unfold spanS;rw [if_pos h1]
theorem Mn {l:List (Int×Int)} (hl:l=spanN f n) (h:f n=true) (h1:¬ (0<l.length∧(l.getD (l.length-1) (0,0)).2=(n:Int)-1)):l++[((n:Int),(n:Int))]=spanN f (n+1):=by
  subst hl;rw [spanN,if_pos h];unfold spanS;rw [if_neg h1]
theorem Mo {l:List (Int×Int)} {z:Int×Int} (h:0<l.length) (k:Nat):(l.set (l.length-1) z).getD k (0,0)=if k=l.length-1 then z else l.getD k (0,0):=by
  rw [List.getD_eq_getElem?_getD,List.getElem?_set,List.getD_eq_getElem?_getD]
  by_cases e:k=l.length-1
  · rw [if_pos e.symm,if_pos e,if_pos (by omega)];rfl
  · rw [if_neg (fun h9=>e h9.symm),if_neg e]
theorem Fv {l:List (Int×Int)} {x:Int} (h:0<l.length):∀ k j,j<2→cput (scell l) (l.length-1) 1 (.int .i64 x) k j=scell (setHi l x) k j:=fun k j hj=>by
  unfold cput scell setHi
  rw [Mo h]
  by_cases e:k=l.length-1
  · have:j=0∨j=1:=by omega
    rw [if_pos (c:=k=l.length-1) e]
    rcases this with rfl|rfl
    · rw [if_neg (fun h9=>by have:=h9.2;omega),e];rfl
    · rw [if_pos ⟨e,rfl⟩];rfl
  · rw [if_neg (fun h9=>e h9.1),if_neg e]
theorem xT {l:List (Int×Int)} {a b:Int}:∀ k j,k<l.length+1→j<2→capp l.length (scell l) (fun k' j=>([[Value.int .i64 a,Value.int .i64 b]].getD k' []).getD j undef) k j=scell (l++[(a,b)]) k j:=fun k j hk hj=>by
  unfold capp scell
  by_cases h:k<l.length
  · rw [if_pos h,List.getD_eq_getElem?_getD,List.getD_eq_getElem?_getD,List.getElem?_append_left h]
  · rw [if_neg h]
    have e:k=l.length:=by omega
    subst e
    rw [Nat.sub_self,List.getD_eq_getElem?_getD (l:=l++[(a,b)]),List.getElem?_append_right (Nat.le_refl _),Nat.sub_self]
    have:j=0∨j=1:=by omega
    rcases this with rfl|rfl <;> rfl
theorem Fw {n q:Nat} (hq:q<n) (h:¬ bsum f n/2^((q:Nat):Int).toNat%2=0):f q=true:=by
  rw [Int.toNat_natCast,pH hq] at h
  refine Classical.byContradiction fun h2=>h ?_
  rw [if_neg h2]
theorem Mp {n q:Nat} (hq:q<n) (h:bsum f n/2^((q:Nat):Int).toNat%2=0):f q=false:=by
  rw [Int.toNat_natCast,pH hq] at h
  rw [←Bool.not_eq_true]
  intro h2
  rw [if_pos h2] at h
  cases h
end
section
variable {y:Yr} {l:List Tsk} {i d k:Nat} {f:Nat→Bool}
end
end
section
structure Trl where
  haz:Int
  wire:Int
def Trl.zero:Trl:=⟨0,0⟩
def Trl.cell (t:Trl):Nat→Value
  | 0 => .int .i64 t.haz
  | _ => .int .i64 t.wire
def gN (l:List Trl) (k j:Nat):Value:=(l.getD k Trl.zero).cell j
structure Nt where
  l:List Int
  A:Option Addr
  c:Nat
def Nt.zero:Nt:=⟨[],none,0⟩
def Nt.cell (n:Nt) (_j:Nat):Value := .slice n.A n.l.length n.c
def iM (l:List Nt) (k j:Nat):Value:=(l.getD k Nt.zero).cell j
def mG (nl:List (List Int)) (MA:Nat→Option Addr) (mc:Nat→Nat) (k _j:Nat):Value := .slice (MA k) (nl.getD k []).length (mc k)
theorem Mq (l:List Nt) (k:Nat):(l.map Nt.l).getD k []=(l.getD k Nt.zero).l:=by
  rw [List.getD_eq_getElem?_getD,List.getD_eq_getElem?_getD,List.getElem?_map]
  cases l[k]? <;> rfl
theorem Mr (l:List Nt):iM l=mG (l.map Nt.l) (fun k=>(l.getD k Nt.zero).A) (fun k=>(l.getD k Nt.zero).c):=by
  funext k j
  unfold iM Nt.cell mG
  rw [Mq]
def tlOk (hz:Int) (nw:Nat) (t:Trl):Bool:=setB t.haz hz&&decide (0≤t.wire∧t.wire≤(nw:Int)-1)
def trlE (hz:Int) (sw:List Int) (ws:List Wr) (tl:List Trl):Int:=if circE hz sw ws≠0 then 30 else if 12<tl.length then 2 else if allN (fun i=>tlOk hz ws.length (tl.getD i Trl.zero)) tl.length=true then 0 else 31
section
variable {hz n:Int} {sw:List Int} {ws:List Wr} {tl:List Trl} {i q:Nat} {t:Trl}
theorem Ky (h:¬ circE hz sw ws=0):trlE hz sw ws tl=30:=by unfold trlE;rw [if_pos h]
theorem Kz (h:circE hz sw ws=0) (h2:12<tl.length):trlE hz sw ws tl=2:=by unfold trlE;rw [if_neg (fun h9=>h9 h),if_pos h2]
theorem Fx (h:circE hz sw ws=0) (h2:¬ 12<tl.length) (hi:i<tl.length) (h3:tlOk hz ws.length (tl.getD i Trl.zero)=false):trlE hz sw ws tl=31:=by
  unfold trlE
  rw [if_neg (fun h9=>h9 h),if_neg h2,if_neg]
  rw [bL]
  intro h4
  rw [h4 i hi] at h3
  cases h3
theorem La (h:circE hz sw ws=0) (h2:¬ 12<tl.length) (h3:∀ k,k<tl.length→tlOk hz ws.length (tl.getD k Trl.zero)=true):trlE hz sw ws tl=0:=by
  unfold trlE
  rw [if_neg (fun h9=>h9 h),if_neg h2,if_pos (bL.2 h3)]
theorem sZ (h:trlE hz sw ws tl=0):circE hz sw ws=0∧tl.length≤12∧∀ k,k<tl.length→tlOk hz ws.length (tl.getD k Trl.zero)=true:=by
  unfold trlE at h
  split at h
  · cases h
  · split at h
    · cases h
    · split at h
      · rename_i h1 h2 h3
        exact ⟨Classical.not_not.1 h1,by omega,bL.1 h3⟩
      · cases h
theorem Lb (h:setB t.haz hz=true) (h2:0≤t.wire∧t.wire≤(ws.length:Int)-1):tlOk hz ws.length t=true:=by unfold tlOk;rw [h,decide_eq_true h2];rfl
theorem Fy (h:setB t.haz hz=false):tlOk hz ws.length t=false:=by unfold tlOk;rw [h];rfl
theorem xU (h2:¬ (0≤t.wire∧t.wire≤(ws.length:Int)-1)):tlOk hz ws.length t=false:=by unfold tlOk;rw [decide_eq_false h2];simp
theorem nM {p:Nat→Prop} (h:∀ z,z<q→p z) (h1:p q):∀ z,z<q+1→p z:=fun z hz=>by
  by_cases e:z=q
  · subst e;exact h1
  · exact h z (by omega)
theorem Jh (h:0≤hz∧hz≤12):(decide (0≤n)&&decide (n≤1*2^hz.toNat-1))=setB n hz:=by
  unfold setB
  congr 1
  rw [decide_eq_decide]
  omega
end
def rotB (nl:List (List Int)) (gap:Int) (nt:Nat):Bool:=(decide (1≤nl.length∧nl.length≤60)&&decide (1≤gap∧gap≤60))&&allN (fun i=>ascB (nl.getD i []) 0 nt) nl.length
section
variable {nl:List (List Int)} {gap:Int} {nt i q:Nat} {l:List Int} {hi:Int}
theorem Pg (h:¬ ((1≤nl.length∧nl.length≤60)∧(1≤gap∧gap≤60))):rotB nl gap nt=false:=by
  unfold rotB
  by_cases h1:1≤nl.length∧nl.length≤60
  · rw [decide_eq_false (fun h9=>h ⟨h1,h9⟩)];simp
  · rw [decide_eq_false h1];simp
theorem Ph (hi:i<nl.length) (h:ascB (nl.getD i []) 0 nt=false):rotB nl gap nt=false:=by
  unfold rotB
  have:allN (fun i=>ascB (nl.getD i []) 0 nt) nl.length=false:=by
    rw [←Bool.not_eq_true,bL]
    intro h4
    have:=h4 i hi
    rw [h] at this
    cases this
  rw [this];simp
theorem Pi (h1:1≤nl.length∧nl.length≤60) (h2:1≤gap∧gap≤60) (h3:∀ k,k<nl.length→ascB (nl.getD k []) 0 nt=true):rotB nl gap nt=true:=by
  unfold rotB
  rw [decide_eq_true h1,decide_eq_true h2,bL.2 h3];rfl
theorem xV (h:rotB nl gap nt=true):(1≤nl.length∧nl.length≤60)∧(1≤gap∧gap≤60)∧∀ k,k<nl.length→ascB (nl.getD k []) 0 nt=true:=by
  unfold rotB at h
  rw [Bool.and_eq_true,Bool.and_eq_true,decide_eq_true_eq,decide_eq_true_eq,bL] at h
  exact ⟨h.1.1,h.1.2,h.2⟩
def lstR (l:List Int):Nat→Int
  | 0 => -1
  | q+1=>l.getD q 0
theorem mH:∀ {q},lowA l 0 q=lstR l q+1:=fun {q}=>by
  cases q with
  | zero=>rfl
  | succ q=>unfold lowA;rw [if_neg (by omega)];rfl
theorem Ji (h:lstR l q+1≤l.getD q 0∧l.getD q 0≤hi-1):ascP l 0 hi q=true:=by
  unfold ascP;rw [mH];exact decide_eq_true (by omega)
theorem Jj (h:¬ (lstR l q+1≤l.getD q 0∧l.getD q 0≤hi-1)):ascP l 0 hi q=false:=by
  unfold ascP;rw [mH];exact decide_eq_false (by omega)
theorem Jk:∀ q,(∀ z,z<q→ascP l 0 hi z=true) → -1≤lstR l q∧(lstR l q = -1∨lstR l q<hi):=fun q=>by
  induction q with
  | zero=>intro _;exact ⟨Int.le_refl _,.inl rfl⟩
  | succ q ih=>
    intro h
    have h1:=h q (by omega)
    unfold ascP at h1
    have h2:=of_decide_eq_true h1
    rw [mH] at h2
    have h3:=ih fun z hz=>h z (by omega)
    show -1≤l.getD q 0∧(l.getD q 0 = -1∨l.getD q 0<hi)
    omega
end
def shB (hz:Int) (sw:List Int) (ws:List Wr) (t:Trl) (cl:Int):Bool:=wireB sw ws t.haz cl 0 ws.length t.wire.toNat&&!wireB sw ws t.haz 0 0 ws.length t.wire.toNat
def shwS (hz:Int) (sw:List Int) (ws:List Wr) (t:Trl) (s:Nat):Bool:=shB hz sw ws t (1*2^s)
def shwN (hz:Int) (sw:List Int) (ws:List Wr) (t:Trl):Int:=bsum (shwS hz sw ws t) sw.length
end
section
theorem Jl {hz:Int} {sw:List Int} {ws:List Wr} (h:¬ circE hz sw ws=0):circE hz sw ws=30:=by
  unfold circE at h ⊢
  split
  · rename_i h1;rw [if_pos h1] at h;exact absurd rfl h
  · rfl
theorem pL (hz:Int) (sw:List Int) (SA:Option Addr) (scp:Nat) (ws:List Wr) (QA:Option Addr) (qc:Nat) (OA:Nat→Option Addr) (oc:Nat→Nat) (n:Int) (w:World) (hhz:0≤hz∧hz≤12) :
    Calls Tryd.prog 13 [.agg [.int .i64 hz,.slice SA sw.length scp,.slice QA ws.length qc].toArray,.int .i64 n].toArray w (Ret (fun u w'=>u = .bool (setB n hz)∧St w noF [] w')):=by
 have hpw:=pwh hhz
 refine enter Tryd.func13 rfl Tryd.ntmps13 rfl (fun a H=>?_)
 have S:=St.start w
 refine seq_list fun K1 k1=>?_
 refine aQ H rfl S G G ?_;clear H a S;intro b2 _ a hb2 hbw2 S H
 refine ls 1 H<|sr 1 rfl<|sE ?_;clear H a;intro a H
 refine k1 _ _ ?_;clear k1 K1
 replace H:=H.keep [1,2] rfl
 refine sS H fun K2 k2=>sr 1 rfl<|sf gU rfl<|sl S 0 aF G G G<|sd (fX Tryd.underlying3 Tryd.underlying97 rfl (by first|omega|exact IntWalk.i64_in _ (by omega)|exact IntWalk.u64_in _ (by omega)))<|sd (cY G G (by omega) (by omega) (by unfold i64ok;omega))<|sd (aT G G (by unfold i64ok;omega))<|sc rfl Tryd.func14 G G (cN _ _ _ _)<|sr 1 rfl<|sE ?_;clear H a;intro a H
 refine k2 _ ?_;clear k2 K2
 refine wp_ret ?_
 refine ret1 (fn:=Tryd.f13) rfl H rfl ?_
 exact ⟨congrArg Value.bool (Jh hhz),(S.sel [] G G)⟩
theorem pM (hz:Int) (sw:List Int) (SA:Option Addr) (scp:Nat) (ws:List Wr) (QA:Option Addr) (qc:Nat) (OA:Nat→Option Addr) (oc:Nat→Nat) (tl:List Trl) (TA:Option Addr) (tc:Nat) (w:World) (hsw:InS w noF 1 SA sw.length (icl sw)) (hws:InS w noF 2 QA ws.length (cI ws OA oc)) (hof:∀ k,k<ws.length→InS w noF 1 (OA k) (ws.getD k Wr.zero).of.length (icl (ws.getD k Wr.zero).of)) (hsn:sw.length≤9223372036854775807) (hwn:ws.length≤9223372036854775807) (hofn:∀ k,k<ws.length→(ws.getD k Wr.zero).of.length≤9223372036854775807) (htl:InS w noF 2 TA tl.length (gN tl)) (htn:tl.length≤9223372036854775807) :
    Calls Tryd.prog 5 [.agg [.int .i64 hz,.slice SA sw.length scp,.slice QA ws.length qc].toArray,.slice TA tl.length tc].toArray w (Ret (fun u w'=>u = .int .i64 (trlE hz sw ws tl)∧St w noF [] w')):=by
 refine enter Tryd.func5 rfl Tryd.ntmps5 rfl (fun a H=>?_)
 have S:=St.start w
 refine seq_list fun K1 k1=>?_
 refine aQ H rfl S G G ?_;clear H a S;intro b2 _ a hb2 hbw2 S H
 refine ls 1 H<|sr 1 rfl<|sE ?_;clear H a;intro a H
 refine k1 _ _ ?_;clear k1 K1
 refine wp_seq_k fun K2 k2=>?_
 refine seq_list fun K3 k3=>?_
 refine ls 1 H<|sd ((aC bR bO rfl S (i:=0) G G))<|sE ?_;clear H a;intro a H
 refine aA H G G Tryd.func12 G G (En hz sw SA scp ws QA qc OA oc _ (hsw.now S) (hws.now S) (fun k hk=>(hof k hk).now S) hsn hwn hofn) ?_;clear H a
 rintro _ _ a ⟨rfl,S2⟩ H
 replace S:=S.call S2;clear S2
 refine ls 1 H<|sr 1 rfl<|sE ?_;clear H a;intro a H
 refine k3 _ _ ?_;clear k3 K3
 refine condN H rfl (fun hc1=>?_) (fun hc1=>?_)
 ·skip
  refine sS H fun K4 k4=>sr 1 rfl<|sE ?_;clear H a;intro a H
  refine k4 _ ?_;clear k4 K4
  refine wp_ret ?_
  refine ret1 (fn:=Tryd.f5) rfl H rfl ?_
  rw [Ky hc1];exact ⟨rfl,(S.sel [] G G)⟩
 have V:=eI (iI hc1)
 have hzb:=V.hzb
 have hnw:=V.nws
 refine wp_skip ?_
 refine k2 _ _ ?_
 refine wp_seq_k fun K5 k5=>?_
 refine sS H fun K6 k6=>sr 1 rfl<|sL fU rfl<|sr 1 rfl<|sE ?_;clear H a;intro a H
 refine k6 _ ?_;clear k6 K6
 refine condL H rfl (fun hc2=>?_) (fun hc2=>?_)
 ·skip
  replace H:=H.keep [] rfl
  refine sS H fun K7 k7=>sr 1 rfl<|sE ?_;clear H a;intro a H
  refine k7 _ ?_;clear k7 K7
  refine wp_ret ?_
  refine ret1 (fn:=Tryd.f5) rfl H rfl ?_
  rw [Kz hc1 (by omega)];exact ⟨rfl,(S.sel [] G G)⟩
 refine wp_skip ?_
 refine k5 _ _ ?_
 refine wp_seq_k fun K8 k8=>?_
 refine sS H fun K9 k9=>sr 1 rfl<|sE ?_;clear H a;intro a H
 refine k9 _ ?_;clear k9 K9
 refine wp_block ?_
 refine loop_st (X:=Nat) (R0:=_) [1,2] H rfl (fun i=>[(5,.int .i64 (i:Int))]) (fun i=>[]) (fun g i=>i≤tl.length∧g+i=tl.length∧∀ k,k<i→(fun i=>tlOk hz ws.length (tl.getD i Trl.zero)=true) k) (tl.length) 0 ?_ (S.sel [0] G G) (H.keep [5,1,2] rfl) ?_
 · exact ⟨by omega,by omega,fun k hk=>absurd hk (Nat.not_lt_zero k)⟩
 clear H S a
 intro g1 x1 a w1 hp S H K10 k10
 obtain ⟨i,rfl⟩:∃ y,y=x1:=⟨_,rfl⟩
 refine wp_seq_k fun K11 k11=>?_
 refine sS H fun K12 k12=>sr 2 rfl<|sL fU rfl<|sr 1 rfl<|sE ?_;clear H a;intro a H
 refine k12 _ ?_;clear k12 K12
 refine condL H rfl (fun hc3=>?_) (fun hc3=>?_)
 ·skip
  refine wp_skip ?_
  refine k11 _ _ ?_
  refine wp_seq_k fun K13 k13=>?_
  refine wp_block ?_
  cases hst:setB (tl.getD i Trl.zero).haz hz
  ·skip
   skip
   replace H:=H.keep [1,2,5] rfl
   replace S:=S.drew
   refine seq_wq [(0,true),(1,true),(2,true),(3,true),(4,true),(5,true),(6,false),(7,true),(8,true),(9,true),(10,true),(11,true),(12,true),(13,true),(14,true),(15,true),(16,true),(17,true),(18,true),(19,true),(20,true)] (by kernel_rfl) (by kernel_rfl) (S.sel [0] G G) fun K14 k14=>?_
   refine qF H<|qd rfl (fun _ S=>(aC bR bO rfl S (i:=0) G G))<|qr 2 rfl<|qd rfl (fun _ S=>dK fU gR G G (htl.adr (by omega)) (by omega))<|qd rfl (fun _ S=>(fG lF rfl))<|qd rfl (fun _ S=>aH aF rfl (htl.rd S (by omega) (by omega)))<|qK ?_;clear H a;intro a H
   refine aS rfl ?_
   refine aA H G G Tryd.func13 G G (pL hz sw SA scp ws QA qc OA oc _ _ (by omega)) ?_;clear H a
   rintro _ _ a ⟨rfl,S2⟩ H
   replace S:=S.call S2;clear S2
   rw [hst] at H
   refine wpList_nil (And.intro (S.sel [0] G G) ?_)
   refine qF H<|qr 2 rfl<|qK ?_;clear H a;intro a H
   refine aJ H G G G G G ?_;clear H a;intro a H
   refine aJ H G G G G G ?_;clear H a;intro a H
   refine aJ H G G G G G ?_;clear H a;intro a H
   refine aJ H G G G G G ?_;clear H a;intro a H
   refine aJ H G G G G G ?_;clear H a;intro a H
   refine aJ H G G G G G ?_;clear H a;intro a H
   refine aJ H G G G G G ?_;clear H a;intro a H
   refine aJ H G G G G G ?_;clear H a;intro a H
   refine aJ H G G G G G ?_;clear H a;intro a H
   refine aJ H G G G G G ?_;clear H a;intro a H
   refine aJ H G G G G G ?_;clear H a;intro a H
   refine qF H<|qd rfl (fun _ S=>(aU G G G))<|qK ?_;clear H a;intro a H
   refine bK ?_
   refine k14 _ _ ?_
   clear k14 K14
   refine cond_ H rfl (fun hc4=>?_) (fun hc4=>?_)
   ·skip
    skip
    replace H:=H.keep [] rfl
    refine sS H fun K15 k15=>sr 1 rfl<|sE ?_;clear H a;intro a H
    refine k15 _ ?_;clear k15 K15
    refine wp_ret ?_
    refine ret1 (fn:=Tryd.f5) rfl H rfl ?_
    rw [Fx hc1 (by omega) (i:=i) (by omega) (Fy hst)];exact ⟨rfl,(S.sel [] G G)⟩
   skip
   cases hc4
  skip
  replace H:=H.keep [1,2,5] rfl
  replace S:=S.drew
  refine seq_wq [(0,true),(1,true),(2,true),(3,true),(4,true),(5,true),(6,false),(7,true),(8,true),(9,true),(10,true),(11,true),(12,true),(13,true),(14,true),(15,true),(16,true),(17,true),(18,false),(19,true),(20,true)] (by kernel_rfl) (by kernel_rfl) (S.sel [0] G G) fun K16 k16=>?_
  refine qF H<|qd rfl (fun _ S=>(aC bR bO rfl S (i:=0) G G))<|qr 2 rfl<|qd rfl (fun _ S=>dK fU gR G G (htl.adr (by omega)) (by omega))<|qd rfl (fun _ S=>(fG lF rfl))<|qd rfl (fun _ S=>aH aF rfl (htl.rd S (by omega) (by omega)))<|qK ?_;clear H a;intro a H
  refine aS rfl ?_
  refine aA H G G Tryd.func13 G G (pL hz sw SA scp ws QA qc OA oc _ _ (by omega)) ?_;clear H a
  rintro _ _ a ⟨rfl,S2⟩ H
  replace S:=S.call S2;clear S2
  rw [hst] at H
  refine wpList_nil (And.intro (S.sel [0] G G) ?_)
  refine qF H<|qr 2 rfl<|qK ?_;clear H a;intro a H
  refine aG H G G G G (fun _ S=>aM rfl) ?_;clear H a;intro a H
  refine aG H G G G G (fun _ S=>aM rfl) ?_;clear H a;intro a H
  refine aG H G G G G (fun _ S=>dK fU gR G G (htl.adr (by omega)) (by omega)) ?_;clear H a;intro a H
  refine aG H G G G G (fun _ S=>(fG lG rfl)) ?_;clear H a;intro a H
  refine aG H G G G G (fun _ S=>aH aF rfl (htl.rd S (by omega) (by omega))) ?_;clear H a;intro a H
  refine aG H G G G G (fun _ S=>(aB cT rfl)) ?_;clear H a;intro a H
  refine aG H G G G G (fun _ S=>aH dQ rfl (boxM.rd S (i:=0) G G)) ?_;clear H a;intro a H
  refine aG H G G G G (fun _ S=>cD eN rfl) ?_;clear H a;intro a H
  refine aG H G G G G (fun _ S=>aT G G (by unfold i64ok;omega)) ?_;clear H a;intro a H
  refine aS rfl ?_
  refine aY H G G ?_
  refine aA H G G Tryd.func14 G G (cN _ _ _ _) ?_;clear H a
  rintro _ _ a ⟨rfl,rfl⟩ H
  refine wpList_nil (And.intro (S.sel [0] G G) ?_)
  refine aG H G G G G (fun _ S=>cC rfl) ?_;clear H a;intro a H
  refine qF H<|qd rfl (fun _ S=>(aW G G G))<|qK ?_;clear H a;intro a H
  refine bK ?_
  refine k16 _ _ ?_
  clear k16 K16
  refine cond_ H rfl (fun hc5=>?_) (fun hc5=>?_)
  ·skip
   try simp only [o1,o2,o3,o4,o5,o6,o7,o8,o9,oa] at hc5
   replace H:=H.keep [] rfl
   refine sS H fun K17 k17=>sr 1 rfl<|sE ?_;clear H a;intro a H
   refine k17 _ ?_;clear k17 K17
   refine wp_ret ?_
   refine ret1 (fn:=Tryd.f5) rfl H rfl ?_
   rw [Fx hc1 (by omega) (i:=i) (by omega) (xU (by rcases hc5 with h9|h9;exact absurd h9 (by decide);omega))];exact ⟨rfl,(S.sel [] rfl rfl)⟩
  try simp only [o1,o2,o3,o4,o5,o6,o7,o8,o9,oa] at hc5
  refine wp_skip ?_
  refine k13 _ _ ?_
  refine sO H<|sr 1 rfl<|sd (aK G G (by unfold i64ok;omega))<|sr 1 rfl<|sE ?_;clear H a;intro a H
  exact k10 (g1-1) (i+1) a _ (by omega) (⟨by omega,by omega,nM hp.2.2 (Lb hst (by omega))⟩) (S.sel [0] G G) (H.keep [5,1,2] rfl)
 refine wp_exit ?_
 refine k8 _ _ ?_
 refine sS H fun K19 k19=>sr 1 rfl<|sE ?_;clear H a;intro a H
 refine k19 _ ?_;clear k19 K19
 refine wp_ret ?_
 refine ret1 (fn:=Tryd.f5) rfl H rfl ?_
 rw [La hc1 (by omega) (fun k hk=>hp.2.2 k (by omega))];exact ⟨rfl,(S.sel [] G G)⟩
theorem tA (nl:List (List Int)) (NA:Option Addr) (nc:Nat) (MA:Nat→Option Addr) (mc:Nat→Nat) (gap:Int) (nt:Nat) (w:World) (hnl:InS w noF 1 NA nl.length (mG nl MA mc)) (hnn:nl.length≤9223372036854775807) (hni:∀ k,k<nl.length→InS w noF 1 (MA k) (nl.getD k []).length (icl (nl.getD k []))) (hnm:∀ k,k<nl.length→(nl.getD k []).length≤9223372036854775807) (hnt:nt≤1000) :
    Calls Tryd.prog 6 [.agg [.slice NA nl.length nc,.int .i64 gap].toArray,.int .i64 (nt:Int)].toArray w (Ret (fun u w'=>u = .bool (rotB nl gap nt)∧St w noF [] w')):=by
 refine enter Tryd.func6 rfl Tryd.ntmps6 rfl (fun a H=>?_)
 have S:=St.start w
 refine seq_list fun K1 k1=>?_
 refine aQ H rfl S G G ?_;clear H a S;intro b2 _ a hb2 hbw2 S H
 refine ls 1 H<|sr 1 rfl<|sE ?_;clear H a;intro a H
 refine k1 _ _ ?_;clear k1 K1
 refine wp_seq_k fun K2 k2=>?_
 replace H:=H.keep [1,2] rfl
 refine sS H fun K3 k3=>sf eC rfl<|sl S 0 fP G G G<|sL gS rfl<|sc rfl Tryd.func14 G G (cN _ _ _ _)<|sr 2 rfl<|sg 4 5 13 17 false G G (fun hg6=>by
     have hq6:=hg6;try simp only [o1,o2,o3,o4,o5,o6,o7,o8,o9,oa] at hq6
     exact sy hg6<|sf jS rfl<|sy hg6<|sl S 0 aF G G G<|sy hg6<|sc rfl Tryd.func14 G G (cN _ _ _ _)<|sy hg6<|sr 1 rfl<|sz 4 G G G)<|so G G G<|sE ?_;clear H a;intro a H
 refine k3 _ ?_;clear k3 K3
 refine cond_ H rfl (fun hc1=>?_) (fun hc1=>?_)
 ·skip
  try simp only [o1,o2,o3,o4,o5,o6,o7,o8,o9,oa] at hc1
  replace H:=H.keep [] rfl
  refine sS H fun K4 k4=>sr 1 rfl<|sE ?_;clear H a;intro a H
  refine k4 _ ?_;clear k4 K4
  refine wp_ret ?_
  refine ret1 (fn:=Tryd.f6) rfl H rfl ?_
  rw [Pg (by omega)];exact ⟨rfl,(S.sel [] G G)⟩
 try simp only [o1,o2,o3,o4,o5,o6,o7,o8,o9,oa] at hc1
 refine wp_skip ?_
 refine k2 _ _ ?_
 refine wp_seq_k fun K5 k5=>?_
 refine sS H fun K6 k6=>sr 1 rfl<|sE ?_;clear H a;intro a H
 refine k6 _ ?_;clear k6 K6
 refine wp_block ?_
 refine loop_st (X:=Nat) (R0:=_) [1,2] H rfl (fun i=>[(5,.int .i64 (i:Int))]) (fun i=>[]) (fun g i=>i≤nl.length∧g+i=nl.length∧∀ k,k<i→(fun i=>ascB (nl.getD i []) 0 nt=true) k) (nl.length) 0 ?_ (S.sel [0] G G) (H.keep [5,1,2] rfl) ?_
 · exact ⟨by omega,by omega,fun k hk=>absurd hk (Nat.not_lt_zero k)⟩
 clear H S a
 intro g1 x1 a w1 hp S H K7 k7
 obtain ⟨i,rfl⟩:∃ y,y=x1:=⟨_,rfl⟩
 obtain ⟨hil,hgi,hia⟩:=hp
 refine wp_seq_k fun K8 k8=>?_
 refine sS H fun K9 k9=>sr 1 rfl<|sf eC rfl<|sl S 0 fP G G G<|sL gS rfl<|sr 1 rfl<|sE ?_;clear H a;intro a H
 refine k9 _ ?_;clear k9 K9
 refine condL H rfl (fun hc2=>?_) (fun hc2=>?_)
 ·skip
  refine wp_skip ?_
  refine k8 _ _ ?_
  refine wp_seq_k fun K10 k10=>?_
  refine wp_block ?_
  refine sS H fun K11 k11=>sr 1 rfl<|sE ?_;clear H a;intro a H
  refine k11 _ ?_;clear k11 K11
  refine sS H fun K12 k12=>sr 1 rfl<|sE ?_;clear H a;intro a H
  refine k12 _ ?_;clear k12 K12
  refine wp_block ?_
  have hnmi:=hnm i (by omega)
  refine loop_st (X:=Nat) (R0:=_) [1,2,5] H rfl (fun q=>[(6,.int .i64 (lstR (nl.getD i []) q)),(7,.int .i64 (q:Int))]) (fun q=>[]) (fun g q=>q≤(nl.getD i []).length∧g+q=(nl.getD i []).length∧∀ z,z<q→ascP (nl.getD i []) 0 (nt:Int) z=true) ((nl.getD i []).length) 0 ?_ (S.sel [0] G G) (H.keep [6,7,1,2,5] rfl) ?_
  · exact ⟨by omega,by omega,fun k hk=>absurd hk (Nat.not_lt_zero k)⟩
  clear H S a
  intro g2 x2 a w2 hp S H K13 k13
  obtain ⟨q,rfl⟩:∃ y,y=x2:=⟨_,rfl⟩
  obtain ⟨hql,hgq,has⟩:=hp
  refine wp_seq_k fun K14 k14=>?_
  refine sS H fun K15 k15=>sr 1 rfl<|sf eC rfl<|sl S 0 fP G G G<|sr 1 rfl<|si gS kY G G (hnl.adr (by omega)) (by omega)<|slm bD rfl (hnl.rd S (by omega) (by omega))<|sL aR rfl<|sr 1 rfl<|sE ?_;clear H a;intro a H
  refine k15 _ ?_;clear k15 K15
  refine condL H rfl (fun hc3=>?_) (fun hc3=>?_)
  ·skip
   refine wp_skip ?_
   refine k14 _ _ ?_
   refine wp_seq_k fun K16 k16=>?_
   refine wp_block ?_
   refine wp_seq_k fun K17 k17=>?_
   have hlb:=Jk q has
   replace H:=H.keep [1,2,5,6,7] rfl
   refine sS H fun K18 k18=>sf eC rfl<|sl S 0 fP G G G<|sr 1 rfl<|si gS kY G G (hnl.adr (by omega)) (by omega)<|slm bD rfl (hnl.rd S (by omega) (by omega))<|sr 1 rfl<|si aR bE G G ((hni i (by omega)).adr (by omega)) (by omega)<|slm aF rfl ((hni i (by omega)).rd S (by omega) (by omega))<|sr 1 rfl<|sd (aK G G (by unfold i64ok;omega))<|sr 1 rfl<|sd (aT G G (by unfold i64ok;omega))<|sc rfl Tryd.func14 G G (cN _ _ _ _)<|sr 1 rfl<|sE ?_;clear H a;intro a H
   refine k18 _ ?_;clear k18 K18
   refine cond_ H rfl (fun hc4=>?_) (fun hc4=>?_)
   ·skip
    try simp only [o1,o2,o3,o4,o5,o6,o7,o8,o9,oa] at hc4
    replace H:=H.keep [] rfl
    refine sS H fun K19 k19=>sr 1 rfl<|sE ?_;clear H a;intro a H
    refine k19 _ ?_;clear k19 K19
    refine wp_ret ?_
    refine ret1 (fn:=Tryd.f6) rfl H rfl ?_
    rw [Ph (i:=i) (by omega) (cB (k:=q) (by omega) (Jj (by omega)))];exact ⟨rfl,(S.sel [] G G)⟩
   try simp only [o1,o2,o3,o4,o5,o6,o7,o8,o9,oa] at hc4
   refine wp_skip ?_
   refine k17 _ _ ?_
   replace H:=H.keep [1,2,5,7] rfl
   refine sO H<|sf eC rfl<|sl S 0 fP G G G<|sr 1 rfl<|si gS kY G G (hnl.adr (by omega)) (by omega)<|slm bD rfl (hnl.rd S (by omega) (by omega))<|sr 1 rfl<|si aR bE G G ((hni i (by omega)).adr (by omega)) (by omega)<|slm aF rfl ((hni i (by omega)).rd S (by omega) (by omega))<|sr 1 rfl<|sE ?_;clear H a;intro a H
   refine k16 _ _ ?_
   replace H:=H.keep [1,2,5,6,7] rfl
   refine sO H<|sr 1 rfl<|sd (aK G G (by unfold i64ok;omega))<|sr 1 rfl<|sE ?_;clear H a;intro a H
   exact k13 (g2-1) (q+1) a _ (by omega) (⟨by omega,by omega,nM has (Ji (by omega))⟩) (S.sel [0] G G) (H.keep [6,7,1,2,5] rfl)
  refine wp_exit ?_
  refine k10 _ _ ?_
  refine sO H<|sr 1 rfl<|sd (aK G G (by unfold i64ok;omega))<|sr 1 rfl<|sE ?_;clear H a;intro a H
  exact k7 (g1-1) (i+1) a _ (by omega) (⟨by omega,by omega,nM hia (gC fun z hz=>has z (by omega))⟩) (S.sel [0] G G) (H.keep [5,1,2] rfl)
 refine wp_exit ?_
 refine k5 _ _ ?_
 obtain rfl:i=nl.length:=by omega
 refine sS H fun K23 k23=>sr 1 rfl<|sE ?_;clear H a;intro a H
 refine k23 _ ?_;clear k23 K23
 refine wp_ret ?_
 refine ret1 (fn:=Tryd.f6) rfl H rfl ?_
 rw [Pi (by omega) (by omega) hia];exact ⟨rfl,(S.sel [] G G)⟩
theorem qY (hz:Int) (sw:List Int) (SA:Option Addr) (scp:Nat) (ws:List Wr) (QA:Option Addr) (qc:Nat) (OA:Nat→Option Addr) (oc:Nat→Nat) (tl:List Trl) (TA:Option Addr) (tc:Nat) (w:World) (hsw:InS w noF 1 SA sw.length (icl sw)) (hws:InS w noF 2 QA ws.length (cI ws OA oc)) (hof:∀ k,k<ws.length→InS w noF 1 (OA k) (ws.getD k Wr.zero).of.length (icl (ws.getD k Wr.zero).of)) (hsn:sw.length≤9223372036854775807) (hwn:ws.length≤9223372036854775807) (hofn:∀ k,k<ws.length→(ws.getD k Wr.zero).of.length≤9223372036854775807) (htl:InS w noF 2 TA tl.length (gN tl)) (htn:tl.length≤9223372036854775807) :
    Calls Tryd.prog 22 [.agg [.int .i64 hz,.slice SA sw.length scp,.slice QA ws.length qc].toArray,.slice TA tl.length tc].toArray w (Ret (fun u w'=>u = .int .i64 (trlE hz sw ws tl)∧St w noF [] w')):=by
 refine enter Tryd.func22 rfl Tryd.ntmps22 rfl (fun a H=>?_)
 have S:=St.start w
 refine seq_list fun K1 k1=>?_
 refine aQ H rfl S G G ?_;clear H a S;intro b2 _ a hb2 hbw2 S H
 refine ls 1 H<|sr 1 rfl<|sE ?_;clear H a;intro a H
 refine k1 _ _ ?_;clear k1 K1
 refine wp_seq_k fun K2 k2=>?_
 refine seq_list fun K3 k3=>?_
 refine ls 1 H<|sd ((aC bR bO rfl S (i:=0) G G))<|sE ?_;clear H a;intro a H
 refine aA H G G Tryd.func32 G G (qN hz sw SA scp ws QA qc OA oc _ (hsw.now S) (hws.now S) (fun k hk=>(hof k hk).now S) hsn hwn hofn) ?_;clear H a
 rintro _ _ a ⟨rfl,S2⟩ H
 replace S:=S.call S2;clear S2
 refine ls 1 H<|sr 1 rfl<|sE ?_;clear H a;intro a H
 refine k3 _ _ ?_;clear k3 K3
 refine sS H fun K4 k4=>sr 2 rfl<|sE ?_;clear H a;intro a H
 refine k4 _ ?_;clear k4 K4
 refine condN H rfl (fun hc1=>?_) (fun hc1=>?_)
 ·skip
  refine sS H fun K5 k5=>sr 2 rfl<|sE ?_;clear H a;intro a H
  refine k5 _ ?_;clear k5 K5
  refine wp_ret ?_
  refine ret1 (fn:=Tryd.f22) rfl H rfl ?_
  rw [Ky hc1,show circE hz sw ws=30 from Jl hc1];exact ⟨rfl,(S.sel [] G G)⟩
 have V:=eI (iI hc1)
 have hzb:=V.hzb
 have hnw:=V.nws
 refine wp_skip ?_
 refine k2 _ _ ?_
 refine wp_seq_k fun K6 k6=>?_
 replace H:=H.keep [1,2] rfl
 refine sS H fun K7 k7=>sr 1 rfl<|sL fU rfl<|sr 1 rfl<|sE ?_;clear H a;intro a H
 refine k7 _ ?_;clear k7 K7
 refine condL H rfl (fun hc2=>?_) (fun hc2=>?_)
 ·skip
  refine sS H fun K8 k8=>sr 1 rfl<|sE ?_;clear H a;intro a H
  refine k8 _ ?_;clear k8 K8
  refine wp_ret ?_
  refine ret1 (fn:=Tryd.f22) rfl H rfl ?_
  rw [Kz hc1 (by omega)];exact ⟨rfl,(S.sel [] G G)⟩
 refine wp_skip ?_
 refine k6 _ _ ?_
 refine wp_seq_k fun K9 k9=>?_
 refine sS H fun K10 k10=>sr 1 rfl<|sL fU rfl<|sr 1 rfl<|sE ?_;clear H a;intro a H
 refine k10 _ ?_;clear k10 K10
 refine wp_block ?_
 refine loop_st (X:=Nat) (R0:=_) [2,16,17] H rfl (fun i=>[(18,.int .i64 (i:Int))]) (fun i=>[]) (fun g i=>i≤tl.length∧g+i=tl.length∧∀ k,k<i→(fun i=>tlOk hz ws.length (tl.getD i Trl.zero)=true) k) (tl.length) 0 ?_ (S.sel [0] G G) (H.keep [18,2,16,17] rfl) ?_
 · exact ⟨by omega,by omega,fun k hk=>absurd hk (Nat.not_lt_zero k)⟩
 clear H S a
 intro g1 x1 a w1 hp S H K11 k11
 obtain ⟨i,rfl⟩:∃ y,y=x1:=⟨_,rfl⟩
 refine sS H fun K12 k12=>sr 1 rfl<|sE ?_;clear H a;intro a H
 refine k12 _ ?_;clear k12 K12
 refine wp_seq_k fun K13 k13=>?_
 refine condL H rfl (fun hc3=>?_) (fun hc3=>?_)
 ·skip
  refine wp_skip ?_
  refine k13 _ _ ?_
  refine wp_seq_k fun K14 k14=>?_
  refine wp_block ?_
  refine seq_list fun K15 k15=>?_
  refine ls 2 H<|si fU gR G G (htl.adr (by omega)) (by omega)<|sd ((aZ oH gR rfl S htl (by omega) (by omega)))<|sE ?_;clear H a;intro a H
  refine aI H rfl S yW ?_;clear H a S;intro b7 _ a hb7 hbw7 S H
  refine aD H S (i:=0) G G G G gR G G ?_
  clear H a S;intro _ a S H
  refine k15 _ _ ?_;clear k15 K15
  replace H:=H.keep [2,7,16,17,18] rfl
  refine seq_list fun K16 k16=>?_
  refine ls 4 H<|sf lF rfl<|sl S 0 aF G G G<|sf gU rfl<|sl S 1 aF G G G<|sE ?_;clear H a;intro a H
  refine aA H G G Tryd.func33 G G (qL _ _ _ (by omega)) ?_;clear H a
  rintro _ _ a ⟨rfl,S2⟩ H
  replace S:=S.call S2;clear S2
  refine ls 14 H<|sr 2 rfl<|sg 3 6 28 31 false G G (fun hg7=>by
      have hq7:=hg7;try simp only [o1,o2,o3,o4,o5,o6,o7,o8,o9,oa] at hq7
      exact sy hg7<|sf lG rfl<|sy hg7<|sl S 0 aF G G G<|sy hg7<|sr 1 rfl<|sz 3 G G G)<|so G G G<|sr 1 rfl<|sg 6 11 33 39 false G G (fun hg12=>by
      have hq12:=hg12;try simp only [o1,o2,o3,o4,o5,o6,o7,o8,o9,oa] at hq12
      exact sy hg12<|sf lG rfl<|sy hg12<|sl S 0 aF G G G<|sy hg12<|sf cT rfl<|sy hg12<|sl S 1 dQ G G G<|sy hg12<|sL eN rfl<|sy hg12<|sr 1 rfl<|sz 6 G G G)<|so G G G<|sE ?_;clear H a;intro a H
  refine k16 _ _ ?_;clear k16 K16
  refine cond_ H rfl (fun hc4=>?_) (fun hc4=>?_)
  ·skip
   try simp only [o1,o2,o3,o4,o5,o6,o7,o8,o9,oa] at hc4
   replace H:=H.keep [] rfl
   refine sS H fun K17 k17=>sr 1 rfl<|sE ?_;clear H a;intro a H
   refine k17 _ ?_;clear k17 K17
   refine wp_ret ?_
   refine ret1 (fn:=Tryd.f22) rfl H rfl ?_
   rw [Fx hc1 (by omega) (i:=i) (by omega) (by rcases hc4 with (h9|h9)|h9;exact Fy h9;exact xU (by omega);exact xU (by omega))];exact ⟨rfl,(S.sel [] rfl rfl)⟩
  try simp only [o1,o2,o3,o4,o5,o6,o7,o8,o9,oa] at hc4
  refine wp_skip ?_
  refine k14 _ _ ?_
  refine sO H<|sd (aK G G (by unfold i64ok;omega))<|sr 1 rfl<|sE ?_;clear H a;intro a H
  exact k11 (g1-1) (i+1) a _ (by omega) (⟨by omega,by omega,nM hp.2.2 (Lb hc4.1.1 (by have h9:=hc4.1.2;have h8:=hc4.2;omega))⟩) (S.sel [1] G G) (H.keep [18,2,16,17] rfl)
 refine wp_exit ?_
 refine k9 _ _ ?_
 refine sS H fun K19 k19=>sr 1 rfl<|sE ?_;clear H a;intro a H
 refine k19 _ ?_;clear k19 K19
 refine wp_ret ?_
 refine ret1 (fn:=Tryd.f22) rfl H rfl ?_
 rw [La hc1 (by omega) (fun k hk=>hp.2.2 k (by omega))];exact ⟨rfl,(S.sel [] G G)⟩
theorem qA (hz:Int) (sw:List Int) (SA:Option Addr) (scp:Nat) (ws:List Wr) (QA:Option Addr) (qc:Nat) (OA:Nat→Option Addr) (oc:Nat→Nat) (tl:List Trl) (TA:Option Addr) (tc:Nat) (nl:List (List Int)) (NA:Option Addr) (nc:Nat) (MA:Nat→Option Addr) (mc:Nat→Nat) (gap:Int) (w:World) (hsw:InS w noF 1 SA sw.length (icl sw)) (hws:InS w noF 2 QA ws.length (cI ws OA oc)) (hof:∀ k,k<ws.length→InS w noF 1 (OA k) (ws.getD k Wr.zero).of.length (icl (ws.getD k Wr.zero).of)) (hsn:sw.length≤9223372036854775807) (hwn:ws.length≤9223372036854775807) (hofn:∀ k,k<ws.length→(ws.getD k Wr.zero).of.length≤9223372036854775807) (htl:InS w noF 2 TA tl.length (gN tl)) (htn:tl.length≤9223372036854775807) (hnl:InS w noF 1 NA nl.length (mG nl MA mc)) (hnn:nl.length≤9223372036854775807) (hni:∀ k,k<nl.length→InS w noF 1 (MA k) (nl.getD k []).length (icl (nl.getD k []))) (hnm:∀ k,k<nl.length→(nl.getD k []).length≤9223372036854775807) (hT:trlE hz sw ws tl=0) (hR:rotB nl gap tl.length=true) :
    Calls Tryd.prog 19 [.agg [.int .i64 hz,.slice SA sw.length scp,.slice QA ws.length qc].toArray,.slice TA tl.length tc,.agg [.slice NA nl.length nc,.int .i64 gap].toArray].toArray w (Ret (fun u w'=>u = .int .i64 0∧St w noF [] w')):=by
 obtain ⟨hR1,hR2,hR3⟩:=xV hR
 obtain ⟨hT1,hT2,hT3⟩:=sZ hT
 refine enter Tryd.func19 rfl Tryd.ntmps19 rfl (fun a H=>?_)
 have S:=St.start w
 refine seq_list fun K1 k1=>?_
 refine aQ H rfl S G G ?_;clear H a S;intro b3 _ a hb3 hbw3 S H
 refine aQ H rfl S G G ?_;clear H a S;intro b5 _ a hb5 hbw5 S H
 refine ls 1 H<|sr 1 rfl<|sE ?_;clear H a;intro a H
 refine k1 _ _ ?_;clear k1 K1
 refine wp_seq_k fun K2 k2=>?_
 refine seq_list fun K3 k3=>?_
 refine ls 2 H<|sd ((aC bR bO rfl S (i:=1) G G))<|sr 1 rfl<|sE ?_;clear H a;intro a H
 refine aA H G G Tryd.func22 G G (qY hz sw SA scp ws QA qc OA oc tl TA tc _ (hsw.now S) (hws.now S) (fun k hk=>(hof k hk).now S) hsn hwn hofn (htl.now S) htn) ?_;clear H a
 rintro _ _ a ⟨rfl,S2⟩ H
 replace S:=S.call S2;clear S2
 rw [hT] at H
 refine ls 1 H<|sr 1 rfl<|sE ?_;clear H a;intro a H
 refine k3 _ _ ?_;clear k3 K3
 refine sS H fun K4 k4=>sr 2 rfl<|sE ?_;clear H a;intro a H
 refine k4 _ ?_;clear k4 K4
 refine cond_ H rfl (fun hc1=>?_) (fun hc1=>?_)
 ·skip
  skip
  cases hc1
 skip
 refine wp_skip ?_
 refine k2 _ _ ?_
 refine wp_seq_k fun K5 k5=>?_
 replace H:=H.keep [1,5] rfl
 refine sS H fun K6 k6=>sf eC rfl<|sl S 0 fP G G G<|sL gS rfl<|sr 2 rfl<|sg 4 4 20 24 false G G (fun hg5=>by
     have hq5:=hg5;try simp only [o1,o2,o3,o4,o5,o6,o7,o8,o9,oa] at hq5
     exact sy hg5<|sf eC rfl<|sy hg5<|sl S 0 fP G G G<|sy hg5<|sL gS rfl<|sy hg5<|sr 1 rfl<|sz 4 G G G)<|so G G G<|sr 1 rfl<|sg 3 10 26 29 false G G (fun hg11=>by
     have hq11:=hg11;try simp only [o1,o2,o3,o4,o5,o6,o7,o8,o9,oa] at hq11
     exact sy hg11<|sf jS rfl<|sy hg11<|sl S 0 aF G G G<|sy hg11<|sr 1 rfl<|sz 3 G G G)<|so G G G<|sr 1 rfl<|sg 3 15 31 34 false G G (fun hg16=>by
     have hq16:=hg16;try simp only [o1,o2,o3,o4,o5,o6,o7,o8,o9,oa] at hq16
     exact sy hg16<|sf jS rfl<|sy hg16<|sl S 0 aF G G G<|sy hg16<|sr 1 rfl<|sz 3 G G G)<|so G G G<|sE ?_;clear H a;intro a H
 refine k6 _ ?_;clear k6 K6
 refine cond_ H rfl (fun hc2=>?_) (fun hc2=>?_)
 ·skip
  try simp only [o1,o2,o3,o4,o5,o6,o7,o8,o9,oa] at hc2
  exfalso;omega
 try simp only [o1,o2,o3,o4,o5,o6,o7,o8,o9,oa] at hc2
 refine wp_skip ?_
 refine k5 _ _ ?_
 refine wp_seq_k fun K7 k7=>?_
 replace H:=H.keep [1,5] rfl
 refine sS H fun K8 k8=>sf eC rfl<|sl S 0 fP G G G<|sL gS rfl<|sr 1 rfl<|sE ?_;clear H a;intro a H
 refine k8 _ ?_;clear k8 K8
 refine wp_block ?_
 refine loop_st (X:=Nat) (R0:=_) [1,37,38] H rfl (fun i=>[(39,.int .i64 (i:Int))]) (fun i=>[]) (fun g i=>i≤nl.length∧g+i=nl.length) (nl.length) 0 ?_ (S.sel [0,1] G G) (H.keep [39,1,37,38] rfl) ?_
 · exact ⟨by omega,by omega⟩
 clear H S a
 intro g1 x1 a w1 hp S H K9 k9
 obtain ⟨i,rfl⟩:∃ y,y=x1:=⟨_,rfl⟩
 refine sS H fun K10 k10=>sr 1 rfl<|sE ?_;clear H a;intro a H
 refine k10 _ ?_;clear k10 K10
 refine wp_seq_k fun K11 k11=>?_
 refine condL H rfl (fun hc3=>?_) (fun hc3=>?_)
 ·skip
  refine wp_skip ?_
  refine k11 _ _ ?_
  refine wp_seq_k fun K12 k12=>?_
  refine wp_block ?_
  refine sS H fun K13 k13=>si gS kY G G (hnl.adr (by omega)) (by omega)<|slm bD rfl (hnl.rd S (by omega) (by omega))<|sr 1 rfl<|sE ?_;clear H a;intro a H
  refine k13 _ ?_;clear k13 K13
  refine seq_list fun K14 k14=>?_
  refine ls 3 H<|sr 2 rfl<|sL fU rfl<|sE ?_;clear H a;intro a H
  refine aA H G G Tryd.func31 G G (fI (nl.getD i []) (MA i) (mc i) _ _ _ ((hni i (by omega)).now S) (hnm i (by omega)) (by omega) (by omega)) ?_;clear H a
  rintro _ _ a ⟨rfl,S2⟩ H
  replace S:=S.call S2;clear S2
  rw [hR3 i (by omega)] at H
  refine ls 1 H<|sr 1 rfl<|sE ?_;clear H a;intro a H
  refine k14 _ _ ?_;clear k14 K14
  refine cond_ H rfl (fun hc4=>?_) (fun hc4=>?_)
  ·skip
   skip
   cases hc4
  skip
  refine wp_skip ?_
  refine k12 _ _ ?_
  replace H:=H.keep [1,37,38,39] rfl
  refine sO H<|sd (aK G G (by unfold i64ok;omega))<|sr 1 rfl<|sE ?_;clear H a;intro a H
  exact k9 (g1-1) (i+1) a _ (by omega) (⟨by omega,by omega⟩) (S.sel [0,1] G G) (H.keep [39,1,37,38] rfl)
 refine wp_exit ?_
 refine k7 _ _ ?_
 refine sS H fun K16 k16=>sr 1 rfl<|sE ?_;clear H a;intro a H
 refine k16 _ ?_;clear k16 K16
 refine wp_ret ?_
 refine ret1 (fn:=Tryd.f19) rfl H rfl ?_
 exact ⟨rfl,(S.sel [] G G)⟩
end
section
structure Jq where
  mach:Int
  nights:Int
  after:List Int
def Jq.zero:Jq:=⟨0,0,[]⟩
structure Jb where
  mach:Int
  nights:Int
  after:List Int
  A:Option Addr
  c:Nat
def Jb.zero:Jb:=⟨0,0,[],none,0⟩
def Jb.cell (h:Jb):Nat→Value
  | 0 => .int .i64 h.mach
  | 1 => .int .i64 h.nights
  | _ => .slice h.A h.after.length h.c
def Jb.q (h:Jb):Jq:=⟨h.mach,h.nights,h.after⟩
section
variable {mm cr un:Int} {js:List Jq} {nv:List Int} {i k q:Nat}
end
def lorW (a b:Int):Int:=((a.toNat ||| b.toNat:Nat):Int)
section
variable {P:Program} {L:List (Nat×Value)} {w:World} {d:Option Nat} {ty:TypeId} {pos:String} {af:Array Edge} {g:Option (Nat×Bool)}
theorem qZ {x y:Operand} {xt yt:TypeId} {m k:Int} (hx:ev L x=some (.int .i64 m)) (hy:ev L y=some (.int .i64 k)) (hm:0≤m∧m<2^20) (hk:0≤k∧k<2^20) :
    Does P L ⟨d,.binOp .or xt x y yt,ty,pos,af,g⟩ w (.int .i64 (lorW m k)):=fun ρ hρ=>by
  obtain ⟨m,rfl⟩:∃ n:Nat,m=n:=⟨m.toNat,by omega⟩
  obtain ⟨k,rfl⟩:∃ n:Nat,k=n:=⟨k.toNat,by omega⟩
  have e0:((BitVec.ofInt 64 (m:Int) ||| BitVec.ofInt 64 (k:Int)).toNat)=m ||| k:=by
    rw [BitVec.toNat_or,BitVec.ofInt_natCast,BitVec.ofInt_natCast,BitVec.toNat_ofNat,BitVec.toNat_ofNat,Nat.mod_eq_of_lt (by omega),Nat.mod_eq_of_lt (by omega)]
  have hle:m ||| k<2^20:=Nat.or_lt_two_pow (by have:=hm.2;omega) (by have:=hk.2;omega)
  have e1:IntKind.i64.wrap ((BitVec.ofInt 64 (m:Int) ||| BitVec.ofInt 64 (k:Int)).toNat:Int)=((m ||| k:Nat):Int):=by
    rw [e0];exact i64ok.eq ⟨by omega,by omega⟩
  have e:Op.intBits .or .i64 (m:Int) (k:Int)=pure (.int .i64 (lorW m k)):=by
    unfold lorW
    rw [Int.toNat_natCast,Int.toNat_natCast]
    exact congrArg (fun z=>(pure (Value.int .i64 z):Sem Value)) e1
  simp [execOp,hρ _ _ hx,hρ _ _ hy,eqGuard,binOp,e]
end
section
variable (js:List Jq) (st:List Int) (d:Int)
end
section
variable {mm cr un d:Int} {js:List Jq} {nv st:List Int} {i k:Nat}
theorem pw12 {m:Int} (h:0≤m∧m≤12):(1:Int)≤2^m.toNat∧(2:Int)^m.toNat≤4096:=by
  have e:(2:Int)^m.toNat=((2^m.toNat:Nat):Int):=(Int.natCast_pow 2 m.toNat).symm
  have h1:=Nat.pow_pos (n:=m.toNat) (show 0<2 by decide)
  have h2:2^m.toNat≤2^12:=Nat.pow_le_pow_right (by decide) (by omega)
  rw [e]
  omega
end
end
section
section
variable {hz:Int} {sw:List Int} {ws:List Wr} {tl:List Trl} {t:Trl} {a b:Int} {s k i q:Nat} {EL l:List Int} {nl:List (List Int)}
theorem zQ (ha:0≤a∧a≤4095) (hb:0≤b∧b≤4095):0≤lorW a b∧lorW a b≤4095:=by
  have:=Nat.or_lt_two_pow (x:=a.toNat) (y:=b.toNat) (n:=12) (by omega) (by omega)
  unfold lorW
  omega
theorem Lc (hhz:0≤hz∧hz≤12) (h:tlOk hz ws.length t=true):(0≤t.haz∧t.haz≤4095)∧0≤t.wire∧t.wire<ws.length:=by
  unfold tlOk at h
  rw [Bool.and_eq_true,decide_eq_true_eq] at h
  exact ⟨Ig h.1 hhz,by omega⟩
theorem nN (h:sw.length≤12):0≤shwN hz sw ws t∧shwN hz sw ws t≤4095:=by
  have h1:=kA (shwS hz sw ws t) sw.length
  have h2:=pw12 (m:=(sw.length:Int)) (by omega)
  rw [Int.toNat_natCast] at h2
  unfold shwN
  omega
theorem Fz {f:Nat→Bool}:bsum f s/2^((s:Nat):Int).toNat%2=0:=by
  rw [Int.toNat_natCast];exact (zM (kA f s).1 (kA f s).2).1
theorem tB (h:k<tl.length):(tl.map (shwN hz sw ws)).getD k 0=shwN hz sw ws (tl.getD k Trl.zero):=by
  rw [List.getD_eq_getElem?_getD,List.getD_eq_getElem?_getD,List.getElem?_map,List.getElem?_eq_getElem h];rfl
def nig (EL l:List Int):Nat→Int
  | 0=>0
  | q+1=>lorW (nig EL l q) (EL.getD (l.getD q 0).toNat 0)
theorem Ga (hE:∀ k,k<EL.length→0≤EL.getD k 0∧EL.getD k 0≤4095):∀ q,(∀ z,z<q→0≤l.getD z 0∧l.getD z 0<EL.length)→0≤nig EL l q∧nig EL l q≤4095:=by
  intro q
  induction q with
  | zero=>intro _;exact ⟨Int.le_refl 0,by show (0:Int)≤4095;decide⟩
  | succ q ih=>
    intro h
    have h1:=h q (by omega)
    exact zQ (ih fun z hz=>h z (by omega)) (hE _ (by omega))
theorem tC {n:Nat}:(n:Int)/2^s%2=1↔n.testBit s=true:=by
  have e2:((n:Nat):Int)/2^s%2=((n/2^s%2:Nat):Int):=by push_cast;rfl
  rw [e2,Nat.testBit_eq_decide_div_mod_eq,decide_eq_true_eq]
  omega
theorem zR (h:0≤a):a/2^s%2=1↔a.toNat.testBit s=true:=by
  rw [←tC,Int.toNat_of_nonneg h]
theorem Gb (ha:0≤a) (hb:0≤b):lorW a b/2^s%2=1↔a/2^s%2=1∨b/2^s%2=1:=by
  unfold lorW
  rw [tC,Nat.testBit_or,Bool.or_eq_true,zR ha,zR hb]
theorem Jm (hE:∀ k,k<EL.length→0≤EL.getD k 0∧EL.getD k 0≤4095):∀ q,(∀ z,z<q→0≤l.getD z 0∧l.getD z 0<EL.length)→(nig EL l q/2^s%2=1↔∃ z,z<q∧EL.getD (l.getD z 0).toNat 0/2^s%2=1):=by
  intro q
  induction q with
  | zero=>
    intro _
    refine ⟨fun h=>?_,fun ⟨z,h,_⟩=>absurd h (Nat.not_lt_zero z)⟩
    have h2:(0:Int)/2^s%2=1:=h
    rw [Int.zero_ediv] at h2
    cases h2
  | succ q ih=>
    intro h
    have h1:=h q (by omega)
    rw [nig,Gb (Ga hE q fun z hz=>h z (by omega)).1 (hE _ (by omega)).1,ih fun z hz=>h z (by omega)]
    constructor
    · rintro (⟨z,h2,h3⟩|h2)
      · exact ⟨z,by omega,h3⟩
      · exact ⟨q,by omega,h2⟩
    · rintro ⟨z,h2,h3⟩
      by_cases e:z=q
      · subst e;exact .inr h3
      · exact .inl ⟨z,by omega,h3⟩
theorem vR (hs:s<sw.length):shwN hz sw ws t/2^s%2=1↔shwS hz sw ws t s=true:=by
  unfold shwN
  rw [pH hs]
  cases shwS hz sw ws t s <;> simp
def ngC (EL:List Int) (nl:List (List Int)) (i q p:Nat) (_j:Nat):Value := .int .i64 (if p<i then nig EL (nl.getD p []) (nl.getD p []).length else if p=i then nig EL (nl.getD i []) q else 0)
theorem Gc:ngC EL nl i (nl.getD i []).length=ngC EL nl (i+1) 0:=by
  funext p j
  unfold ngC
  by_cases h:p<i
  · rw [if_pos h,if_pos (by omega)]
  · rw [if_neg h]
    by_cases e:p=i
    · subst e;rw [if_pos rfl,if_pos (by omega)]
    · rw [if_neg e,if_neg (by omega)]
      by_cases e2:p=i+1
      · rw [if_pos e2];rfl
      · rw [if_neg e2]
theorem Jo:∀ p j,j<1→cput (ngC EL nl i q) i 0 (.int .i64 (lorW (nig EL (nl.getD i []) q) (EL.getD ((nl.getD i []).getD q 0).toNat 0))) p j=ngC EL nl i (q+1) p j:=fun p j hj=>by
  have:j=0:=by omega
  subst this
  unfold cput ngC
  by_cases e:p=i
  · subst e;rw [if_pos ⟨rfl,rfl⟩,if_neg (Nat.lt_irrefl _),if_pos rfl];rfl
  · rw [if_neg (fun h=>e h.1)]
    by_cases h:p<i
    · rw [if_pos h,if_pos h]
    · rw [if_neg h,if_neg h,if_neg e,if_neg e]
theorem Mt:ngC EL nl i q i 0 = .int .i64 (nig EL (nl.getD i []) q):=by unfold ngC;rw [if_neg (Nat.lt_irrefl _),if_pos rfl]
def ngL (EL:List Int) (nl:List (List Int)):List Int:=(List.range nl.length).map fun p=>nig EL (nl.getD p []) (nl.getD p []).length
theorem tD:(ngL EL nl).length=nl.length:=by unfold ngL;rw [List.length_map,List.length_range]
theorem zS (h:k<nl.length):(ngL EL nl).getD k 0=nig EL (nl.getD k []) (nl.getD k []).length:=by
  unfold ngL
  rw [List.getD_eq_getElem?_getD,List.getElem?_map,List.getElem?_range h];rfl
theorem Jp:∀ p j,p<nl.length→ngC EL nl nl.length 0 p j=icl (ngL EL nl) p j:=fun p j hp=>by
  unfold ngC icl
  rw [if_pos hp,zS hp]
def gapP (NV:List Int) (n:Nat) (gap:Int):Prop:=∀ s,s<n→∀ m,m<NV.length→∃ k:Nat,(k:Int)<gap∧NV.getD ((m+k)%NV.length) 0/2^s%2=1
theorem Bt (hsw:sw.length≤12) (hn:∀ p,p<nl.length→∀ z,z<(nl.getD p []).length→0≤(nl.getD p []).getD z 0∧(nl.getD p []).getD z 0<tl.length) {gap:Int} (h:gapP (ngL (tl.map (shwN hz sw ws)) nl) sw.length gap) (hs:s<sw.length) (m:Nat) (hm:m<nl.length) :
    ∃ k:Nat,(k:Int)<gap∧∃ z,z<(nl.getD ((m+k)%nl.length) []).length∧shwS hz sw ws (tl.getD ((nl.getD ((m+k)%nl.length) []).getD z 0).toNat Trl.zero) s=true:=by
  obtain ⟨k,hk,h1⟩:=h s hs m (by rw [tD];exact hm)
  rw [tD] at h1
  have hp:(m+k)%nl.length<nl.length:=Nat.mod_lt _ (by omega)
  rw [zS hp,Jm (fun q hq=>by rw [List.length_map] at hq;rw [tB hq];exact nN hsw) _ (fun z hz=>by rw [List.length_map];exact hn _ hp z hz)] at h1
  obtain ⟨z,hz1,h2⟩:=h1
  have h3:=hn _ hp z hz1
  rw [tB (by omega),vR hs] at h2
  exact ⟨k,hk,z,hz1,h2⟩
end
theorem ngC_z {EL:List Int} {nl:List (List Int)} {p j:Nat}:ngC EL nl 0 0 p j = .int .i64 0:=by
  unfold ngC
  rw [if_neg (Nat.not_lt_zero _)]
  by_cases e:p=0
  · rw [if_pos e];rfl
  · rw [if_neg e]
theorem Mu {a:Int} {n:Nat} (h:0≤a) (hn:0<n):0≤a%(n:Int)∧a%(n:Int)<n:=⟨Int.emod_nonneg _ (by omega),Int.emod_lt_of_pos _ (by omega)⟩
theorem Mw {NV:List Int} {m k s:Nat} {gap:Int} {mb:Bool} (h:mb=true→∃ k:Nat,(k:Int)<gap∧NV.getD ((m+k)%NV.length) 0/2^s%2=1) (hk:(k:Int)<gap):(mb||decide (NV.getD (((m:Int)+(k:Int))%(NV.length:Int)).toNat 0/2^((s:Nat):Int).toNat%2=1))=true→∃ k:Nat,(k:Int)<gap∧NV.getD ((m+k)%NV.length) 0/2^s%2=1:=fun h2=>by
  rw [Bool.or_eq_true,decide_eq_true_eq] at h2
  rcases h2 with h2|h2
  · exact h h2
  · refine ⟨k,hk,?_⟩
    have e:(((m:Int)+(k:Int))%(NV.length:Int)).toNat=(m+k)%NV.length:=by
      have:((m:Int)+(k:Int))%(NV.length:Int)=(((m+k)%NV.length:Nat):Int):=by push_cast;rfl
      rw [this,Int.toNat_natCast]
    rw [e,Int.toNat_natCast] at h2
    exact h2
theorem Bu (hz:Int) (sw:List Int) (SA:Option Addr) (scp:Nat) (ws:List Wr) (QA:Option Addr) (qc:Nat) (OA:Nat→Option Addr) (oc:Nat→Nat) (th tw:Int) (cl:Int) (w:World) (hsw:InS w noF 1 SA sw.length (icl sw)) (hws:InS w noF 2 QA ws.length (cI ws OA oc)) (hof:∀ k,k<ws.length→InS w noF 1 (OA k) (ws.getD k Wr.zero).of.length (icl (ws.getD k Wr.zero).of)) (V:CirV hz sw ws) (hto:(0≤th∧th≤4095)∧0≤tw∧tw<ws.length) (hcl:0≤cl∧cl≤4095) :
    Calls Tryd.prog 35 [.agg [.int .i64 hz,.slice SA sw.length scp,.slice QA ws.length qc].toArray,.agg [.int .i64 th,.int .i64 tw].toArray,.int .i64 cl].toArray w (Ret (fun u w'=>u = .bool (shB hz sw ws (⟨th,tw⟩:Trl) cl)∧St w noF [] w')):=by
 have hnw:=V.nws
 refine enter Tryd.func35 rfl Tryd.ntmps35 rfl (fun a H=>?_)
 have S:=St.start w
 refine seq_list fun K1 k1=>?_
 refine aQ H rfl S G G ?_;clear H a S;intro b3 _ a hb3 hbw3 S H
 refine aQ H rfl S G G ?_;clear H a S;intro b4 _ a hb4 hbw4 S H
 refine ls 1 H<|sr 1 rfl<|sE ?_;clear H a;intro a H
 refine k1 _ _ ?_;clear k1 K1
 have SR:=(S.sel [0,1] G G)
 refine meet_sr (X:=Nat×Nat) [4] H rfl (fun ⟨b7,b8⟩=>[(7,.pointer (some ⟨b7,0,none⟩)),(8,.pointer (some ⟨b8,0,none⟩))]) (fun ⟨b7,b8⟩=>[boxM b7 123 [.int .i64 hz,.slice SA sw.length scp,.slice QA ws.length qc,.int .i64 th,.int .i64 cl,.int .i64 0],boxM b8 123 [.int .i64 hz,.slice SA sw.length scp,.slice QA ws.length qc,.int .i64 th,.int .i64 0,.int .i64 0]]) (fun ⟨b7,b8⟩=>True) SR (fun K2 k2=>?_) ?_
 ·skip
  replace H:=H.keep [2,3,4] rfl
  replace S:=S.drew
  refine one_wt 999999 (.q 0 (.q 1 (.q 2 (.q 3 (.q 4 (.q 5 (.q 6 (.q 7 (.q 8 (.b2 9 (.e 10 (.e 11 (.e 12 .nil))) 10 (.e 9 (.e 11 (.e 12 .nil))))))))))))) (by kernel_rfl) (by kernel_rfl) (S.sel [0,1] G G) ?_
  refine aE H G G (fun _ S=>(aC bR bO rfl S (i:=1) G G)) ?_;clear H a;intro a H
  refine aE H G G (fun _ S=>(aB lF rfl)) ?_;clear H a;intro a H
  refine aE H G G (fun _ S=>aH aF rfl (boxM.rd S (i:=0) G G)) ?_;clear H a;intro a H
  refine aE H G G (fun _ S=>aM rfl) ?_;clear H a;intro a H
  refine aE H G G (fun _ S=>aN wY G G) ?_;clear H a;intro a H
  refine aE H G G (fun _ S=>(aC bR bO rfl S (i:=1) G G)) ?_;clear H a;intro a H
  refine aE H G G (fun _ S=>(aB lF rfl)) ?_;clear H a;intro a H
  refine aE H G G (fun _ S=>aH aF rfl (boxM.rd S (i:=0) G G)) ?_;clear H a;intro a H
  refine aE H G G (fun _ S=>aN wY G G) ?_;clear H a;intro a H
  refine dF G G ?_ ?_
  ·skip
   refine aI H rfl S oS ?_;clear H a S;intro b7 _ a hb7 hbw7 S H
   refine wpList_nil (And.intro (Or.inr (S.sel [1,2] G G)) ?_)
   refine aL rfl ?_
   refine aI H rfl S oS ?_;clear H a S;intro b8 _ a hb8 hbw8 S H
   refine wpList_nil (And.intro (Or.inr (S.sel [2,3] G G)) ?_)
   refine aL rfl ?_
   refine aD H S (i:=1) G G G G iG G G ?_
   clear H a S;intro _ a S H
   refine wpList_nil (And.intro (Or.inr (S.sel [2,3] G G)) ?_)
   refine aL rfl ?_
   refine aD H S (i:=0) G G G G iG G G ?_
   clear H a S;intro _ a S H
   refine wpList_nil (And.intro (Or.inr (S.sel [2,3] G G)) ?_)
   refine bA ?_
   exact k2 (_,_) a _ (trivial) (S.sel [1,0,2,3] G G) (H.keep [7,8,4] rfl)
  ·skip
   refine aI H rfl S oS ?_;clear H a S;intro b8 _ a hb8 hbw8 S H
   refine wpList_nil (And.intro (Or.inr (S.sel [1,2] G G)) ?_)
   refine aL rfl ?_
   refine aI H rfl S oS ?_;clear H a S;intro b7 _ a hb7 hbw7 S H
   refine wpList_nil (And.intro (Or.inr (S.sel [2,3] G G)) ?_)
   refine aL rfl ?_
   refine aD H S (i:=0) G G G G iG G G ?_
   clear H a S;intro _ a S H
   refine wpList_nil (And.intro (Or.inr (S.sel [2,3] G G)) ?_)
   refine aL rfl ?_
   refine aD H S (i:=1) G G G G iG G G ?_
   clear H a S;intro _ a S H
   refine wpList_nil (And.intro (Or.inr (S.sel [2,3] G G)) ?_)
   refine bA ?_
   exact k2 (_,_) a _ (trivial) (S.sel [0,1,2,3] G G) (H.keep [7,8,4] rfl)
 clear SR H S a
 intro xm a wm hp S H
 obtain ⟨b7,b8⟩:=xm
 replace H:=H.keep [4,7,8] rfl
 refine seq_list fun K4 k4=>?_
 refine ls 3 H<|sd ((aC kZ iG rfl S (i:=0) G G))<|sf lG rfl<|sl S 2 aF G G G<|sE ?_;clear H a;intro a H
 refine aA H G G Tryd.func45 G G (oU hz sw SA scp ws QA qc OA oc th cl 0 V hto.1 (by omega) (by omega) ws.length tw _ hto.2 (by omega) (hsw.now S) (hws.now S) (fun k hk=>(hof k hk).now S)) ?_;clear H a
 rintro _ _ a ⟨rfl,S2⟩ H
 replace S:=S.call S2;clear S2
 refine ls 1 H<|sr 1 rfl<|sE ?_;clear H a;intro a H
 apply cJ (i:=4) (g:=22) (t:=27) (b:=true) 5 H S G G (by kernel_rfl) (by kernel_rfl) G G
 case h1=>
  intro hg5
  have hq5:=hg5;try simp only [o1,o2,o3,o4,o5,o6,o7,o8,o9,oa] at hq5
  refine ls 3 H<|sy hg5<|sd ((aC kZ iG rfl S (i:=1) G G))<|sy hg5<|sf lG rfl<|sy hg5<|sl S 2 aF G G G<|sE ?_;intro a H
  refine cV H G G (by assumption) ?_
  refine aA H G G Tryd.func45 G G (oU hz sw SA scp ws QA qc OA oc th 0 0 V hto.1 (by omega) (by omega) ws.length tw _ hto.2 (by omega) (hsw.now S) (hws.now S) (fun k hk=>(hof k hk).now S)) ?_
  rintro _ _ a ⟨rfl,S2⟩ H
  replace S:=S.call S2;clear S2
  refine ls 1 H<|sy hg5<|sr 1 rfl<|sE ?_;intro a H
  exact wpList_nil ⟨H.strip 5 G G,(S.sel [0,1,2,3] G G)⟩
 clear H a S;intro a _ H S
 refine ls 2 H<|sa G G G<|sr 1 rfl<|sE ?_;clear H a;intro a H
 refine k4 _ _ ?_;clear k4 K4
 refine wp_ret ?_
 refine ret1 (fn:=Tryd.f35) rfl H rfl ?_
 exact ⟨rfl,(S.sel [] G G)⟩
theorem rA (hz:Int) (sw:List Int) (SA:Option Addr) (scp:Nat) (ws:List Wr) (QA:Option Addr) (qc:Nat) (OA:Nat→Option Addr) (oc:Nat→Nat) (th tw:Int) (w:World) (hsw:InS w noF 1 SA sw.length (icl sw)) (hws:InS w noF 2 QA ws.length (cI ws OA oc)) (hof:∀ k,k<ws.length→InS w noF 1 (OA k) (ws.getD k Wr.zero).of.length (icl (ws.getD k Wr.zero).of)) (V:CirV hz sw ws) (hto:(0≤th∧th≤4095)∧0≤tw∧tw<ws.length) :
    Calls Tryd.prog 24 [.agg [.int .i64 hz,.slice SA sw.length scp,.slice QA ws.length qc].toArray,.agg [.int .i64 th,.int .i64 tw].toArray].toArray w (Ret (fun u w'=>u = .int .i64 (shwN hz sw ws (⟨th,tw⟩:Trl))∧St w noF [] w')):=by
 have hns:=V.nsw
 refine enter Tryd.func24 rfl Tryd.ntmps24 rfl (fun a H=>?_)
 have S:=St.start w
 refine seq_list fun K1 k1=>?_
 refine aQ H rfl S G G ?_;clear H a S;intro b2 _ a hb2 hbw2 S H
 refine aQ H rfl S G G ?_;clear H a S;intro b3 _ a hb3 hbw3 S H
 refine ls 1 H<|sr 1 rfl<|sE ?_;clear H a;intro a H
 refine k1 _ _ ?_;clear k1 K1
 refine wp_seq_k fun K2 k2=>?_
 refine sS H fun K3 k3=>sf dG rfl<|sl S 1 bD G G G<|sL aR rfl<|sr 1 rfl<|sE ?_;clear H a;intro a H
 refine k3 _ ?_;clear k3 K3
 refine wp_block ?_
 refine loop_st (X:=Nat) (R0:=_) [2,3,8] H rfl (fun s=>[(4,.int .i64 (bsum (shwS hz sw ws (⟨th,tw⟩:Trl)) s)),(9,.int .i64 (s:Int))]) (fun s=>[]) (fun g s=>s≤sw.length∧g+s=sw.length) (sw.length) 0 ?_ (S.sel [0,1] G G) (H.keep [4,9,2,3,8] rfl) ?_
 · exact ⟨by omega,by omega⟩
 clear H S a
 intro g1 x1 a w1 hp S H K4 k4
 obtain ⟨s,rfl⟩:∃ y,y=x1:=⟨_,rfl⟩
 refine sS H fun K5 k5=>sr 1 rfl<|sE ?_;clear H a;intro a H
 refine k5 _ ?_;clear k5 K5
 refine wp_seq_k fun K6 k6=>?_
 refine condL H rfl (fun hc1=>?_) (fun hc1=>?_)
 ·skip
  refine wp_skip ?_
  refine k6 _ _ ?_
  refine wp_seq_k fun K7 k7=>?_
  refine wp_block ?_
  refine sS H fun K8 k8=>sr 2 rfl<|sE ?_;clear H a;intro a H
  refine k8 _ ?_;clear k8 K8
  have hpk:0≤(1:Int)*2^((s:Nat):Int).toNat∧(1:Int)*2^((s:Nat):Int).toNat≤4095:=by have:=pwc (h:=s) (by omega);omega
  replace S:=S.drew
  refine seq_wq [(0,true),(1,true),(2,true),(3,true),(4,false)] (by kernel_rfl) (by kernel_rfl) (S.sel [0,1] G G) fun K9 k9=>?_
  refine qF H<|qd rfl (fun _ S=>(aC bR bO rfl S (i:=1) G G))<|qd rfl (fun _ S=>(aC oH gR rfl S (i:=0) G G))<|qr 1 rfl<|qd rfl (fun _ S=>cY G G (by omega) (by omega) (by unfold i64ok;omega))<|qK ?_;clear H a;intro a H
  refine aS rfl ?_
  refine aA H G G Tryd.func35 G G (Bu hz sw SA scp ws QA qc OA oc th tw _ _ (hsw.now S) (hws.now S) (fun k hk=>(hof k hk).now S) V hto hpk) ?_;clear H a
  rintro _ _ a ⟨rfl,S2⟩ H
  replace S:=S.call S2;clear S2
  refine wpList_nil (And.intro (S.sel [0,1] G G) ?_)
  refine bK ?_
  refine k9 _ _ ?_
  clear k9 K9
  refine cond_ H rfl (fun hc2=>?_) (fun hc2=>?_)
  ·skip
   try simp only [o1,o2,o3,o4,o5,o6,o7,o8,o9,oa] at hc2
   have hpk2:=pwc (h:=s) (by omega)
   have hbl:=mF (shwS hz sw ws (⟨th,tw⟩:Trl)) (n:=s) (by omega)
   replace H:=H.keep [2,3,4,5,8,9] rfl
   refine sO H<|sr 2 rfl<|sd (cY G G (by omega) (by omega) (by unfold i64ok;omega))<|sd (pJ G G hbl (by omega) Fz)<|sr 1 rfl<|sE ?_;clear H a;intro a H
   refine k7 _ _ ?_
   refine sO H<|sd (aK G G (by unfold i64ok;omega))<|sr 1 rfl<|sE ?_;clear H a;intro a H
   have hb9:shwS hz sw ws (⟨th,tw⟩:Trl) s=true:=hc2
   rw [xO hb9] at H
   exact k4 (g1-1) (s+1) a _ (by omega) (⟨by omega,by omega⟩) (S.sel [0,1] G G) (H.keep [4,9,2,3,8] rfl)
  try simp only [o1,o2,o3,o4,o5,o6,o7,o8,o9,oa] at hc2
  refine wp_skip ?_
  refine k7 _ _ ?_
  refine sO H<|sd (aK G G (by unfold i64ok;omega))<|sr 1 rfl<|sE ?_;clear H a;intro a H
  have hb9:shwS hz sw ws (⟨th,tw⟩:Trl) s=false:=hc2
  rw [xP hb9] at H
  exact k4 (g1-1) (s+1) a _ (by omega) (⟨by omega,by omega⟩) (S.sel [0,1] G G) (H.keep [4,9,2,3,8] rfl)
 refine wp_exit ?_
 refine k2 _ _ ?_
 obtain rfl:s=sw.length:=by omega
 replace H:=H.keep [4] rfl
 refine sS H fun K13 k13=>sr 2 rfl<|sE ?_;clear H a;intro a H
 refine k13 _ ?_;clear k13 K13
 refine wp_ret ?_
 refine ret1 (fn:=Tryd.f24) rfl H rfl ?_
 exact ⟨rfl,(S.sel [] G G)⟩
theorem Jr (hz:Int) (sw:List Int) (SA:Option Addr) (scp:Nat) (ws:List Wr) (QA:Option Addr) (qc:Nat) (OA:Nat→Option Addr) (oc:Nat→Nat) (tl:List Trl) (TA:Option Addr) (tc:Nat) (w:World) (hsw:InS w noF 1 SA sw.length (icl sw)) (hws:InS w noF 2 QA ws.length (cI ws OA oc)) (hof:∀ k,k<ws.length→InS w noF 1 (OA k) (ws.getD k Wr.zero).of.length (icl (ws.getD k Wr.zero).of)) (htl:InS w noF 2 TA tl.length (gN tl)) (htn:tl.length≤9223372036854775807) (V:CirV hz sw ws) (htl2:tl.length≤12∧∀ k,k<tl.length→tlOk hz ws.length (tl.getD k Trl.zero)=true) :
    Calls Tryd.prog 20 [.agg [.int .i64 hz,.slice SA sw.length scp,.slice QA ws.length qc].toArray,.slice TA tl.length tc].toArray w (Ret (fun u w'=>∃ (A9:Option Addr) (c9:Nat) (wh:Int),u = .tuple #[.slice A9 tl.length c9,.int .i64 wh]∧St w noF [ownM 3 1 A9 tl.length c9 (icl (tl.map (shwN hz sw ws)))] w')):=by
 have hns:=V.nsw
 have hhz:=V.hzb
 refine enter Tryd.func20 rfl Tryd.ntmps20 rfl (fun a H=>?_)
 have S:=St.start w
 refine seq_list fun K1 k1=>?_
 refine aQ H rfl S G G ?_;clear H a S;intro b2 _ a hb2 hbw2 S H
 refine ls 2 H<|sr 2 rfl<|sE ?_;clear H a;intro a H
 refine k1 _ _ ?_;clear k1 K1
 refine wp_seq_k fun K2 k2=>?_
 refine sS H fun K3 k3=>sr 1 rfl<|sL fU rfl<|sr 1 rfl<|sE ?_;clear H a;intro a H
 refine k3 _ ?_;clear k3 K3
 refine wp_block ?_
 replace S:=S.newNil 3 1 (icl (tl.map (shwN hz sw ws)))
 refine loop_st (X:=Nat×Option Addr×Nat×Int) (R0:=_) [2,9,10] H rfl (fun ⟨i,A9,c9,wh⟩=>[(4,.slice A9 i c9),(5,.int .i64 wh),(11,.int .i64 (i:Int))]) (fun ⟨i,A9,c9,wh⟩=>[ownM 3 1 A9 i c9 (icl (tl.map (shwN hz sw ws)))]) (fun g ⟨i,A9,c9,wh⟩=>i≤tl.length∧g+i=tl.length∧0≤wh∧wh≤4095) (tl.length) (0,none,0,0) ?_ (S.sel [0,1] G G) (H.keep [4,5,11,2,9,10] rfl) ?_
 · exact ⟨by omega,by omega,by decide,by decide⟩
 clear H S a
 intro g1 x1 a w1 hp S H K4 k4
 obtain ⟨i,A9,c9,wh⟩:=x1
 dsimp only at hp S H
 refine sS H fun K5 k5=>sr 1 rfl<|sE ?_;clear H a;intro a H
 refine k5 _ ?_;clear k5 K5
 refine wp_seq_k fun K6 k6=>?_
 refine condL H rfl (fun hc1=>?_) (fun hc1=>?_)
 ·skip
  refine wp_skip ?_
  refine k6 _ _ ?_
  refine wp_seq_k fun K7 k7=>?_
  refine wp_block ?_
  refine seq_list fun K8 k8=>?_
  refine ls 2 H<|si fU gR G G (htl.adr (by omega)) (by omega)<|sd ((aZ oH gR rfl S htl (by omega) (by omega)))<|sE ?_;clear H a;intro a H
  refine aI H rfl S yW ?_;clear H a S;intro b7 _ a hb7 hbw7 S H
  refine aD H S (i:=0) G G G G gR G G ?_
  clear H a S;intro _ a S H
  refine k8 _ _ ?_;clear k8 K8
  refine seq_list fun K9 k9=>?_
  refine ls 2 H<|sd ((aC bR bO rfl S (i:=2) G G))<|sd ((aC oH gR rfl S (i:=0) G G))<|sE ?_;clear H a;intro a H
  refine aA H G G Tryd.func24 G G (rA hz sw SA scp ws QA qc OA oc (tl.getD i Trl.zero).haz (tl.getD i Trl.zero).wire _ (hsw.now S) (hws.now S) (fun k hk=>(hof k hk).now S) V (Lc (by omega) (htl2.2 i (by omega)))) ?_;clear H a
  rintro _ _ a ⟨rfl,S2⟩ H
  replace S:=S.call S2;clear S2
  rw [show (⟨(tl.getD i Trl.zero).haz,(tl.getD i Trl.zero).wire⟩:Trl)=(tl.getD i Trl.zero) from rfl] at H
  refine ls 1 H<|sr 1 rfl<|sE ?_;clear H a;intro a H
  refine k9 _ _ ?_;clear k9 K9
  replace H:=H.keep [2,4,5,8,9,10,11] rfl
  refine seq_list fun K10 k10=>?_
  refine ls 2 H<|sr 2 rfl<|sE ?_;clear H a;intro a H
  refine aX H rfl S aR bE fO G G G G G G G G G ?_;clear H a S;intro A1 _ a hA1 S H
  refine cG H rfl S aR bE fO oR G G (i:=2) G G G (ownM.inS S (i:=0) rfl) (fC (one rfl)) (by omega) (by omega) ?_;clear H a S;intro A2 c2 _ a S H
  replace S:=S.recell (i:=2) rfl (cell':=icl (tl.map (shwN hz sw ws))) (oW (one (congrArg (Value.int .i64) (tB (by omega)).symm)))
  refine ls 1 H<|sr 1 rfl<|sE ?_;clear H a;intro a H
  refine k10 _ _ ?_;clear k10 K10
  have hsb:=nN (hz:=hz) (sw:=sw) (ws:=ws) (t:=(tl.getD i Trl.zero)) (by omega)
  refine sO H<|sr 2 rfl<|sd (qZ G G (by omega) (by omega))<|sr 1 rfl<|sE ?_;clear H a;intro a H
  refine k7 _ _ ?_
  replace H:=H.keep [2,4,5,9,10,11] rfl
  refine sO H<|sd (aK G G (by unfold i64ok;omega))<|sr 1 rfl<|sE ?_;clear H a;intro a H
  exact k4 (g1-1) (i+1,_,_,_) a _ (by omega) (⟨by omega,by omega,zQ (by omega) hsb⟩) (S.sel [2,3] G G) (H.keep [4,5,11,2,9,10] rfl)
 refine wp_exit ?_
 refine k2 _ _ ?_
 obtain rfl:i=tl.length:=by omega
 refine sS H fun K13 k13=>sr 4 rfl<|sE ?_;clear H a;intro a H
 refine k13 _ ?_;clear k13 K13
 refine wp_ret ?_
 refine ret2 (fn:=Tryd.f20) rfl H G G ?_
 exact ⟨_,_,_,rfl,(S.sel [0] G G)⟩
theorem Js (n:Nat) (gap:Int) (NV:List Int) (VA:Option Addr) (vc:Nat) (w:World) (hv:InS w noF 1 VA NV.length (icl NV)) (hvl:1≤NV.length∧NV.length≤1000) (hn:n≤12) (hg:1≤gap∧gap≤60) :
    Calls Tryd.prog 21 [.int .i64 (n:Int),.int .i64 gap,.slice VA NV.length vc].toArray w (Ret (fun u w'=>∃ (a9 b9:Int) (g9:Bool),u = .tuple #[.int .i64 a9,.int .i64 b9,.bool g9]∧(g9=true→gapP NV n gap)∧St w noF [] w')):=by
 have hgt:((gap.toNat:Nat):Int)=gap:=by omega
 refine enter Tryd.func21 rfl Tryd.ntmps21 rfl (fun a H=>?_)
 have S:=St.start w
 refine sS H fun K1 k1=>sr 3 rfl<|sE ?_;clear H a;intro a H
 refine k1 _ ?_;clear k1 K1
 refine wp_seq_k fun K2 k2=>?_
 refine sS H fun K3 k3=>sr 2 rfl<|sE ?_;clear H a;intro a H
 refine k3 _ ?_;clear k3 K3
 refine wp_block ?_
 refine loop_st (X:=Nat) (R0:=_) [1,2,11] H rfl (fun s=>[(12,.int .i64 (s:Int))]) (fun s=>[]) (fun g s=>s≤n∧g+s=n∧∀ z,z<s→∀ m,m<NV.length→∃ k:Nat,(k:Int)<gap∧NV.getD ((m+k)%NV.length) 0/2^z%2=1) (n) 0 ?_ (S.sel [] G G) (H.keep [12,1,2,11] rfl) ?_
 · exact ⟨by omega,by omega,fun k hk=>absurd hk (Nat.not_lt_zero k)⟩
 clear H S a
 intro g1 x1 a w1 hp S H K4 k4
 obtain ⟨s,rfl⟩:∃ y,y=x1:=⟨_,rfl⟩
 obtain ⟨hsn,hgs,hS⟩:=hp
 refine sS H fun K5 k5=>sr 1 rfl<|sE ?_;clear H a;intro a H
 refine k5 _ ?_;clear k5 K5
 refine wp_seq_k fun K6 k6=>?_
 refine condL H rfl (fun hc1=>?_) (fun hc1=>?_)
 ·skip
  refine wp_skip ?_
  refine k6 _ _ ?_
  refine wp_seq_k fun K7 k7=>?_
  refine wp_block ?_
  refine sS H fun K8 k8=>sr 2 rfl<|sE ?_;clear H a;intro a H
  refine k8 _ ?_;clear k8 K8
  refine sS H fun K9 k9=>sr 1 rfl<|sL aR rfl<|sr 1 rfl<|sE ?_;clear H a;intro a H
  refine k9 _ ?_;clear k9 K9
  refine wp_block ?_
  refine loop_st (X:=Nat) (R0:=_) [1,2,11,12,16] H rfl (fun m=>[(6,.int .i64 (s:Int)),(17,.int .i64 (m:Int))]) (fun m=>[]) (fun g m=>m≤NV.length∧g+m=NV.length∧∀ z,z<m→∃ k:Nat,(k:Int)<gap∧NV.getD ((z+k)%NV.length) 0/2^s%2=1) (NV.length) 0 ?_ (S.sel [] G G) (H.keep [6,17,1,2,11,12,16] rfl) ?_
  · exact ⟨by omega,by omega,fun k hk=>absurd hk (Nat.not_lt_zero k)⟩
  clear H S a
  intro g2 x2 a w2 hp S H K10 k10
  obtain ⟨m,rfl⟩:∃ y,y=x2:=⟨_,rfl⟩
  obtain ⟨hml,hgm,hM⟩:=hp
  refine sS H fun K11 k11=>sr 1 rfl<|sE ?_;clear H a;intro a H
  refine k11 _ ?_;clear k11 K11
  refine wp_seq_k fun K12 k12=>?_
  refine condL H rfl (fun hc2=>?_) (fun hc2=>?_)
  ·skip
   refine wp_skip ?_
   refine k12 _ _ ?_
   refine wp_seq_k fun K13 k13=>?_
   refine wp_block ?_
   refine sS H fun K14 k14=>sr 2 rfl<|sE ?_;clear H a;intro a H
   refine k14 _ ?_;clear k14 K14
   refine sS H fun K15 k15=>sr 1 rfl<|sE ?_;clear H a;intro a H
   refine k15 _ ?_;clear k15 K15
   refine wp_seq_k fun K16 k16=>?_
   refine sS H fun K17 k17=>sr 2 rfl<|sE ?_;clear H a;intro a H
   refine k17 _ ?_;clear k17 K17
   refine wp_block ?_
   refine loop_st (X:=Nat×Bool) (R0:=_) [1,2,6,7,11,12,16,17,20] H rfl (fun ⟨k,mb⟩=>[(9,.bool mb),(21,.int .i64 (k:Int))]) (fun ⟨k,mb⟩=>[]) (fun g ⟨k,mb⟩=>(k:Int)≤gap∧g+k=gap.toNat∧(mb=true→∃ k:Nat,(k:Int)<gap∧NV.getD ((m+k)%NV.length) 0/2^s%2=1)) (gap.toNat) (0,false) ?_ (S.sel [] G G) (H.keep [9,21,1,2,6,7,11,12,16,17,20] rfl) ?_
   · exact ⟨by omega,by omega,fun h=>by cases h⟩
   clear H S a
   intro g3 x3 a w3 hp S H K18 k18
   obtain ⟨k,mb⟩:=x3
   dsimp only at hp S H
   refine sS H fun K19 k19=>sr 1 rfl<|sE ?_;clear H a;intro a H
   refine k19 _ ?_;clear k19 K19
   refine wp_seq_k fun K20 k20=>?_
   refine condL H rfl (fun hc3=>?_) (fun hc3=>?_)
   ·skip
    refine wp_skip ?_
    refine k20 _ _ ?_
    refine wp_seq_k fun K21 k21=>?_
    refine wp_block ?_
    refine sS H fun K22 k22=>sr 2 rfl<|sE ?_;clear H a;intro a H
    refine k22 _ ?_;clear k22 K22
    have hmo:=Mu (a:=(m:Int)+(k:Int)) (n:=NV.length) (by omega) (by omega)
    replace H:=H.keep [1,2,6,7,9,10,11,12,16,17,20,21] rfl
    refine sO H<|sr 2 rfl<|sg 13 1 25 38 false G G (fun hg2=>by
        have hq2:=hg2;try simp only [o1,o2,o3,o4,o5,o6,o7,o8,o9,oa] at hq2
        exact sy hg2<|sr 1 rfl<|sy hg2<|sr 1 rfl<|sy hg2<|sr 1 rfl<|sy hg2<|sd (aK G G (by unfold i64ok;omega))<|sy hg2<|sr 1 rfl<|sy hg2<|sL aR rfl<|sy hg2<|sd (tS G G (by omega) (by omega))<|sy hg2<|sI aR bE G G (hv.adr (by omega)) (by omega) (by omega)<|sy hg2<|slm aF rfl (hv.rd S (by omega) (by omega))<|sy hg2<|sr 1 rfl<|sy hg2<|sd (fM G G (by omega) (by omega))<|sy hg2<|sd (eL G G)<|sy hg2<|sr 1 rfl<|sz 13 G G G)<|so G G G<|sr 1 rfl<|sE ?_;clear H a;intro a H
    refine k21 _ _ ?_
    replace H:=H.keep [1,2,6,7,9,11,12,16,17,20,21] rfl
    refine sO H<|sd (aK G G (by unfold i64ok;omega))<|sr 1 rfl<|sE ?_;clear H a;intro a H
    exact k18 (g3-1) (k+1,_) a _ (by omega) (⟨by omega,by omega,Mw hp.2.2 (by omega)⟩) (S.sel [] G G) (H.keep [9,21,1,2,6,7,11,12,16,17,20] rfl)
   refine wp_exit ?_
   refine k16 _ _ ?_
   refine sS H fun K25 k25=>sr 2 rfl<|sE ?_;clear H a;intro a H
   refine k25 _ ?_;clear k25 K25
   refine cond_ H rfl (fun hc4=>?_) (fun hc4=>?_)
   ·skip
    try simp only [o1,o2,o3,o4,o5,o6,o7,o8,o9,oa] at hc4
    refine sS H fun K26 k26=>sr 5 rfl<|sE ?_;clear H a;intro a H
    refine k26 _ ?_;clear k26 K26
    refine wp_ret ?_
    refine ret3 (fn:=Tryd.f21) rfl H G G G ?_
    exact ⟨_,_,_,rfl,(fun h=>by cases h),(S.sel [] G G)⟩
   try simp only [o1,o2,o3,o4,o5,o6,o7,o8,o9,oa] at hc4
   refine wp_skip ?_
   refine k13 _ _ ?_
   replace H:=H.keep [1,2,6,11,12,16,17] rfl
   refine sO H<|sd (aK G G (by unfold i64ok;omega))<|sr 1 rfl<|sE ?_;clear H a;intro a H
   exact k10 (g2-1) (m+1) a _ (by omega) (⟨by omega,by omega,fun z hz=>if h9:z<m then hM z h9 else by
     obtain rfl:z=m:=by omega
     exact hp.2.2 (by simpa using hc4)⟩) (S.sel [] G G) (H.keep [6,17,1,2,11,12,16] rfl)
  refine wp_exit ?_
  refine k7 _ _ ?_
  refine sO H<|sd (aK G G (by unfold i64ok;omega))<|sr 1 rfl<|sE ?_;clear H a;intro a H
  exact k4 (g1-1) (s+1) a _ (by omega) (⟨by omega,by omega,fun z hz=>if h9:z<s then hS z h9 else by
    obtain rfl:z=s:=by omega
    exact fun m9 hm9=>hM m9 (by omega)⟩) (S.sel [] G G) (H.keep [12,1,2,11] rfl)
 refine wp_exit ?_
 refine k2 _ _ ?_
 refine sS H fun K29 k29=>sr 3 rfl<|sE ?_;clear H a;intro a H
 refine k29 _ ?_;clear k29 K29
 refine wp_ret ?_
 refine ret3 (fn:=Tryd.f21) rfl H G G G ?_
 exact ⟨_,_,_,rfl,(fun _ z hz=>hS z (by omega)),(S.sel [] G G)⟩
theorem Gd (n:Nat) (gap:Int) (NV:List Int) (VA:Option Addr) (vc:Nat) {m:Nat} (hm:NV.length=m) (w:World) (hv:InS w noF 1 VA m (icl NV)) (hvl:1≤m∧m≤1000) (hn:n≤12) (hg:1≤gap∧gap≤60):Calls Tryd.prog 21 [.int .i64 (n:Int),.int .i64 gap,.slice VA m vc].toArray w (Ret (fun u w'=>∃ (a9 b9:Int) (g9:Bool),u = .tuple #[.int .i64 a9,.int .i64 b9,.bool g9]∧(g9=true→gapP NV n gap)∧St w noF [] w')):=by
  subst hm
  exact Js n gap NV VA vc w hv hvl hn hg
theorem qB (hz:Int) (sw:List Int) (SA:Option Addr) (scp:Nat) (ws:List Wr) (QA:Option Addr) (qc:Nat) (OA:Nat→Option Addr) (oc:Nat→Nat) (tl:List Trl) (TA:Option Addr) (tc:Nat) (nl:List (List Int)) (NA:Option Addr) (nc:Nat) (MA:Nat→Option Addr) (mc:Nat→Nat) (gap:Int) (w:World) (hsw:InS w noF 1 SA sw.length (icl sw)) (hws:InS w noF 2 QA ws.length (cI ws OA oc)) (hof:∀ k,k<ws.length→InS w noF 1 (OA k) (ws.getD k Wr.zero).of.length (icl (ws.getD k Wr.zero).of)) (hsn:sw.length≤9223372036854775807) (hwn:ws.length≤9223372036854775807) (hofn:∀ k,k<ws.length→(ws.getD k Wr.zero).of.length≤9223372036854775807) (htl:InS w noF 2 TA tl.length (gN tl)) (htn:tl.length≤9223372036854775807) (hnl:InS w noF 1 NA nl.length (mG nl MA mc)) (hnn:nl.length≤9223372036854775807) (hni:∀ k,k<nl.length→InS w noF 1 (MA k) (nl.getD k []).length (icl (nl.getD k []))) (hnm:∀ k,k<nl.length→(nl.getD k []).length≤9223372036854775807) (hT:trlE hz sw ws tl=0) (hR:rotB nl gap tl.length=true) :
    Calls Tryd.prog 8 [.agg [.int .i64 hz,.slice SA sw.length scp,.slice QA ws.length qc].toArray,.slice TA tl.length tc,.agg [.slice NA nl.length nc,.int .i64 gap].toArray].toArray w (Ret (fun u w'=>∃ (a9 b9:Int) (g9:Bool),u = .tuple #[.int .i64 a9,.int .i64 b9,.bool g9,.int .i64 0]∧(g9=true→gapP (ngL (tl.map (shwN hz sw ws)) nl) sw.length gap)∧St w noF [] w')):=by
 obtain ⟨hR1,hR2,hR3⟩:=xV hR
 obtain ⟨hT1,hT2,hT3⟩:=sZ hT
 have V:=eI (iI hT1)
 have hns:=V.nsw
 have hEb:∀ k,k<(tl.map (shwN hz sw ws)).length→0≤(tl.map (shwN hz sw ws)).getD k 0∧(tl.map (shwN hz sw ws)).getD k 0≤4095:=fun k hk=>by rw [List.length_map] at hk;rw [tB hk];exact nN (by omega)
 have hEl:(tl.map (shwN hz sw ws)).length=tl.length:=List.length_map ..
 refine enter Tryd.func8 rfl Tryd.ntmps8 rfl (fun a H=>?_)
 have S:=St.start w
 refine seq_list fun K1 k1=>?_
 refine aQ H rfl S G G ?_;clear H a S;intro b3 _ a hb3 hbw3 S H
 refine aQ H rfl S G G ?_;clear H a S;intro b5 _ a hb5 hbw5 S H
 refine ls 4 H<|sr 4 rfl<|sE ?_;clear H a;intro a H
 refine k1 _ _ ?_;clear k1 K1
 refine wp_seq_k fun K2 k2=>?_
 replace H:=H.keep [1,3,5] rfl
 refine seq_list fun K3 k3=>?_
 refine ls 3 H<|sd ((aC bR bO rfl S (i:=1) G G))<|sr 1 rfl<|sd ((aC wT Dg rfl S (i:=0) G G))<|sE ?_;clear H a;intro a H
 refine aA H G G Tryd.func19 G G (qA hz sw SA scp ws QA qc OA oc tl TA tc nl NA nc MA mc gap _ (hsw.now S) (hws.now S) (fun k hk=>(hof k hk).now S) hsn hwn hofn (htl.now S) htn (hnl.now S) hnn (fun k hk=>(hni k hk).now S) hnm hT hR) ?_;clear H a
 rintro _ _ a ⟨rfl,S2⟩ H
 replace S:=S.call S2;clear S2
 refine ls 1 H<|sr 1 rfl<|sE ?_;clear H a;intro a H
 refine k3 _ _ ?_;clear k3 K3
 refine sS H fun K4 k4=>sr 2 rfl<|sE ?_;clear H a;intro a H
 refine k4 _ ?_;clear k4 K4
 refine cond_ H rfl (fun hc1=>?_) (fun hc1=>?_)
 ·skip
  skip
  cases hc1
 skip
 refine wp_skip ?_
 refine k2 _ _ ?_
 replace H:=H.keep [1,3,5] rfl
 refine seq_list fun K5 k5=>?_
 refine ls 2 H<|sd ((aC bR bO rfl S (i:=1) G G))<|sr 1 rfl<|sE ?_;clear H a;intro a H
 refine aA H G G Tryd.func20 G G (Jr hz sw SA scp ws QA qc OA oc tl TA tc _ (hsw.now S) (hws.now S) (fun k hk=>(hof k hk).now S) (htl.now S) htn V ⟨hT2,hT3⟩) ?_;clear H a
 rintro _ _ a ⟨EA,ec,wh,rfl,S2⟩ H
 replace S:=S.call S2;clear S2
 refine ls 5 H<|sr 5 rfl<|sE ?_;clear H a;intro a H
 refine k5 _ _ ?_;clear k5 K5
 replace H:=H.keep [3,5,10] rfl
 refine seq_list fun K6 k6=>?_
 refine ls 3 H<|sf eC rfl<|sl S 1 fP G G G<|sL gS rfl<|sE ?_;clear H a;intro a H
 refine jO (n:=nl.length) H rfl S aR bE fO oR rfl (by decide) G G (by omega) (by omega) ?_;clear H a S;intro A1 _ a hA1 S H
 generalize A1=AV at S H
 replace S:=S.recell (i:=0) rfl (cell':=ngC (tl.map (shwN hz sw ws)) nl 0 0) (fun k j _ hj=>by
   obtain rfl:j=0:=by omega
   exact ngC_z.symm)
 refine ls 1 H<|sr 1 rfl<|sE ?_;clear H a;intro a H
 refine k6 _ _ ?_;clear k6 K6
 refine wp_seq_k fun K7 k7=>?_
 refine sS H fun K8 k8=>sf eC rfl<|sl S 2 fP G G G<|sL gS rfl<|sr 1 rfl<|sE ?_;clear H a;intro a H
 refine k8 _ ?_;clear k8 K8
 refine wp_block ?_
 refine loop_st (X:=Nat) (R0:=_) [3,5,10,12,35,36] H rfl (fun i=>[(37,.int .i64 (i:Int))]) (fun i=>[ownM 3 1 AV nl.length nl.length (ngC (tl.map (shwN hz sw ws)) nl i 0)]) (fun g i=>i≤nl.length∧g+i=nl.length) (nl.length) 0 ?_ (S.sel [0,1,2,3] G G) (H.keep [37,3,5,10,12,35,36] rfl) ?_
 · exact ⟨by omega,by omega⟩
 clear H S a
 intro g1 x1 a w1 hp S H K9 k9
 obtain ⟨i,rfl⟩:∃ y,y=x1:=⟨_,rfl⟩
 refine sS H fun K10 k10=>sr 1 rfl<|sE ?_;clear H a;intro a H
 refine k10 _ ?_;clear k10 K10
 refine wp_seq_k fun K11 k11=>?_
 refine condL H rfl (fun hc2=>?_) (fun hc2=>?_)
 ·skip
  refine wp_skip ?_
  refine k11 _ _ ?_
  refine wp_seq_k fun K12 k12=>?_
  refine wp_block ?_
  refine sS H fun K13 k13=>sr 1 rfl<|si gS kY G G (hnl.adr (by omega)) (by omega)<|slm bD rfl (hnl.rd S (by omega) (by omega))<|sr 2 rfl<|sE ?_;clear H a;intro a H
  refine k13 _ ?_;clear k13 K13
  refine sS H fun K14 k14=>sr 1 rfl<|sL aR rfl<|sr 1 rfl<|sE ?_;clear H a;intro a H
  refine k14 _ ?_;clear k14 K14
  refine wp_block ?_
  have hnmi:=hnm i (by omega)
  refine loop_st (X:=Nat) (R0:=_) [3,5,10,12,13,35,36,37,42,43] H rfl (fun q=>[(44,.int .i64 (q:Int))]) (fun q=>[ownM 3 1 AV nl.length nl.length (ngC (tl.map (shwN hz sw ws)) nl i q)]) (fun g q=>q≤(nl.getD i []).length∧g+q=(nl.getD i []).length) ((nl.getD i []).length) 0 ?_ (S.sel [0,1,2,3] G G) (H.keep [44,3,5,10,12,13,35,36,37,42,43] rfl) ?_
  · exact ⟨by omega,by omega⟩
  clear H S a
  intro g2 x2 a w2 hp S H K15 k15
  obtain ⟨q,rfl⟩:∃ y,y=x2:=⟨_,rfl⟩
  refine sS H fun K16 k16=>sr 1 rfl<|sE ?_;clear H a;intro a H
  refine k16 _ ?_;clear k16 K16
  refine wp_seq_k fun K17 k17=>?_
  refine condL H rfl (fun hc3=>?_) (fun hc3=>?_)
  ·skip
   refine wp_skip ?_
   refine k17 _ _ ?_
   refine wp_seq_k fun K18 k18=>?_
   refine wp_block ?_
   refine sS H fun K19 k19=>si aR bE G G ((hni i (by omega)).adr (by omega)) (by omega)<|slm aF rfl ((hni i (by omega)).rd S (by omega) (by omega))<|sr 1 rfl<|sE ?_;clear H a;intro a H
   refine k19 _ ?_;clear k19 K19
   have has:=gM (hR3 i (by omega)) (k:=q) (by omega)
   have hng:=Ga (l:=(nl.getD i [])) hEb q (fun z hz=>by have:=gM (hR3 i (by omega)) (k:=z) (by omega);omega)
   have heb:=hEb ((nl.getD i []).getD q 0).toNat (by omega)
   replace H:=H.keep [3,5,10,12,13,16,35,36,37,42,43,44] rfl
   refine kR 10 (by kernel_rfl) (by kernel_rfl) ?_
   replace S:=S.drew
   refine sF H<|sr 2 rfl<|si aR bE G G (ownM.adr S (i:=0) rfl (by omega)) (by omega)<|sd ((aH aF rfl (ownM.rd S (i:=0) rfl (k:=i) (j:=0) (by omega) (by omega))).to (v' := .int .i64 (nig (tl.map (shwN hz sw ws)) (nl.getD i []) q)) Mt)<|sr 2 rfl<|sI aR bE G G (ownM.adr S (i:=1) rfl (by omega)) (by omega) (by omega)<|slm aF rfl (ownM.rd S (i:=1) rfl (by omega) (by omega))<|sd (qZ G G (by omega) (by omega))<|si aR bE G G (ownM.adr S (i:=0) rfl (by omega)) (by omega)<|sE ?_;clear H a;intro a H
   refine bX H S (i:=0) (kk:=i) G G G (by omega) (by omega) bE rfl ?_
   clear H a S;intro _ a S H
   replace S:=S.recell (i:=0) rfl (cell':=ngC (tl.map (shwN hz sw ws)) nl i (q+1)) (fun k9 j9 _ hj9=>Jo k9 j9 hj9)
   refine k18 _ _ ?_
   replace H:=H.keep [3,5,10,12,13,35,36,37,42,43,44] rfl
   refine sO H<|sd (aK G G (by unfold i64ok;omega))<|sr 1 rfl<|sE ?_;clear H a;intro a H
   exact k15 (g2-1) (q+1) a _ (by omega) (⟨by omega,by omega⟩) (S.sel [0,1,2,3] G G) (H.keep [44,3,5,10,12,13,35,36,37,42,43] rfl)
  refine wp_exit ?_
  refine k12 _ _ ?_
  refine sO H<|sd (aK G G (by unfold i64ok;omega))<|sr 1 rfl<|sE ?_;clear H a;intro a H
  obtain rfl:q=(nl.getD i []).length:=by omega
  rw [Gc] at S
  exact k9 (g1-1) (i+1) a _ (by omega) (⟨by omega,by omega⟩) (S.sel [0,1,2,3] G G) (H.keep [37,3,5,10,12,35,36] rfl)
 refine wp_exit ?_
 refine k7 _ _ ?_
 obtain rfl:i=nl.length:=by omega
 replace S:=S.recell (i:=0) rfl (cell':=icl (ngL (tl.map (shwN hz sw ws)) nl)) (fun p j hp9 _=>Jp p j hp9)
 replace H:=H.keep [3,5,12] rfl
 refine seq_list fun K23 k23=>?_
 refine ls 6 H<|sf dG rfl<|sl S 3 bD G G G<|sL aR rfl<|sf jS rfl<|sl S 2 aF G G G<|sr 1 rfl<|sE ?_;clear H a;intro a H
 refine aA H G G Tryd.func21 G G (Gd sw.length gap (ngL (tl.map (shwN hz sw ws)) nl) AV nl.length tD _ (ownM.inS S (i:=0) rfl) (by omega) (by omega) (by omega)) ?_;clear H a
 rintro _ _ a ⟨a9,b9,g9,rfl,hg9,S2⟩ H
 replace S:=S.call S2;clear S2
 refine ls 7 H<|sr 7 rfl<|sE ?_;clear H a;intro a H
 refine k23 _ _ ?_;clear k23 K23
 replace H:=H.keep [6,7,8] rfl
 refine sS H fun K24 k24=>sr 7 rfl<|sE ?_;clear H a;intro a H
 refine k24 _ ?_;clear k24 K24
 refine wp_ret ?_
 refine ret4 (fn:=Tryd.f8) rfl H G G G G ?_
 exact ⟨_,_,_,rfl,hg9,(S.sel [] G G)⟩
end
end Go.Proofs.YtinghmelkmblmaaDoor
