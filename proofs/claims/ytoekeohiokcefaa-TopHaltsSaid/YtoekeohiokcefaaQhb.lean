/- Part 2 of the proof. -/
import Derived.Test.YtoekeohiokcefaaQha
namespace Go.Proofs.Ytoekeohiokcefaa
open Go.RowKit
set_option linter.unusedVariables false
set_option linter.unusedSimpArgs false
set_option maxRecDepth 100000
set_option maxHeartbeats 4000000
section
theorem rI {l:List Int} {x:Int} {v:Value} (hv:v = .int .i64 x):∀ k j,k<l.length+1→j<1→capp l.length (icl l) (fun k' j=>([[v]].getD k' []).getD j undef) k j=icl (l++[x]) k j:=by
  subst hv
  intro k j hk hj
  unfold capp icl
  by_cases h:k<l.length
  · rw [if_pos h]
    simp only [List.getD_eq_getElem?_getD,List.getElem?_append_left h]
  · rw [if_neg h]
    obtain rfl:k=l.length:=by omega
    obtain rfl:j=0:=by omega
    simp
theorem pwc {h:Nat} (hh:h<12):0≤(1:Int)*2^(h:Int).toNat∧(1:Int)*2^(h:Int).toNat≤2048:=by
  rw [Int.toNat_natCast,Int.one_mul]
  have h8:2^h≤2048:=Nat.le_trans (Nat.pow_le_pow_right (by omega) (show h≤11 by omega)) (by decide)
  have e:(2:Int)^h=((2^h:Nat):Int):=(Int.natCast_pow 2 h).symm
  rw [e]
  exact ⟨Int.natCast_nonneg _,Int.ofNat_le.2 h8⟩
def wkN (hz:Int) (sw:List Int) (ws:List Wr) (cl:Int):Nat→List Int
  | 0=>[]
  | h+1=>if wireB sw ws (1*2^(h:Int).toNat) cl 0 ws.length (Int.toNat 0)=true then wkN hz sw ws cl h++[(h:Int)] else wkN hz sw ws cl h
theorem mI {hz cl:Int} {sw:List Int} {ws:List Wr}:∀ h,(wkN hz sw ws cl h).length≤h:=fun h=>by
  induction h with
  | zero=>exact Nat.le_refl _
  | succ h ih=>rw [wkN];split <;> (try rw [List.length_append,List.length_singleton]) <;> omega
def critN (hz:Int) (sw:List Int) (ws:List Wr):Nat→List Int
  | 0=>[]
  | s+1=>if 0<(wkN hz sw ws (1*2^(s:Int).toNat) hz.toNat).length then critN hz sw ws s++[(s:Int)] else critN hz sw ws s
theorem oF {hz:Int} {sw:List Int} {ws:List Wr}:∀ h,(critN hz sw ws h).length≤h:=fun h=>by
  induction h with
  | zero=>exact Nat.le_refl _
  | succ h ih=>rw [critN];split <;> (try rw [List.length_append,List.length_singleton]) <;> omega
theorem one {p:Nat→Prop} (h0:p 0):∀ j,j<1→p j:=by
  intro j hj
  have:j=0:=by omega
  subst this
  exact h0
theorem lO {sz:Nat} {vs:List Value} (h:∀ j,j<sz→(vs.getD j undef).oneCell'=true):∀ k j,k<1→j<sz→(([vs].getD k []).getD j undef).oneCell'=true:=by
  intro k j hk hj
  have e:k=0:=by omega
  subst e
  exact h j hj
theorem rJ (hz:Int) (sw:List Int) (SA:Option Addr) (sc:Nat) (ws:List Wr) (QA:Option Addr) (qc:Nat) (OA:Nat→Option Addr) (oc:Nat→Nat) (cl:Int) (w:World) (hsw:InS w noF 1 SA sw.length (icl sw)) (hws:InS w noF 2 QA ws.length (cV ws OA oc)) (hof:∀ k,k<ws.length→InS w noF 1 (OA k) (ws.getD k Wr.zero).of.length (icl (ws.getD k Wr.zero).of)) (V:CirV hz sw ws) (hcl:0≤cl∧cl≤4095) :
    Calls Try.prog 52 [.agg [.int .i64 hz,.slice SA sw.length sc,.slice QA ws.length qc].toArray,.int .i64 cl].toArray w (Ret (fun u w'=>∃ A' c',u = .slice A' (wkN hz sw ws cl hz.toNat).length c'∧St w noF [ownM 3 1 A' (wkN hz sw ws cl hz.toNat).length c' (icl (wkN hz sw ws cl hz.toNat))] w')):=by
 have hzb:=V.hzb
 have hnw:=V.nws
 refine enter Try.func52 rfl Try.ntmps52 rfl (fun a H=>?_)
 have S:=St.start w
 refine seq_list fun K1 k1=>?_
 refine aV H rfl S G G ?_;clear H a S;intro b2 _ a hb2 hbw2 S H
 refine ls 1 H<|sr 1 rfl<|sE ?_;clear H a;intro a H
 refine k1 _ _ ?_;clear k1 K1
 refine wp_seq_k fun K2 k2=>?_
 refine sS H fun K3 k3=>sf iL rfl<|sl S 0 aE G G G<|sr 1 rfl<|sE ?_;clear H a;intro a H
 refine k3 _ ?_;clear k3 K3
 refine wp_block ?_
 replace S:=S.newNil 3 1 (icl [])
 refine loop_st (X:=Nat×List Int×Option Addr×Nat) (R0:=_) [1,2,7] H rfl (fun ⟨h,L9,A9,c9⟩=>[(4,.slice A9 L9.length c9),(8,.int .i64 (h:Int))]) (fun ⟨h,L9,A9,c9⟩=>[ownM 3 1 A9 L9.length c9 (icl L9)]) (fun g ⟨h,L9,A9,c9⟩=>(h:Int)≤hz∧(g:Int)+h=hz∧L9=wkN hz sw ws cl h) (hz.toNat) (0,[],none,0) ?_ (S.sel [0,1] G G) (H.keep [4,8,1,2,7] rfl) ?_
 · exact ⟨by omega,by omega,rfl⟩
 clear H S a
 intro g1 x1 a w1 hp S H K4 k4
 obtain ⟨h,L9,A9,c9⟩:=x1
 dsimp only at hp S H
 refine sS H fun K5 k5=>sr 1 rfl<|sE ?_;clear H a;intro a H
 refine k5 _ ?_;clear k5 K5
 refine wp_seq_k fun K6 k6=>?_
 refine condL H rfl (fun hc1=>?_) (fun hc1=>?_)
 ·skip
  refine wp_skip ?_
  refine k6 _ _ ?_
  refine wp_seq_k fun K7 k7=>?_
  refine wp_block ?_
  refine sS H fun K8 k8=>sr 2 rfl<|sE ?_;clear H a;intro a H
  refine k8 _ ?_;clear k8 K8
  have hsh:=pwc (h:=h) (by omega)
  have hL9:L9.length≤h:=by rw [hp.2.2];exact mI h
  replace S:=S.drew
  refine seq_wq [(0,true),(1,true),(2,true),(3,true),(4,true),(5,false)] (by kernel_rfl) (by kernel_rfl) (S.sel [0,1] G G) fun K9 k9=>?_
  refine qF H<|qd rfl (fun _ S=>(aD cJ bY rfl S (i:=1) G G))<|qr 1 rfl<|qd rfl (fun _ S=>eB G G (by omega) (by omega) (by unfold i64ok;omega))<|qr 1 rfl<|qd rfl (fun _ S=>aO yN G G)<|qK ?_;clear H a;intro a H
  refine aT rfl ?_
  refine aA H G G Try.func40 G G (rH hz sw SA sc ws QA qc OA oc (1*2^(h:Int).toNat) cl 0 V (by omega) hcl (by omega) ws.length 0 _ (by omega) (by omega) (hsw.now S) (hws.now S) (fun k hk=>(hof k hk).now S)) ?_;clear H a
  rintro _ _ a ⟨rfl,S2⟩ H
  replace S:=S.call S2;clear S2
  refine wpList_nil (And.intro (S.sel [0,1] G G) ?_)
  refine bM ?_
  refine k9 _ _ ?_
  clear k9 K9
  refine cond_ H rfl (fun hc2=>?_) (fun hc2=>?_)
  ·skip
   try simp only [o1,o2,o3,o4,o5,o6,o7,o8,o9,oa] at hc2
   replace H:=H.keep [1,2,4,5,7,8] rfl
   refine one_list ?_
   refine ls 2 H<|sr 2 rfl<|sE ?_;clear H a;intro a H
   refine bB H rfl S aM bC eZ G G G G G G G G G ?_;clear H a S;intro A1 _ a hA1 S H
   refine cK H rfl S aM bC eZ mA G G (i:=1) G G G (ownM.inS S (i:=0) rfl) (lO (one rfl)) (by omega) (by omega) ?_;clear H a S;intro A2 c2 _ a S H
   replace S:=S.recell (i:=1) rfl (cell':=icl (L9++[(h:Int)])) (rI rfl)
   rw [show L9.length+1=(L9++[(h:Int)]).length by simp] at H S
   refine ls 1 H<|sr 1 rfl<|sE ?_;clear H a;intro a H
   refine k7 _ _ ?_
   refine sO H<|sd (aH G G (by unfold i64ok;omega))<|sr 1 rfl<|sE ?_;clear H a;intro a H
   exact k4 (g1-1) (h+1,_,_,_) a _ (by omega) (⟨by omega,by omega,by rw [wkN];first|rw [if_pos hc2,←hp.2.2]|rw [if_neg (by simpa using hc2),←hp.2.2]⟩) (S.sel [1,2] G G) (H.keep [4,8,1,2,7] rfl)
  try simp only [o1,o2,o3,o4,o5,o6,o7,o8,o9,oa] at hc2
  refine wp_skip ?_
  refine k7 _ _ ?_
  refine sO H<|sd (aH G G (by unfold i64ok;omega))<|sr 1 rfl<|sE ?_;clear H a;intro a H
  exact k4 (g1-1) (h+1,_,_,_) a _ (by omega) (⟨by omega,by omega,by rw [wkN];first|rw [if_pos hc2,←hp.2.2]|rw [if_neg (by simpa using hc2),←hp.2.2]⟩) (S.sel [0,1] G G) (H.keep [4,8,1,2,7] rfl)
 refine wp_exit ?_
 refine k2 _ _ ?_
 replace H:=H.keep [4] rfl
 refine sS H fun K13 k13=>sr 2 rfl<|sE ?_;clear H a;intro a H
 refine k13 _ ?_;clear k13 K13
 refine wp_ret ?_
 refine ret1 (fn:=Try.f52) rfl H rfl ?_
 have hh9:h=hz.toNat:=by omega
 rw [hh9] at hp
 rw [←hp.2.2]
 exact ⟨_,_,rfl,(S.sel [0] G G)⟩
end
section
theorem lowA_next {l:List Int} {lo:Int} {k:Nat}:lowA l lo (k+1)=l.getD k 0+1:=by unfold lowA;rw [if_neg (by omega)];rfl
theorem pwh {hz:Int} (h:0≤hz∧hz≤12):0≤(1:Int)*2^hz.toNat∧(1:Int)*2^hz.toNat≤4096:=by
  rw [Int.one_mul]
  have h8:2^hz.toNat≤4096:=Nat.le_trans (Nat.pow_le_pow_right (by omega) (show hz.toNat≤12 by omega)) (by decide)
  have e:(2:Int)^hz.toNat=((2^hz.toNat:Nat):Int):=(Int.natCast_pow 2 hz.toNat).symm
  rw [e]
  exact ⟨Int.natCast_nonneg _,Int.ofNat_le.2 h8⟩
def bcl (l:List Bool):Nat→Nat→Value:=fun k _ => .bool (l.getD k false)
theorem vY {l:List Bool} {k:Nat} (hk:k<l.length) (h:(l.take k).all (fun b=>b)=true) (h2:l.getD k false=true):(l.take (k+1)).all (fun b=>b)=true:=by
  rw [List.getD_eq_getElem?_getD,List.getElem?_eq_getElem hk] at h2
  rw [List.take_succ_eq_append_getElem hk,List.all_append,h]
  simpa using h2
theorem Bg {l:List Bool} {k:Nat} (hk:k<l.length) (h:l.getD k false=false):l.all (fun b=>b)=false:=by
  rw [List.getD_eq_getElem?_getD,List.getElem?_eq_getElem hk] at h
  cases hb:l.all (fun b=>b) with
  | false=>rfl
  | true=>have:=List.all_eq_true.1 hb _ (List.getElem_mem hk);simp at h;rw [h] at this;cases this
theorem jP (n many:Int) (w:World) (hm:0≤many∧many≤12) :
    Calls Try.prog 39 [.int .i64 n,.int .i64 many].toArray w (Ret (fun u w'=>u = .bool (setB n many)∧St w noF [] w')):=by
 have hpw:=pwh hm
 refine enter Try.func39 rfl Try.ntmps39 rfl (fun a H=>?_)
 have S:=St.start w
 refine sS H fun K1 k1=>sr 1 rfl<|sE ?_;clear H a;intro a H
 refine k1 _ ?_;clear k1 K1
 replace H:=H.keep [0,1] rfl
 refine sS H fun K2 k2=>sr 3 rfl<|sg 4 2 7 11 true G G (fun hg3=>sy hg3<|sr 1 rfl<|sy hg3<|sr 1 rfl<|sy hg3<|sd (eB G G (by omega) (by omega) (by unfold i64ok;omega))<|sy hg3<|sr 1 rfl<|sz 4 G G G)<|sa G G G<|sr 1 rfl<|sE ?_;clear H a;intro a H
 refine k2 _ ?_;clear k2 K2
 refine wp_ret ?_
 refine ret1 (fn:=Try.f39) rfl H rfl ?_
 exact ⟨rfl,(S.sel [] G G)⟩
theorem tR (n:Int) (w:World) :
    Calls Try.prog 70 [.int .i64 n].toArray w (Ret (fun u w'=>u = .bool (!decide (n=1))∧St w noF [] w')):=by
 refine enter Try.func70 rfl Try.ntmps70 rfl (fun a H=>?_)
 have S:=St.start w
 refine sS H fun K1 k1=>sr 1 rfl<|sE ?_;clear H a;intro a H
 refine k1 _ ?_;clear k1 K1
 refine sS H fun K2 k2=>sr 3 rfl<|sE ?_;clear H a;intro a H
 refine k2 _ ?_;clear k2 K2
 refine wp_ret ?_
 refine ret1 (fn:=Try.f70) rfl H rfl ?_
 exact ⟨rfl,(S.sel [] G G)⟩
theorem gX (l:List Int) (A:Option Addr) (cp:Nat) (lo hi:Int) (w:World) (hl:InS w noF 1 A l.length (icl l)) (hn:l.length≤9223372036854775807) (hlo:0≤lo∧lo≤1000) (hhi:0≤hi∧hi≤1000) :
    Calls Try.prog 69 [.slice A l.length cp,.int .i64 lo,.int .i64 hi].toArray w (Ret (fun u w'=>u = .bool (ascB l lo hi)∧St w noF [] w')):=by
 refine enter Try.func69 rfl Try.ntmps69 rfl (fun a H=>?_)
 have S:=St.start w
 refine sS H fun K1 k1=>sr 1 rfl<|sE ?_;clear H a;intro a H
 refine k1 _ ?_;clear k1 K1
 refine wp_seq_k fun K2 k2=>?_
 refine sS H fun K3 k3=>sr 1 rfl<|sL aM rfl<|sr 1 rfl<|sE ?_;clear H a;intro a H
 refine k3 _ ?_;clear k3 K3
 refine wp_block ?_
 refine loop_st (X:=Nat×Int) (R0:=_) [2,9,10] H rfl (fun ⟨k,lw⟩=>[(1,.int .i64 lw),(11,.int .i64 (k:Int))]) (fun ⟨k,lw⟩=>[]) (fun g ⟨k,lw⟩=>k≤l.length∧g+k=l.length∧(0≤lw∧lw≤1000)∧lw=lowA l lo k∧∀ q,q<k→ascP l lo hi q=true) (l.length) (0,lo) ?_ (S.sel [] G G) (H.keep [1,11,2,9,10] rfl) ?_
 · exact ⟨by omega,by omega,by omega,rfl,fun q hq=>absurd hq (Nat.not_lt_zero q)⟩
 clear H S a
 intro g1 x1 a w1 hp S H K4 k4
 obtain ⟨k,lw⟩:=x1
 dsimp only at hp S H
 refine sS H fun K5 k5=>sr 1 rfl<|sE ?_;clear H a;intro a H
 refine k5 _ ?_;clear k5 K5
 refine wp_seq_k fun K6 k6=>?_
 refine condL H rfl (fun hc1=>?_) (fun hc1=>?_)
 ·skip
  refine wp_skip ?_
  refine k6 _ _ ?_
  refine wp_seq_k fun K7 k7=>?_
  refine wp_block ?_
  refine sS H fun K8 k8=>si aM bC G G (hl.adr (by omega)) (by omega)<|slm aE rfl (hl.rd S (by omega) (by omega))<|sr 1 rfl<|sE ?_;clear H a;intro a H
  refine k8 _ ?_;clear k8 K8
  refine wp_seq_k fun K9 k9=>?_
  replace H:=H.keep [1,2,8,9,10,11] rfl
  refine sS H fun K10 k10=>sr 4 rfl<|sg 3 3 18 21 false G G (fun hg4=>sy hg4<|sr 1 rfl<|sy hg4<|sr 1 rfl<|sy hg4<|sr 1 rfl<|sz 3 G G G)<|so G G G<|sE ?_;clear H a;intro a H
  refine k10 _ ?_;clear k10 K10
  refine cond_ H rfl (fun hc2=>?_) (fun hc2=>?_)
  ·skip
   try simp only [o1,o2,o3,o4,o5,o6,o7,o8,o9,oa] at hc2
   have hcx:=hc2
   refine sS H fun K11 k11=>sr 1 rfl<|sE ?_;clear H a;intro a H
   refine k11 _ ?_;clear k11 K11
   refine wp_ret ?_
   refine ret1 (fn:=Try.f69) rfl H rfl ?_
   rw [bV (k:=k) (by omega) (by unfold ascP;rw [←hp.2.2.2.1];exact decide_eq_false (by simp at hcx;omega))];exact ⟨rfl,(S.sel [] G G)⟩
  try simp only [o1,o2,o3,o4,o5,o6,o7,o8,o9,oa] at hc2
  have hcx:=hc2
  refine wp_skip ?_
  refine k9 _ _ ?_
  simp at hcx
  replace H:=H.keep [2,8,9,10,11] rfl
  refine sO H<|sr 1 rfl<|sd (aH G G (by unfold i64ok;omega))<|sr 1 rfl<|sE ?_;clear H a;intro a H
  refine k7 _ _ ?_
  refine sO H<|sd (aH G G (by unfold i64ok;omega))<|sr 1 rfl<|sE ?_;clear H a;intro a H
  exact k4 (g1-1) (k+1,_) a _ (by omega) (⟨by omega,by omega,by omega,lowA_next.symm,fun q hq=>if h9:q<k then hp.2.2.2.2 q h9 else by
        obtain rfl:q=k:=by omega
        unfold ascP;rw [←hp.2.2.2.1];exact decide_eq_true (by omega)⟩) (S.sel [] G G) (H.keep [1,11,2,9,10] rfl)
 refine wp_exit ?_
 refine k2 _ _ ?_
 refine sS H fun K14 k14=>sr 1 rfl<|sE ?_;clear H a;intro a H
 refine k14 _ ?_;clear k14 K14
 refine wp_ret ?_
 refine ret1 (fn:=Try.f69) rfl H rfl ?_
 rw [gT (fun q hq=>hp.2.2.2.2 q (by omega))];exact ⟨rfl,(S.sel [] G G)⟩
theorem tS (l:List Bool) (A:Option Addr) (cp:Nat) (w:World) (hl:InS w noF 1 A l.length (bcl l)) (hn:l.length≤9223372036854775807) :
    Calls Try.prog 100 [.slice A l.length cp,.bool false].toArray w (Ret (fun u w'=>∃ n:Int,u = .int .i64 n∧decide (0≤n)=!(l.all fun b=>b)∧St w noF [] w')):=by
 refine enter Try.func100 rfl Try.ntmps100 rfl (fun a H=>?_)
 have S:=St.start w
 refine sS H fun K1 k1=>sr 1 rfl<|sE ?_;clear H a;intro a H
 refine k1 _ ?_;clear k1 K1
 refine wp_seq_k fun K2 k2=>?_
 refine sS H fun K3 k3=>sr 1 rfl<|sL tL rfl<|sr 1 rfl<|sE ?_;clear H a;intro a H
 refine k3 _ ?_;clear k3 K3
 refine wp_block ?_
 refine loop_st (X:=Nat) (R0:=_) [0,1,7] H rfl (fun k=>[(8,.int .i64 (k:Int))]) (fun k=>[]) (fun g k=>k≤l.length∧g+k=l.length∧(l.take k).all (fun b=>b)=true) (l.length) 0 ?_ (S.sel [] G G) (H.keep [8,0,1,7] rfl) ?_
 · exact ⟨by omega,by omega,rfl⟩
 clear H S a
 intro g1 x1 a w1 hp S H K4 k4
 obtain ⟨k,rfl⟩:∃ y,y=x1:=⟨_,rfl⟩
 refine sS H fun K5 k5=>sr 1 rfl<|sE ?_;clear H a;intro a H
 refine k5 _ ?_;clear k5 K5
 refine wp_seq_k fun K6 k6=>?_
 refine condL H rfl (fun hc1=>?_) (fun hc1=>?_)
 ·skip
  refine wp_skip ?_
  refine k6 _ _ ?_
  refine wp_seq_k fun K7 k7=>?_
  refine wp_block ?_
  refine sS H fun K8 k8=>sr 2 rfl<|sE ?_;clear H a;intro a H
  refine k8 _ ?_;clear k8 K8
  refine sS H fun K9 k9=>sr 3 rfl<|si tL xW G G (hl.adr (by omega)) (by omega)<|slm qZ rfl (hl.rd S (by omega) (by omega))<|sd (lH Try.underlying4 G G)<|sE ?_;clear H a;intro a H
  refine k9 _ ?_;clear k9 K9
  refine cond_ H rfl (fun hc2=>?_) (fun hc2=>?_)
  ·skip
   try simp only [o1,o2,o3,o4,o5,o6,o7,o8,o9,oa] at hc2
   replace H:=H.keep [5] rfl
   refine sS H fun K10 k10=>sr 2 rfl<|sE ?_;clear H a;intro a H
   refine k10 _ ?_;clear k10 K10
   refine wp_ret ?_
   refine ret1 (fn:=Try.f100) rfl H rfl ?_
   exact ⟨_,rfl,by rw [Bg (k:=k) (by omega) (by simpa using hc2)];exact decide_eq_true (by omega),(S.sel [] G G)⟩
  try simp only [o1,o2,o3,o4,o5,o6,o7,o8,o9,oa] at hc2
  refine wp_skip ?_
  refine k7 _ _ ?_
  refine sO H<|sd (aH G G (by unfold i64ok;omega))<|sr 1 rfl<|sE ?_;clear H a;intro a H
  exact k4 (g1-1) (k+1) a _ (by omega) (⟨by omega,by omega,vY (by omega) hp.2.2 (by simpa using hc2)⟩) (S.sel [] G G) (H.keep [8,0,1,7] rfl)
 refine wp_exit ?_
 refine k2 _ _ ?_
 refine sS H fun K12 k12=>sr 1 rfl<|sE ?_;clear H a;intro a H
 refine k12 _ ?_;clear k12 K12
 refine wp_ret ?_
 refine ret1 (fn:=Try.f100) rfl H rfl ?_
 exact ⟨_,rfl,by rw [←List.take_of_length_le (l:=l) (i:=k) (by omega),hp.2.2];rfl,(S.sel [] G G)⟩
theorem nW (l:List Bool) (A:Option Addr) (cp:Nat) (w:World) (hl:InS w noF 1 A l.length (bcl l)) (hn:l.length≤9223372036854775807) :
    Calls Try.prog 66 [.slice A l.length cp,.bool false].toArray w (Ret (fun u w'=>u = .bool (!(l.all fun b=>b))∧St w noF [] w')):=by
 refine enter Try.func66 rfl Try.ntmps66 rfl (fun a H=>?_)
 have S:=St.start w
 refine sS H fun K1 k1=>sr 1 rfl<|sE ?_;clear H a;intro a H
 refine k1 _ ?_;clear k1 K1
 refine seq_list fun K2 k2=>?_
 refine ls 2 H<|sr 2 rfl<|sE ?_;clear H a;intro a H
 refine aA H G G Try.func100 G G (tS l A cp _ (hl.now S) hn) ?_;clear H a
 rintro _ _ a ⟨n,rfl,hn2,S2⟩ H
 replace S:=S.call S2;clear S2
 refine ls 2 H<|sr 2 rfl<|sE ?_;clear H a;intro a H
 refine k2 _ _ ?_;clear k2 K2
 refine wp_ret ?_
 refine ret1 (fn:=Try.f66) rfl H rfl ?_
 exact ⟨congrArg Value.bool hn2,(S.sel [] G G)⟩
end
section
theorem Dd {b0 b1 b2:Bool} {v0 v1 v2:Value} (h0:v0 = .bool b0) (h1:v1 = .bool b1) (h2:v2 = .bool b2):∀ k j,k<3→j<1→([[v0],[v1],[v2]].getD k []).getD j undef=bcl [b0,b1,b2] k j:=by
  subst h0;subst h1;subst h2
  intro k j hk hj
  obtain rfl:j=0:=by omega
  rcases (show k=0∨k=1∨k=2 by omega) with rfl|rfl|rfl <;> rfl
theorem tT (hz:Int) (sw:List Int) (SA:Option Addr) (sc:Nat) (ws:List Wr) (QA:Option Addr) (qc cb:Nat) (n:Int) (w:World) (F:Nat→Prop) (S:St w F [boxM cb 51 [.int .i64 hz,.slice SA sw.length sc,.slice QA ws.length qc]] w) (hhz:0≤hz∧hz≤12) :
    Calls Try.prog 68 [.int .i64 n,.pointer (some ⟨cb,0,none⟩)].toArray w (Ret (fun u w'=>u = .bool (!setB n hz)∧St w F [boxM cb 51 [.int .i64 hz,.slice SA sw.length sc,.slice QA ws.length qc]] w')):=by
 refine enter Try.func68 rfl Try.ntmps68 rfl (fun a H=>?_)
 skip
 refine sS H fun K1 k1=>sr 1 rfl<|sE ?_;clear H a;intro a H
 refine k1 _ ?_;clear k1 K1
 refine seq_list fun K2 k2=>?_
 refine ls 3 H<|sr 1 rfl<|sf iL rfl<|sl S 0 aE G G G<|sE ?_;clear H a;intro a H
 refine aA H G G Try.func39 G G (jP n hz _ hhz) ?_;clear H a
 rintro _ _ a ⟨rfl,S2⟩ H
 replace S:=S.call S2;clear S2
 refine ls 2 H<|sr 2 rfl<|sE ?_;clear H a;intro a H
 refine k2 _ _ ?_;clear k2 K2
 refine wp_ret ?_
 refine ret1 (fn:=Try.f68) rfl H rfl ?_
 exact ⟨rfl,(S.sel [0] G G)⟩
theorem Bh (hz:Int) (sw:List Int) (SA:Option Addr) (sc:Nat) (ws:List Wr) (QA:Option Addr) (qc cb:Nat) (w:World) (F:Nat→Prop) (S:St w F [boxM cb 51 [.int .i64 hz,.slice SA sw.length sc,.slice QA ws.length qc]] w) (hsw:InS w F 1 SA sw.length (icl sw)) (hn:sw.length≤9223372036854775807) (hhz:0≤hz∧hz≤12):Calls Try.prog 67 #[.slice SA sw.length sc,.func (.func 68) #[] #[.pointer (some ⟨cb,0,none⟩)]] w (Ret fun u w'=>u = .bool (sw.any fun n=>!setB n hz)∧St w F [boxM cb 51 [.int .i64 hz,.slice SA sw.length sc,.slice QA ws.length qc]] w'):=by
  have hh:=dV sw SA sc 68 _ [] [.pointer (some ⟨cb,0,none⟩)] (fun n=>!setB n hz) _ w F S hsw hn Try.func68 G G (fun k w' hk S'=>tT hz sw SA sc ws QA qc cb (sw.getD k 0) w' _ S'.startR hhz)
  exact hh
theorem Bi (l:List Int) (A:Option Addr) (cp:Nat) (w:World) (hl:InS w noF 1 A l.length (icl l)) (hn:l.length≤9223372036854775807):Calls Try.prog 67 #[.slice A l.length cp,.func (.func 70) #[] #[]] w (Ret fun u w'=>u = .bool (l.any fun n=>!decide (n=1))∧St w noF [] w'):=by
  have S0:=(St.start w).newNil 3 1 (icl [])
  have hh:=dV l A cp 70 _ [] [] (fun n=>!decide (n=1)) _ w noF S0 hl hn Try.func70 G G (fun k w' hk S'=>nD (tR (l.getD k 0) w') fun v w'' h=>⟨h.1,S'.startR.call h.2⟩)
  exact nD hh fun v w'' h=>⟨h.1,h.2.sel [] rfl rfl⟩
end
section
theorem De {hz:Int} {sw:List Int} {ws:List Wr}:([(decide (1≤hz)&&decide (hz≤8)),(decide (1≤(sw.length:Int))&&decide ((sw.length:Int)≤12)),(decide (1≤(ws.length:Int))&&decide ((ws.length:Int)≤24))].all fun b=>b)=cirSz hz sw ws:=by unfold cirSz;simp only [List.all_cons,List.all_nil,Bool.and_true]
section
variable {hz:Int} {sw:List Int} {ws:List Wr} {i:Nat}
theorem dH (h:cirSz hz sw ws=false):circE hz sw ws=30:=jB (by unfold cirOk;rw [h];rfl)
theorem dI (h:(sw.any fun n=>!setB n hz)=true):circE hz sw ws=30:=jB (by unfold cirOk;rw [h];simp)
theorem aS (hi:i<ws.length) (h:wrOk sw.length ws.length ws i=false):circE hz sw ws=30:=jB (by
  unfold cirOk
  cases hb:(List.range ws.length).all (wrOk sw.length ws.length ws) with
  | false=>simp
  | true=>rw [List.all_eq_true.1 hb i (List.mem_range.2 hi)] at h;cases h)
theorem yS (h:¬ heldN ws 0 ws.length=0):circE hz sw ws=30:=jB (by unfold cirOk;rw [decide_eq_false h];simp)
theorem rK (h:((List.range (ws.length-1)).any fun q=>!decide (heldN ws (q+1) ws.length=1))=true):circE hz sw ws=30:=jB (by unfold cirOk;rw [h];simp)
theorem rL (h1:cirSz hz sw ws=true) (h2:(sw.any fun n=>!setB n hz)=false) (h3:∀ i,i<ws.length→wrOk sw.length ws.length ws i=true) (h4:heldN ws 0 ws.length=0) (h5:((List.range (ws.length-1)).any fun q=>!decide (heldN ws (q+1) ws.length=1))=false):circE hz sw ws=0:=vV (by
  unfold cirOk
  rw [h1,h2,decide_eq_true h4,h5,List.all_eq_true.2 (fun i hi=>h3 i (List.mem_range.1 hi))];rfl)
theorem gU (h:cirSz hz sw ws=true):(1≤hz∧hz≤8)∧(1≤sw.length∧sw.length≤12)∧(1≤ws.length∧ws.length≤24):=by
  unfold cirSz at h
  simp only [Bool.and_eq_true,decide_eq_true_eq] at h
  omega
theorem kT {l:List Int} {k:Nat}:∀ q,0≤cntO l k q∧cntO l k q≤q:=fun q=>by
  induction q with
  | zero=>exact ⟨Int.le_refl _,Int.le_refl _⟩
  | succ q ih=>
    have e:cntO l k (q+1)=cntO l k q+(if l.getD q 0=(k:Int) then 1 else 0):=rfl
    rw [e];split <;> omega
theorem iM {k i:Nat}:heldN ws k (i+1)=heldN ws k i+heldW (ws.getD i Wr.zero) k:=rfl
theorem mJ (k:Nat):∀ i,(∀ q,q<i→wrOk sw.length ws.length ws q=true)→0≤heldN ws k i∧heldN ws k i≤8*i:=fun i=>by
  induction i with
  | zero=>intro _;exact ⟨Int.le_refl _,Int.le_refl _⟩
  | succ i ih=>
    intro h
    have h1:=ih fun q hq=>h q (by omega)
    have h2:=h i (by omega)
    rw [iM]
    unfold heldW
    split
    · omega
    · next hk=>
      unfold wrOk at h2
      rw [if_neg hk] at h2
      split at h2
      · simp only [Bool.and_eq_true,decide_eq_true_eq] at h2
        have:=kT (l:=(ws.getD i Wr.zero).of) (k:=k) (ws.getD i Wr.zero).of.length
        omega
      · cases h2
end
section
variable {sw l:List Int} {ws:List Wr} {i k j q:Nat}
theorem lP (hk:(ws.getD i Wr.zero).kind=1) (h1:(ws.getD i Wr.zero).of.length=1) (h:ascB (ws.getD i Wr.zero).of 0 sw.length=true):wrOk sw.length ws.length ws i=true:=by
  unfold wrOk;rw [if_pos hk,h,decide_eq_true h1];rfl
theorem cG (hk:(ws.getD i Wr.zero).kind=1) (h:¬ ((ws.getD i Wr.zero).of.length:Int)=1∨ascB (ws.getD i Wr.zero).of 0 sw.length=false):wrOk sw.length ws.length ws i=false:=by
  unfold wrOk;rw [if_pos hk]
  rcases h with h|h
  · rw [decide_eq_false (by omega)];rfl
  · rw [h];simp
theorem eG (h1:¬ (ws.getD i Wr.zero).kind=1) (hk:(ws.getD i Wr.zero).kind=2∨(ws.getD i Wr.zero).kind=3) (h2:1≤(ws.getD i Wr.zero).of.length∧(ws.getD i Wr.zero).of.length≤8) (h:ascB (ws.getD i Wr.zero).of ((i:Int)+1) ws.length=true):wrOk sw.length ws.length ws i=true:=by
  unfold wrOk;rw [if_neg h1,if_pos hk,h,decide_eq_true h2];rfl
theorem aZ (h1:¬ (ws.getD i Wr.zero).kind=1) (hk:(ws.getD i Wr.zero).kind=2∨(ws.getD i Wr.zero).kind=3) (h:(((ws.getD i Wr.zero).of.length:Int)<1∨8<((ws.getD i Wr.zero).of.length:Int))∨ascB (ws.getD i Wr.zero).of ((i:Int)+1) ws.length=false):wrOk sw.length ws.length ws i=false:=by
  unfold wrOk;rw [if_neg h1,if_pos hk]
  rcases h with h|h
  · rw [decide_eq_false (by omega)];rfl
  · rw [h];simp
theorem eH (h1:¬ (ws.getD i Wr.zero).kind=1) (h2:¬ (ws.getD i Wr.zero).kind=2) (h3:¬ (ws.getD i Wr.zero).kind=3):wrOk sw.length ws.length ws i=false:=by
  unfold wrOk;rw [if_neg h1,if_neg (fun h=>h.elim h2 h3)]
theorem iC (h1:(ws.getD i Wr.zero).kind=1):heldN ws k i=heldN ws k (i+1):=by rw [iM];unfold heldW;rw [if_pos h1,Int.add_zero]
theorem gC (h1:¬ (ws.getD i Wr.zero).kind=1) (hq:q=(ws.getD i Wr.zero).of.length):heldN ws k i+cntO (ws.getD i Wr.zero).of k q=heldN ws k (i+1):=by rw [iM];unfold heldW;rw [if_neg h1,hq]
theorem kU (hx:0≤l.getD q 0) (hj:j<1):cput (fun k _ => .int .i64 (heldN ws k i+cntO l k q)) (l.getD q 0).toNat 0 (.int .i64 (heldN ws (l.getD q 0).toNat i+cntO l (l.getD q 0).toNat q+1)) k j = .int .i64 (heldN ws k i+cntO l k (q+1)):=by
  have e:cntO l k (q+1)=cntO l k q+(if l.getD q 0=(k:Int) then 1 else 0):=rfl
  unfold cput
  rw [e]
  by_cases h:k=(l.getD q 0).toNat
  · rw [if_pos ⟨h,by omega⟩,if_pos (by omega),←h,Int.add_assoc]
  · rw [if_neg (fun h9=>h h9.1),if_neg (by omega),Int.add_zero]
end
theorem jQ {ws:List Wr}:((List.range (ws.length-1)).map fun q=>heldN ws (q+1) ws.length).length=ws.length-1:=by rw [List.length_map,List.length_range]
theorem oG {ws:List Wr}:(((List.range (ws.length-1)).map fun q=>heldN ws (q+1) ws.length).any fun n=>!decide (n=1))=(List.range (ws.length-1)).any fun q=>!decide (heldN ws (q+1) ws.length=1):=by rw [List.any_map];rfl
theorem yT {ws:List Wr} {q:Nat} (h:q<ws.length-1):((List.range (ws.length-1)).map fun q=>heldN ws (q+1) ws.length).getD q 0=heldN ws (q+1) ws.length:=by
  rw [List.getD_eq_getElem?_getD,List.getElem?_eq_getElem (by rw [jQ];exact h),Option.getD_some,List.getElem_map,List.getElem_range]
theorem yU {ws:List Wr} {w:World} {A:Option Addr} (h:InS w noF 1 A ws.length (fun k _ => .int .i64 (heldN ws k ws.length))) (hw:1≤ws.length):InS w noF 1 (cutA A ws.length 1 1) ((List.range (ws.length-1)).map fun q=>heldN ws (q+1) ws.length).length (icl ((List.range (ws.length-1)).map fun q=>heldN ws (q+1) ws.length)):=by
  rw [jQ]
  refine (h.cut (lo:=1) (hi:=ws.length) hw (Nat.le_refl _) (Nat.le_refl _)).congr fun k j hk hj=>?_
  unfold icl
  rw [yT hk,Nat.add_comm 1 k]
theorem oH (hz:Int) (sw:List Int) (SA:Option Addr) (sc:Nat) (ws:List Wr) (QA:Option Addr) (qc:Nat) (OA:Nat→Option Addr) (oc:Nat→Nat) (w:World) (hsw:InS w noF 1 SA sw.length (icl sw)) (hws:InS w noF 2 QA ws.length (cV ws OA oc)) (hof:∀ k,k<ws.length→InS w noF 1 (OA k) (ws.getD k Wr.zero).of.length (icl (ws.getD k Wr.zero).of)) (hsn:sw.length≤9223372036854775807) (hwn:ws.length≤9223372036854775807) (hofn:∀ k,k<ws.length→(ws.getD k Wr.zero).of.length≤9223372036854775807) :
    Calls Try.prog 38 [.agg [.int .i64 hz,.slice SA sw.length sc,.slice QA ws.length qc].toArray].toArray w (Ret (fun u w'=>u = .int .i64 (circE hz sw ws)∧St w noF [] w')):=by
 refine enter Try.func38 rfl Try.ntmps38 rfl (fun a H=>?_)
 have S:=St.start w
 refine seq_list fun K1 k1=>?_
 refine aV H rfl S G G ?_;clear H a S;intro b1 _ a hb1 hbw1 S H
 refine ls 1 H<|sr 1 rfl<|sE ?_;clear H a;intro a H
 refine k1 _ _ ?_;clear k1 K1
 replace H:=H.keep [1] rfl
 refine seq_list fun K2 k2=>?_
 refine ls 28 H<|sf iL rfl<|sl S 0 aE G G G<|sr 2 rfl<|sg 3 3 12 15 true G G (fun hg4=>sy hg4<|sf iL rfl<|sy hg4<|sl S 0 aE G G G<|sy hg4<|sr 1 rfl<|sz 3 G G G)<|sa G G G<|sf dC rfl<|sl S 0 aW G G G<|sL aM rfl<|sr 2 rfl<|sg 4 12 21 25 true G G (fun hg13=>sy hg13<|sf dC rfl<|sy hg13<|sl S 0 aW G G G<|sy hg13<|sL aM rfl<|sy hg13<|sr 1 rfl<|sz 4 G G G)<|sa G G G<|sf cW rfl<|sl S 0 eA G G G<|sL fA rfl<|sr 2 rfl<|sg 4 22 31 35 true G G (fun hg23=>sy hg23<|sf cW rfl<|sy hg23<|sl S 0 eA G G G<|sy hg23<|sL fA rfl<|sy hg23<|sr 1 rfl<|sz 4 G G G)<|sa G G G<|sE ?_;clear H a;intro a H
 refine bB H rfl S tL xW Ev G G G G G G G G G ?_;clear H a S;intro A1 _ a hA1 S H
 replace S:=S.recell (i:=0) rfl (cell':=bcl [(decide (1≤hz)&&decide (hz≤8)),(decide (1≤(sw.length:Int))&&decide ((sw.length:Int)≤12)),(decide (1≤(ws.length:Int))&&decide ((ws.length:Int)≤24))]) (Dd G G G)
 refine ls 1 H<|sr 1 rfl<|sE ?_;clear H a;intro a H
 refine k2 _ _ ?_;clear k2 K2
 refine wp_seq_k fun K3 k3=>?_
 replace H:=H.keep [1,3] rfl
 refine seq_list fun K4 k4=>?_
 refine ls 1 H<|sr 1 rfl<|sE ?_;clear H a;intro a H
 refine aA H G G Try.func66 G G (nW [(decide (1≤hz)&&decide (hz≤8)),(decide (1≤(sw.length:Int))&&decide ((sw.length:Int)≤12)),(decide (1≤(ws.length:Int))&&decide ((ws.length:Int)≤24))] _ _ _ (ownM.inS S (i:=0) rfl) (by simp)) ?_;clear H a
 rintro _ _ a ⟨rfl,S2⟩ H
 replace S:=S.call S2;clear S2
 rw [De] at H
 refine ls 1 H<|sr 1 rfl<|sE ?_;clear H a;intro a H
 apply bT (i:=2) (g:=40) (t:=44) (b:=false) 4 H S G G (by kernel_rfl) (by kernel_rfl) G G
 case h1=>
  intro hg3
  refine ls 3 H<|sy hg3<|sf dC rfl<|sy hg3<|sl S 1 aW G G G<|sy hg3<|sr 1 rfl<|sE ?_;intro a H
  refine cL H G G (by assumption) ?_
  have S1:=(S.sel [1] G G)
  refine aA H G G Try.func67 G G (Bh hz sw SA sc ws QA qc b1 _ _ S1.startR (hsw.nowR S1) hsn (by have:=gU (hz:=hz) (sw:=sw) (ws:=ws) (by simpa using hg3);omega)) ?_
  rintro _ _ a ⟨rfl,S2⟩ H
  replace S:=(S.sel [1,0] G G).callR (M:=[_]) S2;clear S1 S2
  exact wpList_nil ⟨H.strip 4 G G,(S.sel [1,0] G G)⟩
 clear H a S;intro a _ H S
 refine ls 1 H<|so G G G<|sE ?_;clear H a;intro a H
 refine k4 _ _ ?_;clear k4 K4
 refine cond_ H rfl (fun hc1=>?_) (fun hc1=>?_)
 ·skip
  try simp only [o1,o2,o3,o4,o5,o6,o7,o8,o9,oa] at hc1
  refine sS H fun K5 k5=>sr 1 rfl<|sE ?_;clear H a;intro a H
  refine k5 _ ?_;clear k5 K5
  refine wp_ret ?_
  refine ret1 (fn:=Try.f38) rfl H rfl ?_
  rw [show circE hz sw ws=30 from hc1.elim dH dI];exact ⟨rfl,(S.sel [] G G)⟩
 try simp only [o1,o2,o3,o4,o5,o6,o7,o8,o9,oa] at hc1
 refine wp_skip ?_
 refine k3 _ _ ?_
 obtain ⟨hS1,hS2,hS3⟩:=gU hc1.1
 replace H:=H.keep [1] rfl
 refine seq_list fun K6 k6=>?_
 refine ls 3 H<|sf cW rfl<|sl S 1 eA G G G<|sL fA rfl<|sE ?_;clear H a;intro a H
 refine gA (n:=ws.length) H rfl S aM bC eZ mA rfl (by decide) G G (by omega) (by omega) ?_;clear H a S;intro A2 _ a hA2 S H
 generalize A2=AH at S H
 replace S:=S.recell (i:=0) rfl (cell':=fun k _ => .int .i64 (heldN ws k 0)) (fun k j _ hj=>by
   obtain rfl:j=0:=by omega
   rfl)
 refine ls 1 H<|sr 1 rfl<|sE ?_;clear H a;intro a H
 refine k6 _ _ ?_;clear k6 K6
 refine wp_seq_k fun K7 k7=>?_
 refine sS H fun K8 k8=>sf cW rfl<|sl S 2 eA G G G<|sL fA rfl<|sr 1 rfl<|sE ?_;clear H a;intro a H
 refine k8 _ ?_;clear k8 K8
 refine wp_block ?_
 refine loop_st (X:=Nat) (R0:=_) [1,4,51,52] H rfl (fun i=>[(53,.int .i64 (i:Int))]) (fun i=>[ownM 3 1 AH ws.length ws.length (fun k _ => .int .i64 (heldN ws k i))]) (fun g i=>i≤ws.length∧g+i=ws.length∧∀ q,q<i→wrOk sw.length ws.length ws q=true) (ws.length) 0 ?_ (S.sel [0,1,2] G G) (H.keep [53,1,4,51,52] rfl) ?_
 · exact ⟨by omega,by omega,fun q hq=>absurd hq (Nat.not_lt_zero q)⟩
 clear H S a
 intro g1 x1 a w1 hp S H K9 k9
 obtain ⟨i,rfl⟩:∃ y,y=x1:=⟨_,rfl⟩
 obtain ⟨hi1,hi2,hwk⟩:=hp
 refine sS H fun K10 k10=>sr 1 rfl<|sE ?_;clear H a;intro a H
 refine k10 _ ?_;clear k10 K10
 refine wp_seq_k fun K11 k11=>?_
 refine condL H rfl (fun hc2=>?_) (fun hc2=>?_)
 ·skip
  refine wp_skip ?_
  refine k11 _ _ ?_
  refine wp_seq_k fun K12 k12=>?_
  refine wp_block ?_
  refine seq_list fun K13 k13=>?_
  refine ls 3 H<|sr 1 rfl<|si fA iY G G (hws.adr (by omega)) (by omega)<|sd ((cS tI iY rfl S hws (by omega) (by omega)))<|sE ?_;clear H a;intro a H
  refine aI H rfl S rF ?_;clear H a S;intro b6 _ a hb6 hbw6 S H
  refine ls 1 H<|sr 1 rfl<|sE ?_;clear H a;intro a H
  refine aC H S (i:=0) G G G G iY G G ?_
  clear H a S;intro _ a S H
  refine k13 _ _ ?_;clear k13 K13
  refine sS H fun K14 k14=>sf pI rfl<|sl S 0 aE G G G<|sE ?_;clear H a;intro a H
  refine k14 _ ?_;clear k14 K14
  refine wp_block ?_
  replace H:=H.keep [1,4,5,6,51,52,53,59] rfl
  refine sS H fun K15 k15=>sr 2 rfl<|sE ?_;clear H a;intro a H
  refine k15 _ ?_;clear k15 K15
  refine condE H rfl (fun hc3=>?_) (fun hc3=>?_)
  ·skip
   replace H:=H.keep [1,4,6,51,52,53] rfl
   refine seq_list fun K16 k16=>?_
   refine ls 5 H<|sf bR rfl<|sl S 0 aW G G G<|sL aM rfl<|sr 2 rfl<|sE ?_;clear H a;intro a H
   apply bT (i:=4) (g:=66) (t:=73) (b:=false) 7 H S G G (by kernel_rfl) (by kernel_rfl) G G
   case h1=>
    intro hg5
    refine ls 5 H<|sy hg5<|sf bR rfl<|sy hg5<|sl S 0 aW G G G<|sy hg5<|sf dC rfl<|sy hg5<|sl S 3 aW G G G<|sy hg5<|sL aM rfl<|sE ?_;intro a H
    refine cL H G G (by assumption) ?_
    refine aA H G G Try.func69 G G (gX (ws.getD i Wr.zero).of (OA i) (oc i) _ _ _ ((hof i (by omega)).now S) (hofn i (by omega)) (by omega) (by omega)) ?_
    rintro _ _ a ⟨rfl,S2⟩ H
    replace S:=S.call S2;clear S2
    refine ls 1 H<|sy hg5<|sr 1 rfl<|sE ?_;intro a H
    exact wpList_nil ⟨H.strip 7 G G,(S.sel [0,1,2,3] G G)⟩
   clear H a S;intro a _ H S
   refine ls 1 H<|so G G G<|sE ?_;clear H a;intro a H
   refine k16 _ _ ?_;clear k16 K16
   refine cond_ H rfl (fun hc4=>?_) (fun hc4=>?_)
   ·skip
    try simp only [o1,o2,o3,o4,o5,o6,o7,o8,o9,oa] at hc4
    replace H:=H.keep [] rfl
    refine sS H fun K17 k17=>sr 1 rfl<|sE ?_;clear H a;intro a H
    refine k17 _ ?_;clear k17 K17
    refine wp_ret ?_
    refine ret1 (fn:=Try.f38) rfl H rfl ?_
    rw [aS (by omega) (cG hc3 hc4)];exact ⟨rfl,(S.sel [] G G)⟩
   try simp only [o1,o2,o3,o4,o5,o6,o7,o8,o9,oa] at hc4
   refine wp_skip ?_
   refine k12 _ _ ?_
   replace S:=S.recell (i:=1) rfl (cell':=fun k _ => .int .i64 (heldN ws k (i+1))) (fun k j _ _=>congrArg (Value.int .i64) (by first|exact iC hc3|exact gC hc3 (by omega)))
   refine sO H<|sd (aH G G (by unfold i64ok;omega))<|sr 1 rfl<|sE ?_;clear H a;intro a H
   exact k9 (g1-1) (i+1) a _ (by omega) (⟨by omega,by omega,fun q hq=>if h9:q<i then hwk q h9 else by
         obtain rfl:q=i:=by omega
         first|exact lP hc3 (by omega) hc4.2|exact eG hc3 (.inl hc5) (by omega) hc7.2|exact eG hc3 (.inr hc9) (by omega) hc10.2⟩) (S.sel [1,2,3] G G) (H.keep [53,1,4,51,52] rfl)
  refine wp_seq_k fun K19 k19=>?_
  refine sS H fun K20 k20=>sr 2 rfl<|sE ?_;clear H a;intro a H
  refine k20 _ ?_;clear k20 K20
  refine condE H rfl (fun hc5=>?_) (fun hc5=>?_)
  ·skip
   refine wp_skip ?_
   refine k19 _ _ ?_
   refine cond_ H rfl (fun hc6=>?_) (fun hc6=>?_)
   ·skip
    try simp only [o1,o2,o3,o4,o5,o6,o7,o8,o9,oa] at hc6
    refine wp_seq_k fun K21 k21=>?_
    replace H:=H.keep [1,4,5,6,51,52,53] rfl
    refine seq_list fun K22 k22=>?_
    refine ls 11 H<|sf bR rfl<|sl S 0 aW G G G<|sL aM rfl<|sr 2 rfl<|sg 4 4 82 86 false G G (fun hg5=>sy hg5<|sf bR rfl<|sy hg5<|sl S 0 aW G G G<|sy hg5<|sL aM rfl<|sy hg5<|sr 1 rfl<|sz 4 G G G)<|so G G G<|sr 1 rfl<|sE ?_;clear H a;intro a H
    apply bT (i:=10) (g:=88) (t:=97) (b:=false) 9 H S G G (by kernel_rfl) (by kernel_rfl) G G
    case h1=>
     intro hg11
     refine ls 7 H<|sy hg11<|sf bR rfl<|sy hg11<|sl S 0 aW G G G<|sy hg11<|sr 1 rfl<|sy hg11<|sd (aH G G (by unfold i64ok;omega))<|sy hg11<|sf cW rfl<|sy hg11<|sl S 3 eA G G G<|sy hg11<|sL fA rfl<|sE ?_;intro a H
     refine cL H G G (by assumption) ?_
     refine aA H G G Try.func69 G G (gX (ws.getD i Wr.zero).of (OA i) (oc i) _ _ _ ((hof i (by omega)).now S) (hofn i (by omega)) (by omega) (by omega)) ?_
     rintro _ _ a ⟨rfl,S2⟩ H
     replace S:=S.call S2;clear S2
     refine ls 1 H<|sy hg11<|sr 1 rfl<|sE ?_;intro a H
     exact wpList_nil ⟨H.strip 9 G G,(S.sel [0,1,2,3] G G)⟩
    clear H a S;intro a _ H S
    refine ls 1 H<|so G G G<|sE ?_;clear H a;intro a H
    refine k22 _ _ ?_;clear k22 K22
    refine cond_ H rfl (fun hc7=>?_) (fun hc7=>?_)
    ·skip
     try simp only [o1,o2,o3,o4,o5,o6,o7,o8,o9,oa] at hc7
     replace H:=H.keep [] rfl
     refine sS H fun K23 k23=>sr 1 rfl<|sE ?_;clear H a;intro a H
     refine k23 _ ?_;clear k23 K23
     refine wp_ret ?_
     refine ret1 (fn:=Try.f38) rfl H rfl ?_
     rw [aS (by omega) (aZ hc3 (.inl hc5) hc7)];exact ⟨rfl,(S.sel [] G G)⟩
    try simp only [o1,o2,o3,o4,o5,o6,o7,o8,o9,oa] at hc7
    refine wp_skip ?_
    refine k21 _ _ ?_
    refine sS H fun K24 k24=>sf bR rfl<|sl S 0 aW G G G<|sL aM rfl<|sr 1 rfl<|sE ?_;clear H a;intro a H
    refine k24 _ ?_;clear k24 K24
    refine wp_block ?_
    replace S:=S.recell (i:=1) rfl (cell':=fun k _ => .int .i64 (heldN ws k i+cntO (ws.getD i Wr.zero).of k 0)) (fun k j _ hj=>congrArg (Value.int .i64) (Int.add_zero _).symm)
    refine loop_st (X:=Nat) (R0:=_) [1,4,51,52,53,100,101] H rfl (fun q=>[(102,.int .i64 (q:Int))]) (fun q=>[ownM 3 1 AH ws.length ws.length (fun k _ => .int .i64 (heldN ws k i+cntO (ws.getD i Wr.zero).of k q))]) (fun g q=>q≤(ws.getD i Wr.zero).of.length∧g+q=(ws.getD i Wr.zero).of.length) ((ws.getD i Wr.zero).of.length) 0 ?_ (S.sel [1,0,2,3] G G) (H.keep [102,1,4,51,52,53,100,101] rfl) ?_
    · exact ⟨by omega,by omega⟩
    clear H S a
    intro g2 x2 a w2 hp S H K25 k25
    obtain ⟨q,rfl⟩:∃ y,y=x2:=⟨_,rfl⟩
    refine sS H fun K26 k26=>sr 1 rfl<|sE ?_;clear H a;intro a H
    refine k26 _ ?_;clear k26 K26
    refine wp_seq_k fun K27 k27=>?_
    refine condL H rfl (fun hc8=>?_) (fun hc8=>?_)
    ·skip
     refine wp_skip ?_
     refine k27 _ _ ?_
     refine wp_seq_k fun K28 k28=>?_
     refine wp_block ?_
     refine sS H fun K29 k29=>si aM bC G G ((hof i (by omega)).adr (by omega)) (by omega)<|slm aE rfl ((hof i (by omega)).rd S (by omega) (by omega))<|sr 1 rfl<|sE ?_;clear H a;intro a H
     refine k29 _ ?_;clear k29 K29
     have hhb:=mJ (sw:=sw) (ws:=ws) ((ws.getD i Wr.zero).of.getD q 0).toNat i hwk
     have hcb:=kT (l:=(ws.getD i Wr.zero).of) (k:=((ws.getD i Wr.zero).of.getD q 0).toNat) q
     have hxb:(i:Int)+1≤(ws.getD i Wr.zero).of.getD q 0∧(ws.getD i Wr.zero).of.getD q 0<(ws.length:Int):=by first|exact kA hc7.2 (k:=q) (by omega)|exact kA hc10.2 (k:=q) (by omega)
     replace H:=H.keep [1,4,8,51,52,53,100,101,102] rfl
     refine one_list ?_
     refine ls 6 H<|sr 2 rfl<|sI aM bC G G (ownM.adr S (i:=0) rfl (by omega)) (by omega) (by omega)<|slm aE rfl (ownM.rd S (i:=0) rfl (by omega) (by omega))<|sd (aH G G (by unfold i64ok;omega))<|sI aM bC G G (ownM.adr S (i:=0) rfl (by omega)) (by omega) (by omega)<|sE ?_;clear H a;intro a H
     refine bP H S (i:=0) G G G (by omega) (by omega) bC rfl ?_
     clear H a S;intro _ a S H
     replace S:=S.recell (i:=0) rfl (cell':=fun k _ => .int .i64 (heldN ws k i+cntO (ws.getD i Wr.zero).of k (q+1))) (fun k j _ hj=>kU (by omega) hj)
     refine k28 _ _ ?_
     refine sO H<|sd (aH G G (by unfold i64ok;omega))<|sr 1 rfl<|sE ?_;clear H a;intro a H
     exact k25 (g2-1) (q+1) a _ (by omega) (⟨by omega,by omega⟩) (S.sel [0,1,2,3] G G) (H.keep [102,1,4,51,52,53,100,101] rfl)
    refine wp_exit ?_
    refine k12 _ _ ?_
    replace S:=S.recell (i:=0) rfl (cell':=fun k _ => .int .i64 (heldN ws k (i+1))) (fun k j _ _=>congrArg (Value.int .i64) (by first|exact iC hc3|exact gC hc3 (by omega)))
    replace H:=H.keep [1,4,51,52,53] rfl
    refine sO H<|sd (aH G G (by unfold i64ok;omega))<|sr 1 rfl<|sE ?_;clear H a;intro a H
    exact k9 (g1-1) (i+1) a _ (by omega) (⟨by omega,by omega,fun q hq=>if h9:q<i then hwk q h9 else by
          obtain rfl:q=i:=by omega
          first|exact lP hc3 (by omega) hc4.2|exact eG hc3 (.inl hc5) (by omega) hc7.2|exact eG hc3 (.inr hc9) (by omega) hc10.2⟩) (S.sel [0,2,3] G G) (H.keep [53,1,4,51,52] rfl)
   try simp only [o1,o2,o3,o4,o5,o6,o7,o8,o9,oa] at hc6
   refine sS H fun K33 k33=>sr 1 rfl<|sE ?_;clear H a;intro a H
   refine k33 _ ?_;clear k33 K33
   refine wp_ret ?_
   refine ret1 (fn:=Try.f38) rfl H rfl ?_
   exact absurd hc5 hc6
  refine sO H<|sr 2 rfl<|sE ?_;clear H a;intro a H
  refine k19 _ _ ?_
  refine condE H rfl (fun hc9=>?_) (fun hc9=>?_)
  ·skip
   refine wp_seq_k fun K35 k35=>?_
   replace H:=H.keep [1,4,5,6,51,52,53] rfl
   refine seq_list fun K36 k36=>?_
   refine ls 11 H<|sf bR rfl<|sl S 0 aW G G G<|sL aM rfl<|sr 2 rfl<|sg 4 4 82 86 false G G (fun hg5=>sy hg5<|sf bR rfl<|sy hg5<|sl S 0 aW G G G<|sy hg5<|sL aM rfl<|sy hg5<|sr 1 rfl<|sz 4 G G G)<|so G G G<|sr 1 rfl<|sE ?_;clear H a;intro a H
   apply bT (i:=10) (g:=88) (t:=97) (b:=false) 9 H S G G (by kernel_rfl) (by kernel_rfl) G G
   case h1=>
    intro hg11
    refine ls 7 H<|sy hg11<|sf bR rfl<|sy hg11<|sl S 0 aW G G G<|sy hg11<|sr 1 rfl<|sy hg11<|sd (aH G G (by unfold i64ok;omega))<|sy hg11<|sf cW rfl<|sy hg11<|sl S 3 eA G G G<|sy hg11<|sL fA rfl<|sE ?_;intro a H
    refine cL H G G (by assumption) ?_
    refine aA H G G Try.func69 G G (gX (ws.getD i Wr.zero).of (OA i) (oc i) _ _ _ ((hof i (by omega)).now S) (hofn i (by omega)) (by omega) (by omega)) ?_
    rintro _ _ a ⟨rfl,S2⟩ H
    replace S:=S.call S2;clear S2
    refine ls 1 H<|sy hg11<|sr 1 rfl<|sE ?_;intro a H
    exact wpList_nil ⟨H.strip 9 G G,(S.sel [0,1,2,3] G G)⟩
   clear H a S;intro a _ H S
   refine ls 1 H<|so G G G<|sE ?_;clear H a;intro a H
   refine k36 _ _ ?_;clear k36 K36
   refine cond_ H rfl (fun hc10=>?_) (fun hc10=>?_)
   ·skip
    try simp only [o1,o2,o3,o4,o5,o6,o7,o8,o9,oa] at hc10
    replace H:=H.keep [] rfl
    refine sS H fun K37 k37=>sr 1 rfl<|sE ?_;clear H a;intro a H
    refine k37 _ ?_;clear k37 K37
    refine wp_ret ?_
    refine ret1 (fn:=Try.f38) rfl H rfl ?_
    rw [aS (by omega) (aZ hc3 (.inr hc9) hc10)];exact ⟨rfl,(S.sel [] G G)⟩
   try simp only [o1,o2,o3,o4,o5,o6,o7,o8,o9,oa] at hc10
   refine wp_skip ?_
   refine k35 _ _ ?_
   refine sS H fun K38 k38=>sf bR rfl<|sl S 0 aW G G G<|sL aM rfl<|sr 1 rfl<|sE ?_;clear H a;intro a H
   refine k38 _ ?_;clear k38 K38
   refine wp_block ?_
   replace S:=S.recell (i:=1) rfl (cell':=fun k _ => .int .i64 (heldN ws k i+cntO (ws.getD i Wr.zero).of k 0)) (fun k j _ hj=>congrArg (Value.int .i64) (Int.add_zero _).symm)
   refine loop_st (X:=Nat) (R0:=_) [1,4,51,52,53,100,101] H rfl (fun q=>[(102,.int .i64 (q:Int))]) (fun q=>[ownM 3 1 AH ws.length ws.length (fun k _ => .int .i64 (heldN ws k i+cntO (ws.getD i Wr.zero).of k q))]) (fun g q=>q≤(ws.getD i Wr.zero).of.length∧g+q=(ws.getD i Wr.zero).of.length) ((ws.getD i Wr.zero).of.length) 0 ?_ (S.sel [1,0,2,3] G G) (H.keep [102,1,4,51,52,53,100,101] rfl) ?_
   · exact ⟨by omega,by omega⟩
   clear H S a
   intro g3 x3 a w3 hp S H K39 k39
   obtain ⟨q,rfl⟩:∃ y,y=x3:=⟨_,rfl⟩
   refine sS H fun K40 k40=>sr 1 rfl<|sE ?_;clear H a;intro a H
   refine k40 _ ?_;clear k40 K40
   refine wp_seq_k fun K41 k41=>?_
   refine condL H rfl (fun hc11=>?_) (fun hc11=>?_)
   ·skip
    refine wp_skip ?_
    refine k41 _ _ ?_
    refine wp_seq_k fun K42 k42=>?_
    refine wp_block ?_
    refine sS H fun K43 k43=>si aM bC G G ((hof i (by omega)).adr (by omega)) (by omega)<|slm aE rfl ((hof i (by omega)).rd S (by omega) (by omega))<|sr 1 rfl<|sE ?_;clear H a;intro a H
    refine k43 _ ?_;clear k43 K43
    have hhb:=mJ (sw:=sw) (ws:=ws) ((ws.getD i Wr.zero).of.getD q 0).toNat i hwk
    have hcb:=kT (l:=(ws.getD i Wr.zero).of) (k:=((ws.getD i Wr.zero).of.getD q 0).toNat) q
    have hxb:(i:Int)+1≤(ws.getD i Wr.zero).of.getD q 0∧(ws.getD i Wr.zero).of.getD q 0<(ws.length:Int):=by first|exact kA hc7.2 (k:=q) (by omega)|exact kA hc10.2 (k:=q) (by omega)
    replace H:=H.keep [1,4,8,51,52,53,100,101,102] rfl
    refine one_list ?_
    refine ls 6 H<|sr 2 rfl<|sI aM bC G G (ownM.adr S (i:=0) rfl (by omega)) (by omega) (by omega)<|slm aE rfl (ownM.rd S (i:=0) rfl (by omega) (by omega))<|sd (aH G G (by unfold i64ok;omega))<|sI aM bC G G (ownM.adr S (i:=0) rfl (by omega)) (by omega) (by omega)<|sE ?_;clear H a;intro a H
    refine bP H S (i:=0) G G G (by omega) (by omega) bC rfl ?_
    clear H a S;intro _ a S H
    replace S:=S.recell (i:=0) rfl (cell':=fun k _ => .int .i64 (heldN ws k i+cntO (ws.getD i Wr.zero).of k (q+1))) (fun k j _ hj=>kU (by omega) hj)
    refine k42 _ _ ?_
    refine sO H<|sd (aH G G (by unfold i64ok;omega))<|sr 1 rfl<|sE ?_;clear H a;intro a H
    exact k39 (g3-1) (q+1) a _ (by omega) (⟨by omega,by omega⟩) (S.sel [0,1,2,3] G G) (H.keep [102,1,4,51,52,53,100,101] rfl)
   refine wp_exit ?_
   refine k12 _ _ ?_
   replace S:=S.recell (i:=0) rfl (cell':=fun k _ => .int .i64 (heldN ws k (i+1))) (fun k j _ _=>congrArg (Value.int .i64) (by first|exact iC hc3|exact gC hc3 (by omega)))
   replace H:=H.keep [1,4,51,52,53] rfl
   refine sO H<|sd (aH G G (by unfold i64ok;omega))<|sr 1 rfl<|sE ?_;clear H a;intro a H
   exact k9 (g1-1) (i+1) a _ (by omega) (⟨by omega,by omega,fun q hq=>if h9:q<i then hwk q h9 else by
         obtain rfl:q=i:=by omega
         first|exact lP hc3 (by omega) hc4.2|exact eG hc3 (.inl hc5) (by omega) hc7.2|exact eG hc3 (.inr hc9) (by omega) hc10.2⟩) (S.sel [0,2,3] G G) (H.keep [53,1,4,51,52] rfl)
  refine sS H fun K47 k47=>sr 1 rfl<|sE ?_;clear H a;intro a H
  refine k47 _ ?_;clear k47 K47
  refine wp_ret ?_
  refine ret1 (fn:=Try.f38) rfl H rfl ?_
  rw [aS (by omega) (eH hc3 hc5 hc9)];exact ⟨rfl,(S.sel [] G G)⟩
 refine wp_exit ?_
 refine k7 _ _ ?_
 refine wp_seq_k fun K48 k48=>?_
 obtain rfl:i=ws.length:=by omega
 replace H:=H.keep [4] rfl
 refine seq_list fun K49 k49=>?_
 refine ls 5 H<|sr 1 rfl<|sI aM bC G G (ownM.adr S (i:=0) rfl (by omega)) (by omega) (by omega)<|slm aE rfl (ownM.rd S (i:=0) rfl (by omega) (by omega))<|sr 2 rfl<|sE ?_;clear H a;intro a H
 apply bT (i:=4) (g:=118) (t:=121) (b:=false) 3 H S G G (by kernel_rfl) (by kernel_rfl) G G
 case h1=>
  intro hg5
  refine ls 2 H<|sy hg5<|sr 1 rfl<|sy hg5<|sd (Does.to (iK aM bC rfl (lo:=1) (hi:=ws.length) (.inr ⟨_,rfl,_,rfl⟩) (.inl ⟨rfl,rfl⟩) (by omega) (by omega)) (show _=Value.slice (cutA AH ws.length 1 1) ((List.range (ws.length-1)).map fun q=>heldN ws (q+1) ws.length).length (ws.length-1) from by rw [jQ]))<|sE ?_;intro a H
  refine cL H G G (by assumption) ?_
  refine aA H G G Try.func67 G G (Bi ((List.range (ws.length-1)).map fun q=>heldN ws (q+1) ws.length) (cutA AH ws.length 1 1) (ws.length-1) _ (yU (ownM.inS S (i:=0) rfl) (by omega)) (by rw [jQ];omega)) ?_
  rintro _ _ a ⟨rfl,S2⟩ H
  replace S:=S.call S2;clear S2
  exact wpList_nil ⟨H.strip 3 G G,(S.sel [0,1,2] G G)⟩
 clear H a S;intro a _ H S
 refine ls 1 H<|so G G G<|sE ?_;clear H a;intro a H
 refine k49 _ _ ?_;clear k49 K49
 refine cond_ H rfl (fun hc12=>?_) (fun hc12=>?_)
 ·skip
  try simp only [o1,o2,o3,o4,o5,o6,o7,o8,o9,oa] at hc12
  replace H:=H.keep [] rfl
  refine sS H fun K50 k50=>sr 1 rfl<|sE ?_;clear H a;intro a H
  refine k50 _ ?_;clear k50 K50
  refine wp_ret ?_
  refine ret1 (fn:=Try.f38) rfl H rfl ?_
  rw [show circE hz sw ws=30 from hc12.elim yS (fun h=>rK (by rw [←oG];exact h))];exact ⟨rfl,(S.sel [] G G)⟩
 try simp only [o1,o2,o3,o4,o5,o6,o7,o8,o9,oa] at hc12
 refine wp_skip ?_
 refine k48 _ _ ?_
 refine sS H fun K51 k51=>sr 1 rfl<|sE ?_;clear H a;intro a H
 refine k51 _ ?_;clear k51 K51
 refine wp_ret ?_
 refine ret1 (fn:=Try.f38) rfl H rfl ?_
 rw [rL hc1.1 hc1.2 hwk hc12.1 (by rw [←oG];exact hc12.2)];exact ⟨rfl,(S.sel [] G G)⟩
end
section
theorem uP {hz:Int} {sw:List Int} {ws:List Wr} (V:CirV hz sw ws):∀ k,k<ws.length→(ws.getD k Wr.zero).of.length≤9223372036854775807:=fun k hk=>by
  by_cases h:(ws.getD k Wr.zero).kind=1
  · have:=V.one k hk h;omega
  · have:=V.more k hk h;omega
def hasC (l:List Int) (x:Int):Bool:=l.any fun y=>decide (x=y)
theorem vZ {l:List Int} {x:Int} {k:Nat} (hk:k<l.length) (h:(l.take k).any (fun y=>decide (x=y))=false) (hx:¬ x=l.getD k 0):(l.take (k+1)).any (fun y=>decide (x=y))=false:=by
  rw [List.take_succ_eq_append_getElem hk,List.any_append,h]
  rw [List.getD_eq_getElem?_getD,List.getElem?_eq_getElem hk] at hx
  simpa using hx
theorem Bj {l:List Int} {x:Int} {k:Nat} (hk:k<l.length) (hx:x=l.getD k 0):hasC l x=true:=by
  rw [List.getD_eq_getElem?_getD,List.getElem?_eq_getElem hk] at hx
  unfold hasC
  rw [List.any_eq_true]
  exact ⟨l[k],List.getElem_mem hk,by simpa using hx⟩
def lorI (a b:Int):Int:=((a.toNat ||| b.toNat:Nat):Int)
theorem uQ {a b:Int} (ha:0≤a∧a≤2048) (hb:0≤b∧b≤2048):0≤lorI a b∧lorI a b≤4095:=by
  have:=Nat.or_lt_two_pow (x:=a.toNat) (y:=b.toNat) (n:=12) (by omega) (by omega)
  unfold lorI
  omega
section
variable {P:Program} {L:List (Nat×Value)} {w:World} {d:Option Nat} {ty:TypeId} {pos:String} {af:Array Edge} {g:Option (Nat×Bool)}
theorem yV {x y:Operand} {xt yt:TypeId} {m k:Int} (hx:ev L x=some (.int .i64 m)) (hy:ev L y=some (.int .i64 k)) (hm:0≤m∧m≤2048) (hk:0≤k∧k≤2048) :
    Does P L ⟨d,.binOp .or xt x y yt,ty,pos,af,g⟩ w (.int .i64 (lorI m k)):=fun ρ hρ=>by
  have hb:=uQ hm hk
  obtain ⟨m,rfl⟩:∃ n:Nat,m=n:=⟨m.toNat,by omega⟩
  obtain ⟨k,rfl⟩:∃ n:Nat,k=n:=⟨k.toNat,by omega⟩
  have e0:((BitVec.ofInt 64 (m:Int) ||| BitVec.ofInt 64 (k:Int)).toNat)=m ||| k:=by
    rw [BitVec.toNat_or,BitVec.ofInt_natCast,BitVec.ofInt_natCast,BitVec.toNat_ofNat,BitVec.toNat_ofNat,Nat.mod_eq_of_lt (by omega),Nat.mod_eq_of_lt (by omega)]
  have e1:IntKind.i64.wrap ((BitVec.ofInt 64 (m:Int) ||| BitVec.ofInt 64 (k:Int)).toNat:Int)=((m ||| k:Nat):Int):=by
    rw [e0];unfold lorI at hb;rw [Int.toNat_natCast,Int.toNat_natCast] at hb;exact i64ok.eq ⟨by omega,by omega⟩
  have e:Op.intBits .or .i64 (m:Int) (k:Int)=pure (.int .i64 (lorI m k)):=by
    unfold lorI
    rw [Int.toNat_natCast,Int.toNat_natCast]
    exact congrArg (fun z=>(pure (Value.int .i64 z):Sem Value)) e1
  simp [execOp,hρ _ _ hx,hρ _ _ hy,eqGuard,binOp,e]
end
def pairB (hz:Int) (sw:List Int) (ws:List Wr) (al:List Int) (a b:Int):Bool:=(!hasC al a&&!hasC al b)&&decide (0<(wkN hz sw ws (lorI (1*2^a.toNat) (1*2^b.toNat)) hz.toNat).length)
def pcIn (hz:Int) (sw:List Int) (ws:List Wr) (al:List Int) (a:Nat):Nat→Nat
  | 0=>0
  | q+1=>if pairB hz sw ws al (a:Int) ((a:Int)+1+(q:Int))=true then pcIn hz sw ws al a q+1 else pcIn hz sw ws al a q
def pcOut (hz:Int) (sw:List Int) (ws:List Wr) (al:List Int):Nat→Nat
  | 0=>0
  | a+1=>pcOut hz sw ws al a+pcIn hz sw ws al a (sw.length-(a+1))
theorem uR {hz:Int} {sw:List Int} {ws:List Wr} {al:List Int} {a:Nat}:∀ q,pcIn hz sw ws al a q≤q:=fun q=>by
  induction q with
  | zero=>exact Nat.le_refl _
  | succ q ih=>rw [pcIn];split <;> omega
theorem yW {hz:Int} {sw:List Int} {ws:List Wr} {al:List Int}:∀ a,pcOut hz sw ws al a≤a*sw.length:=fun a=>by
  induction a with
  | zero=>exact Nat.zero_le _
  | succ a ih=>
    have:=uR (hz:=hz) (sw:=sw) (ws:=ws) (al:=al) (a:=a) (sw.length-(a+1))
    rw [pcOut,Nat.succ_mul];omega
theorem wA (l:List Int) (A:Option Addr) (cp:Nat) (x:Int) (w:World) (hl:InS w noF 1 A l.length (icl l)) (hn:l.length≤9223372036854775807) :
    Calls Try.prog 84 [.slice A l.length cp,.int .i64 x].toArray w (Ret (fun u w'=>∃ n:Int,u = .int .i64 n∧decide (0≤n)=hasC l x∧St w noF [] w')):=by
 refine enter Try.func84 rfl Try.ntmps84 rfl (fun a H=>?_)
 have S:=St.start w
 refine sS H fun K1 k1=>sr 1 rfl<|sE ?_;clear H a;intro a H
 refine k1 _ ?_;clear k1 K1
 refine wp_seq_k fun K2 k2=>?_
 refine sS H fun K3 k3=>sr 1 rfl<|sL aM rfl<|sr 1 rfl<|sE ?_;clear H a;intro a H
 refine k3 _ ?_;clear k3 K3
 refine wp_block ?_
 refine loop_st (X:=Nat) (R0:=_) [0,1,7] H rfl (fun k=>[(8,.int .i64 (k:Int))]) (fun k=>[]) (fun g k=>k≤l.length∧g+k=l.length∧(l.take k).any (fun y=>decide (x=y))=false) (l.length) 0 ?_ (S.sel [] G G) (H.keep [8,0,1,7] rfl) ?_
 · exact ⟨by omega,by omega,rfl⟩
 clear H S a
 intro g1 x1 a w1 hp S H K4 k4
 obtain ⟨k,rfl⟩:∃ y,y=x1:=⟨_,rfl⟩
 refine sS H fun K5 k5=>sr 1 rfl<|sE ?_;clear H a;intro a H
 refine k5 _ ?_;clear k5 K5
 refine wp_seq_k fun K6 k6=>?_
 refine condL H rfl (fun hc1=>?_) (fun hc1=>?_)
 ·skip
  refine wp_skip ?_
  refine k6 _ _ ?_
  refine wp_seq_k fun K7 k7=>?_
  refine wp_block ?_
  refine sS H fun K8 k8=>sr 2 rfl<|sE ?_;clear H a;intro a H
  refine k8 _ ?_;clear k8 K8
  refine sS H fun K9 k9=>sr 3 rfl<|si aM bC G G (hl.adr (by omega)) (by omega)<|slm aE rfl (hl.rd S (by omega) (by omega))<|sr 1 rfl<|sE ?_;clear H a;intro a H
  refine k9 _ ?_;clear k9 K9
  refine condE H rfl (fun hc2=>?_) (fun hc2=>?_)
  ·skip
   replace H:=H.keep [5] rfl
   refine sS H fun K10 k10=>sr 2 rfl<|sE ?_;clear H a;intro a H
   refine k10 _ ?_;clear k10 K10
   refine wp_ret ?_
   refine ret1 (fn:=Try.f84) rfl H rfl ?_
   exact ⟨_,rfl,by rw [Bj (k:=k) (by omega) hc2];exact decide_eq_true (by omega),(S.sel [] G G)⟩
  refine wp_skip ?_
  refine k7 _ _ ?_
  refine sO H<|sd (aH G G (by unfold i64ok;omega))<|sr 1 rfl<|sE ?_;clear H a;intro a H
  exact k4 (g1-1) (k+1) a _ (by omega) (⟨by omega,by omega,vZ (by omega) hp.2.2 hc2⟩) (S.sel [] G G) (H.keep [8,0,1,7] rfl)
 refine wp_exit ?_
 refine k2 _ _ ?_
 refine sS H fun K12 k12=>sr 1 rfl<|sE ?_;clear H a;intro a H
 refine k12 _ ?_;clear k12 K12
 refine wp_ret ?_
 refine ret1 (fn:=Try.f84) rfl H rfl ?_
 exact ⟨_,rfl,by unfold hasC;rw [←List.take_of_length_le (l:=l) (i:=k) (by omega),hp.2.2];rfl,(S.sel [] G G)⟩
theorem eR (l:List Int) (A:Option Addr) (cp:Nat) (x:Int) (w:World) (hl:InS w noF 1 A l.length (icl l)) (hn:l.length≤9223372036854775807) :
    Calls Try.prog 51 [.slice A l.length cp,.int .i64 x].toArray w (Ret (fun u w'=>u = .bool (hasC l x)∧St w noF [] w')):=by
 refine enter Try.func51 rfl Try.ntmps51 rfl (fun a H=>?_)
 have S:=St.start w
 refine sS H fun K1 k1=>sr 1 rfl<|sE ?_;clear H a;intro a H
 refine k1 _ ?_;clear k1 K1
 refine seq_list fun K2 k2=>?_
 refine ls 2 H<|sr 2 rfl<|sE ?_;clear H a;intro a H
 refine aA H G G Try.func84 G G (wA l A cp x _ (hl.now S) hn) ?_;clear H a
 rintro _ _ a ⟨n,rfl,hn2,S2⟩ H
 replace S:=S.call S2;clear S2
 refine ls 2 H<|sr 2 rfl<|sE ?_;clear H a;intro a H
 refine k2 _ _ ?_;clear k2 K2
 refine wp_ret ?_
 refine ret1 (fn:=Try.f51) rfl H rfl ?_
 exact ⟨congrArg Value.bool hn2,(S.sel [] G G)⟩
theorem pN (hz:Int) (sw:List Int) (SA:Option Addr) (sc:Nat) (ws:List Wr) (QA:Option Addr) (qc:Nat) (OA:Nat→Option Addr) (oc:Nat→Nat) (w:World) (hsw:InS w noF 1 SA sw.length (icl sw)) (hws:InS w noF 2 QA ws.length (cV ws OA oc)) (hof:∀ k,k<ws.length→InS w noF 1 (OA k) (ws.getD k Wr.zero).of.length (icl (ws.getD k Wr.zero).of)) (hE:circE hz sw ws=0) :
    Calls Try.prog 50 [.agg [.int .i64 hz,.slice SA sw.length sc,.slice QA ws.length qc].toArray].toArray w (Ret (fun u w'=>∃ A' c',u = .tuple #[.slice A' (critN hz sw ws sw.length).length c',.int .i64 0]∧St w noF [ownM 3 1 A' (critN hz sw ws sw.length).length c' (icl (critN hz sw ws sw.length))] w')):=by
 have V:=kB (pL hE)
 have hns:=V.nsw
 have hnw:=V.nws
 have hzb:=V.hzb
 have hof9:=uP V
 refine enter Try.func50 rfl Try.ntmps50 rfl (fun a H=>?_)
 have S:=St.start w
 refine seq_list fun K1 k1=>?_
 refine aV H rfl S G G ?_;clear H a S;intro b1 _ a hb1 hbw1 S H
 refine ls 2 H<|sr 2 rfl<|sE ?_;clear H a;intro a H
 refine k1 _ _ ?_;clear k1 K1
 refine wp_seq_k fun K2 k2=>?_
 refine seq_list fun K3 k3=>?_
 refine ls 1 H<|sd ((aD cJ bY rfl S (i:=0) G G))<|sE ?_;clear H a;intro a H
 refine aA H G G Try.func38 G G (oH hz sw SA sc ws QA qc OA oc _ (hsw.now S) (hws.now S) (fun k hk=>(hof k hk).now S) (by omega) (by omega) hof9) ?_;clear H a
 rintro _ _ a ⟨rfl,S2⟩ H
 replace S:=S.call S2;clear S2
 refine ls 1 H<|sr 1 rfl<|sE ?_;clear H a;intro a H
 refine k3 _ _ ?_;clear k3 K3
 refine sS H fun K4 k4=>sr 2 rfl<|sE ?_;clear H a;intro a H
 refine k4 _ ?_;clear k4 K4
 refine condN H rfl (fun hc1=>?_) (fun hc1=>?_)
 ·skip
  replace H:=H.keep [4] rfl
  refine sS H fun K5 k5=>sr 3 rfl<|sE ?_;clear H a;intro a H
  refine k5 _ ?_;clear k5 K5
  refine wp_ret ?_
  refine ret2 (fn:=Try.f50) rfl H G G ?_
  exact absurd hE hc1
 refine wp_skip ?_
 refine k2 _ _ ?_
 refine sS H fun K6 k6=>sr 1 rfl<|sE ?_;clear H a;intro a H
 refine k6 _ ?_;clear k6 K6
 refine wp_seq_k fun K7 k7=>?_
 refine sS H fun K8 k8=>sf dC rfl<|sl S 0 aW G G G<|sL aM rfl<|sr 1 rfl<|sE ?_;clear H a;intro a H
 refine k8 _ ?_;clear k8 K8
 refine wp_block ?_
 replace S:=S.newNil 3 1 (icl [])
 refine loop_st (X:=Nat×List Int×Option Addr×Nat) (R0:=_) [1,14] H rfl (fun ⟨k,L9,A9,c9⟩=>[(5,.slice A9 L9.length c9),(15,.int .i64 (k:Int))]) (fun ⟨k,L9,A9,c9⟩=>[ownM 3 1 A9 L9.length c9 (icl L9)]) (fun g ⟨k,L9,A9,c9⟩=>k≤sw.length∧g+k=sw.length∧L9=critN hz sw ws k) (sw.length) (0,[],none,0) ?_ (S.sel [0,1] G G) (H.keep [5,15,1,14] rfl) ?_
 · exact ⟨by omega,by omega,rfl⟩
 clear H S a
 intro g1 x1 a w1 hp S H K9 k9
 obtain ⟨k,L9,A9,c9⟩:=x1
 dsimp only at hp S H
 refine sS H fun K10 k10=>sr 1 rfl<|sE ?_;clear H a;intro a H
 refine k10 _ ?_;clear k10 K10
 refine wp_seq_k fun K11 k11=>?_
 refine condL H rfl (fun hc2=>?_) (fun hc2=>?_)
 ·skip
  refine wp_skip ?_
  refine k11 _ _ ?_
  refine wp_seq_k fun K12 k12=>?_
  refine wp_block ?_
  refine sS H fun K13 k13=>sr 2 rfl<|sE ?_;clear H a;intro a H
  refine k13 _ ?_;clear k13 K13
  have hsh:=pwc (h:=k) (by omega)
  have hL9:L9.length≤k:=by rw [hp.2.2];exact oF k
  replace S:=S.drew
  refine seq_wq [(0,true),(1,true),(2,true),(3,false),(4,true),(5,true)] (by kernel_rfl) (by kernel_rfl) (S.sel [0,1] G G) fun K14 k14=>?_
  refine qF H<|qd rfl (fun _ S=>(aD cJ bY rfl S (i:=1) G G))<|qr 1 rfl<|qd rfl (fun _ S=>eB G G (by omega) (by omega) (by unfold i64ok;omega))<|qK ?_;clear H a;intro a H
  refine aT rfl ?_
  refine aA H G G Try.func52 G G (rJ hz sw SA sc ws QA qc OA oc (1*2^(k:Int).toNat) _ (hsw.now S) (hws.now S) (fun k hk=>(hof k hk).now S) V (by omega)) ?_;clear H a
  rintro _ _ a ⟨A5,c5,rfl,S2⟩ H
  replace S:=S.call S2;clear S2
  refine wpList_nil (And.intro (S.sel [1,2] G G) ?_)
  refine qF H<|qd rfl (fun _ S=>dF aM rfl)<|qr 1 rfl<|qK ?_;clear H a;intro a H
  refine bM ?_
  refine k14 _ _ ?_
  clear k14 K14
  refine condL H rfl (fun hc3=>?_) (fun hc3=>?_)
  ·skip
   replace H:=H.keep [1,5,6,14,15] rfl
   refine one_list ?_
   refine ls 2 H<|sr 2 rfl<|sE ?_;clear H a;intro a H
   refine bB H rfl S aM bC eZ G G G G G G G G G ?_;clear H a S;intro A1 _ a hA1 S H
   refine cK H rfl S aM bC eZ mA G G (i:=2) G G G (ownM.inS S (i:=0) rfl) (lO (one rfl)) (by omega) (by omega) ?_;clear H a S;intro A2 c2 _ a S H
   replace S:=S.recell (i:=2) rfl (cell':=icl (L9++[(k:Int)])) (rI rfl)
   rw [show L9.length+1=(L9++[(k:Int)]).length by simp] at H S
   refine ls 1 H<|sr 1 rfl<|sE ?_;clear H a;intro a H
   refine k12 _ _ ?_
   refine sO H<|sd (aH G G (by unfold i64ok;omega))<|sr 1 rfl<|sE ?_;clear H a;intro a H
   exact k9 (g1-1) (k+1,_,_,_) a _ (by omega) (⟨by omega,by omega,by rw [critN];first|rw [if_pos (by omega),←hp.2.2]|rw [if_neg (by omega),←hp.2.2]⟩) (S.sel [2,3] G G) (H.keep [5,15,1,14] rfl)
  refine wp_skip ?_
  refine k12 _ _ ?_
  refine sO H<|sd (aH G G (by unfold i64ok;omega))<|sr 1 rfl<|sE ?_;clear H a;intro a H
  exact k9 (g1-1) (k+1,_,_,_) a _ (by omega) (⟨by omega,by omega,by rw [critN];first|rw [if_pos (by omega),←hp.2.2]|rw [if_neg (by omega),←hp.2.2]⟩) (S.sel [1,2] G G) (H.keep [5,15,1,14] rfl)
 refine wp_exit ?_
 refine k7 _ _ ?_
 replace H:=H.keep [5] rfl
 refine sS H fun K18 k18=>sr 3 rfl<|sE ?_;clear H a;intro a H
 refine k18 _ ?_;clear k18 K18
 refine wp_ret ?_
 refine ret2 (fn:=Try.f50) rfl H G G ?_
 obtain rfl:k=sw.length:=by omega
 rw [←hp.2.2]
 exact ⟨_,_,rfl,(S.sel [0] G G)⟩
end
section
def lstA (l:List Int) (i:Int):Nat→Int
  | 0=>i
  | q+1=>l.getD q 0
section
variable {hz:Int} {sw l:List Int} {ws:List Wr} {i k q:Nat}
theorem nE {lo:Int}:∀ q,lowA l (lo+1) q=lstA l lo q+1:=fun q=>by
  cases q with
  | zero=>rfl
  | succ q=>unfold lowA;rw [if_neg (by omega)];rfl
def farB (sw:List Int) (ws:List Wr):Bool:=(decide (20<(sw.length:Int))||decide (40<(ws.length:Int)))||ws.any fun x=>decide (40<x.of.length)
theorem Bk (hk:k<ws.length) (h:40<(ws.getD k Wr.zero).of.length):farB sw ws=true:=by
  unfold farB
  rw [Bool.or_eq_true]
  refine .inr (List.any_eq_true.2 ⟨ws[k],List.getElem_mem hk,?_⟩)
  rw [List.getD_eq_getElem?_getD,List.getElem?_eq_getElem hk,Option.getD_some] at h
  exact decide_eq_true h
theorem Bl (h0:sw.length≤20∧ws.length≤40) (h:∀ k,k<ws.length→(ws.getD k Wr.zero).of.length≤40):farB sw ws=false:=by
  unfold farB
  rw [decide_eq_false (by omega),decide_eq_false (by omega),Bool.false_or,Bool.false_or,List.any_eq_false]
  intro x hx
  obtain ⟨k,hk,rfl⟩:=List.getElem_of_mem hx
  have:=h k hk
  rw [List.getD_eq_getElem?_getD,List.getElem?_eq_getElem hk,Option.getD_some] at this
  simp only [decide_eq_true_eq];omega
theorem Df (h:20<(sw.length:Int)∨40<(ws.length:Int)):farB sw ws=true:=by
  unfold farB
  rcases h with h|h
  · rw [decide_eq_true h];rfl
  · rw [decide_eq_true h];simp
theorem pO {n m:Int} (h:setB n m=true) (hm:0≤m∧m≤12):0≤n∧n≤4095:=by
  have hp:=pwh hm
  unfold setB at h
  simp only [Bool.and_eq_true,decide_eq_true_eq] at h
  omega
theorem rM {lo hi:Int} (h:∀ z,z<q→ascP l lo hi z=true) (h1:ascP l lo hi q=true):∀ z,z<q+1→ascP l lo hi z=true:=fun z hz=>by
  by_cases e:z=q
  · subst e;exact h1
  · exact h z (by omega)
theorem yX {lo hi:Int}:∀ q,(∀ z,z<q→ascP l (lo+1) hi z=true)→lo≤lstA l lo q∧(lstA l lo q=lo∨lstA l lo q<hi):=fun q=>by
  induction q with
  | zero=>intro _;exact ⟨Int.le_refl _,.inl rfl⟩
  | succ q ih=>
    intro h
    have h1:=h q (by omega)
    unfold ascP at h1
    have h2:=of_decide_eq_true h1
    rw [nE] at h2
    have h3:=ih fun z hz=>h z (by omega)
    show lo≤l.getD q 0∧(l.getD q 0=lo∨l.getD q 0<hi)
    omega
theorem pP {hi:Int} (h1:l.length=1) (h:0≤l.getD 0 0∧l.getD 0 0≤hi-1):ascB l 0 hi=true:=gT fun q hq=>by
  obtain rfl:q=0:=by omega
  unfold ascP
  exact decide_eq_true (by show (0:Int)≤_∧_;omega)
theorem eS {lo hi:Int} (h:l.getD q 0<lstA l lo q+1∨hi-1<l.getD q 0):ascP l (lo+1) hi q=false:=by
  unfold ascP;rw [nE];exact decide_eq_false (by omega)
theorem dQ {k:Nat} (h:k<l.length):l.getD k 0 ∈ l:=by
  rw [List.getD_eq_getElem?_getD,List.getElem?_eq_getElem h];exact List.getElem_mem h
theorem eT (hq:q+1<ws.length) (h:¬ heldN ws ((q:Int)+1).toNat ws.length=1):circE hz sw ws=30:=rK (List.any_eq_true.2 ⟨q,List.mem_range.2 (by omega),by
  rw [show ((q:Int)+1).toNat=q+1 by omega] at h
  rw [decide_eq_false h];rfl⟩)
theorem rN {lo hi:Int} (h:lstA l lo q+1≤l.getD q 0∧l.getD q 0≤hi-1):ascP l (lo+1) hi q=true:=by
  unfold ascP;rw [nE];exact decide_eq_true (by omega)
theorem yY {lo hi:Int} (hlo:1≤lo) (h:ascB l lo hi=true):∀ n,n≤l.length→cntO l 0 n=0:=fun n=>by
  induction n with
  | zero=>intro _;rfl
  | succ n ih=>
    intro hn
    have h1:=(kA h (k:=n) (by omega)).1
    have e:cntO l 0 (n+1)=cntO l 0 n+(if l.getD n 0=((0:Nat):Int) then 1 else 0):=rfl
    rw [e,ih (by omega),if_neg (by omega)];rfl
theorem wB:∀ i,(∀ q,q<i→wrOk sw.length ws.length ws q=true)→heldN ws 0 i=0:=fun i=>by
  induction i with
  | zero=>intro _;rfl
  | succ i ih=>
    intro h
    rw [iM,ih (fun q hq=>h q (by omega))]
    have h2:=h i (by omega)
    unfold heldW
    split
    · rfl
    · next hk=>
      unfold wrOk at h2
      rw [if_neg hk] at h2
      split at h2
      · simp only [Bool.and_eq_true,decide_eq_true_eq] at h2
        rw [yY (by omega) h2.2 _ (Nat.le_refl _)];rfl
      · cases h2
theorem eU (h1:cirSz hz sw ws=true) (h2:∀ q,q<sw.length→setB (sw.getD q 0) hz=true) (h3:∀ i,i<ws.length→wrOk sw.length ws.length ws i=true) (h5:∀ q,1≤q→q<ws.length→heldN ws q ws.length=1):circE hz sw ws=0:=by
  refine rL h1 ?_ h3 (wB ws.length h3) ?_
  · rw [List.any_eq_false]
    intro x hx
    obtain ⟨q,hq,rfl⟩:=List.getElem_of_mem hx
    have:=h2 q hq
    rw [List.getD_eq_getElem?_getD,List.getElem?_eq_getElem hq,Option.getD_some] at this
    rw [this];simp
  · rw [List.any_eq_false]
    intro q hq
    rw [List.mem_range] at hq
    rw [decide_eq_true (h5 (q+1) (by omega) (by omega))];simp
end
theorem dW (n lo hi:Int) (w:World) :
    Calls Try.prog 34 [.int .i64 n,.int .i64 lo,.int .i64 hi].toArray w (Ret (fun v w'=>v = .bool (decide (lo≤n)&&decide (n≤hi))∧w'=w)):=by
 refine enter Try.func34 rfl Try.ntmps34 rfl (fun a H=>?_)
 have S:=St.start w
 refine sS H fun K1 k1=>sr 1 rfl<|sE ?_;clear H a;intro a H
 refine k1 _ ?_;clear k1 K1
 replace H:=H.keep [0,1,2] rfl
 refine sS H fun K2 k2=>sr 4 rfl<|sg 3 3 10 13 true G G (fun hg4=>sy hg4<|sr 1 rfl<|sy hg4<|sr 1 rfl<|sy hg4<|sr 1 rfl<|sz 3 G G G)<|sa G G G<|sr 1 rfl<|sE ?_;clear H a;intro a H
 refine k2 _ ?_;clear k2 K2
 refine wp_ret ?_
 refine ret1 (fn:=Try.f34) rfl H rfl ?_
 exact ⟨rfl,rfl⟩
theorem Dg (hz:Int) (sw:List Int) (SA:Option Addr) (sc:Nat) (ws:List Wr) (QA:Option Addr) (qc:Nat) (OA:Nat→Option Addr) (oc:Nat→Nat) (w:World) (hsw:InS w noF 1 SA sw.length (icl sw)) (hws:InS w noF 2 QA ws.length (cV ws OA oc)) (hof:∀ k,k<ws.length→InS w noF 1 (OA k) (ws.getD k Wr.zero).of.length (icl (ws.getD k Wr.zero).of)) (hsn:sw.length≤9223372036854775807) (hwn:ws.length≤9223372036854775807) (hofn:∀ k,k<ws.length→(ws.getD k Wr.zero).of.length≤9223372036854775807) :
    Calls Try.prog 13 [.agg [.int .i64 hz,.slice SA sw.length sc,.slice QA ws.length qc].toArray].toArray w (Ret (fun u w'=>u = .bool (farB sw ws)∧St w noF [] w')):=by
 refine enter Try.func13 rfl Try.ntmps13 rfl (fun a H=>?_)
 have S:=St.start w
 refine seq_list fun K1 k1=>?_
 refine aV H rfl S G G ?_;clear H a S;intro b1 _ a hb1 hbw1 S H
 refine ls 1 H<|sr 1 rfl<|sE ?_;clear H a;intro a H
 refine k1 _ _ ?_;clear k1 K1
 refine wp_seq_k fun K2 k2=>?_
 replace H:=H.keep [1] rfl
 refine sS H fun K3 k3=>sf dC rfl<|sl S 0 aW G G G<|sL aM rfl<|sr 2 rfl<|sg 4 4 8 12 false G G (fun hg5=>sy hg5<|sf cW rfl<|sy hg5<|sl S 0 eA G G G<|sy hg5<|sL fA rfl<|sy hg5<|sr 1 rfl<|sz 4 G G G)<|so G G G<|sE ?_;clear H a;intro a H
 refine k3 _ ?_;clear k3 K3
 refine cond_ H rfl (fun hc1=>?_) (fun hc1=>?_)
 ·skip
  try simp only [o1,o2,o3,o4,o5,o6,o7,o8,o9,oa] at hc1
  replace H:=H.keep [] rfl
  refine sS H fun K4 k4=>sr 1 rfl<|sE ?_;clear H a;intro a H
  refine k4 _ ?_;clear k4 K4
  refine wp_ret ?_
  refine ret1 (fn:=Try.f13) rfl H rfl ?_
  rw [Df hc1];exact ⟨rfl,(S.sel [] G G)⟩
 try simp only [o1,o2,o3,o4,o5,o6,o7,o8,o9,oa] at hc1
 refine wp_skip ?_
 refine k2 _ _ ?_
 refine wp_seq_k fun K5 k5=>?_
 refine sS H fun K6 k6=>sr 1 rfl<|sE ?_;clear H a;intro a H
 refine k6 _ ?_;clear k6 K6
 refine wp_block ?_
 refine loop_st (X:=Nat) (R0:=_) [1] H rfl (fun i=>[(3,.int .i64 (i:Int))]) (fun i=>[]) (fun g i=>i≤ws.length∧g+i=ws.length∧∀ k,k<i→(ws.getD k Wr.zero).of.length≤40) (ws.length) 0 ?_ (S.sel [0] G G) (H.keep [3,1] rfl) ?_
 · exact ⟨by omega,by omega,fun k hk=>absurd hk (Nat.not_lt_zero k)⟩
 clear H S a
 intro g1 x1 a w1 hp S H K7 k7
 obtain ⟨i,rfl⟩:∃ y,y=x1:=⟨_,rfl⟩
 refine wp_seq_k fun K8 k8=>?_
 refine sS H fun K9 k9=>sr 1 rfl<|sf cW rfl<|sl S 0 eA G G G<|sL fA rfl<|sr 1 rfl<|sE ?_;clear H a;intro a H
 refine k9 _ ?_;clear k9 K9
 refine condL H rfl (fun hc2=>?_) (fun hc2=>?_)
 ·skip
  refine wp_skip ?_
  refine k8 _ _ ?_
  refine wp_seq_k fun K10 k10=>?_
  refine wp_block ?_
  replace H:=H.keep [1,3] rfl
  refine sS H fun K11 k11=>sf cW rfl<|sl S 0 eA G G G<|sr 1 rfl<|si fA iY G G (hws.adr (by omega)) (by omega)<|sp bR rfl<|slm aW rfl (hws.rd S (by omega) (by omega))<|sL aM rfl<|sr 1 rfl<|sE ?_;clear H a;intro a H
  refine k11 _ ?_;clear k11 K11
  refine condL H rfl (fun hc3=>?_) (fun hc3=>?_)
  ·skip
   refine sS H fun K12 k12=>sr 1 rfl<|sE ?_;clear H a;intro a H
   refine k12 _ ?_;clear k12 K12
   refine wp_ret ?_
   refine ret1 (fn:=Try.f13) rfl H rfl ?_
   rw [Bk (k:=i) (by omega) (by omega)];exact ⟨rfl,(S.sel [] G G)⟩
  refine wp_skip ?_
  refine k10 _ _ ?_
  replace H:=H.keep [1,3] rfl
  refine sO H<|sr 1 rfl<|sd (aH G G (by unfold i64ok;omega))<|sr 1 rfl<|sE ?_;clear H a;intro a H
  exact k7 (g1-1) (i+1) a _ (by omega) (⟨by omega,by omega,fun k hk=>if h9:k<i then hp.2.2 k h9 else by
    obtain rfl:k=i:=by omega
    omega⟩) (S.sel [0] G G) (H.keep [3,1] rfl)
 refine wp_exit ?_
 refine k5 _ _ ?_
 refine sS H fun K14 k14=>sr 1 rfl<|sE ?_;clear H a;intro a H
 refine k14 _ ?_;clear k14 K14
 refine wp_ret ?_
 refine ret1 (fn:=Try.f13) rfl H rfl ?_
 rw [Bl (by omega) (fun k hk=>hp.2.2 k (by omega))];exact ⟨rfl,(S.sel [] G G)⟩
theorem yZ (hz:Int) (sw:List Int) (SA:Option Addr) (scp:Nat) (ws:List Wr) (QA:Option Addr) (qc:Nat) (OA:Nat→Option Addr) (oc:Nat→Nat) (w:World) (hsw:InS w noF 1 SA sw.length (icl sw)) (hws:InS w noF 2 QA ws.length (cV ws OA oc)) (hof:∀ k,k<ws.length→InS w noF 1 (OA k) (ws.getD k Wr.zero).of.length (icl (ws.getD k Wr.zero).of)) (hsn:sw.length≤9223372036854775807) (hwn:ws.length≤9223372036854775807) (hofn:∀ k,k<ws.length→(ws.getD k Wr.zero).of.length≤9223372036854775807) :
    Calls Try.prog 15 [.agg [.int .i64 hz,.slice SA sw.length scp,.slice QA ws.length qc].toArray].toArray w (Ret (fun u w'=>u = .int .i64 (circE hz sw ws)∧St w noF [] w')):=by
 refine enter Try.func15 rfl Try.ntmps15 rfl (fun a H=>?_)
 have S:=St.start w
 refine seq_list fun K1 k1=>?_
 refine aV H rfl S G G ?_;clear H a S;intro b1 _ a hb1 hbw1 S H
 refine ls 1 H<|sr 1 rfl<|sE ?_;clear H a;intro a H
 refine k1 _ _ ?_;clear k1 K1
 refine wp_seq_k fun K2 k2=>?_
 replace H:=H.keep [1] rfl
 refine sS H fun K3 k3=>sf iL rfl<|sl S 0 aE G G G<|sc rfl Try.func34 G G (dW _ _ _ _)<|sr 2 rfl<|sg 5 4 14 19 false G G (fun hg5=>sy hg5<|sf dC rfl<|sy hg5<|sl S 0 aW G G G<|sy hg5<|sL aM rfl<|sy hg5<|sc rfl Try.func34 G G (dW _ _ _ _)<|sy hg5<|sr 1 rfl<|sz 5 G G G)<|so G G G<|sr 1 rfl<|sg 5 11 21 26 false G G (fun hg12=>sy hg12<|sf cW rfl<|sy hg12<|sl S 0 eA G G G<|sy hg12<|sL fA rfl<|sy hg12<|sc rfl Try.func34 G G (dW _ _ _ _)<|sy hg12<|sr 1 rfl<|sz 5 G G G)<|so G G G<|sE ?_;clear H a;intro a H
 refine k3 _ ?_;clear k3 K3
 refine cond_ H rfl (fun hc1=>?_) (fun hc1=>?_)
 ·skip
  try simp only [o1,o2,o3,o4,o5,o6,o7,o8,o9,oa] at hc1
  replace H:=H.keep [] rfl
  refine sS H fun K4 k4=>sr 1 rfl<|sE ?_;clear H a;intro a H
  refine k4 _ ?_;clear k4 K4
  refine wp_ret ?_
  refine ret1 (fn:=Try.f15) rfl H rfl ?_
  first|(rw [eU hS hset hwk (fun q9 h1 h2=>hp.2.2 q9 h1 (by omega))];exact ⟨rfl,(S.sel [] G G)⟩)|(rw [show circE hz sw ws=30 from by first|exact dH (Bool.eq_false_iff.2 fun hb=>by have h9:=gU hb;omega)|exact dI (List.any_eq_true.2 ⟨sw.getD i 0,dQ (by omega),by unfold setB;simp only [Bool.not_eq_true',Bool.and_eq_false_iff,decide_eq_false_iff_not];omega⟩)|exact aS (by omega) (cG hc5 (by by_cases h9:(((ws.getD i Wr.zero).of.length:Nat):Int)=1;exact .inr (bV (k:=0) (by omega) (decide_eq_false (fun h8=>by have h7:0≤(ws.getD i Wr.zero).of.getD (Int.toNat 0) 0∧(ws.getD i Wr.zero).of.getD (Int.toNat 0) 0<(sw.length:Int):=h8;omega)));exact .inl h9))|exact aS (by omega) (eH hc5 (by assumption) (by assumption))|exact aS (by omega) (aZ hc5 (by first|exact .inl (by assumption)|exact .inr (by assumption)) (.inl (by omega)))|exact aS (by omega) (aZ hc5 (by first|exact .inl (by assumption)|exact .inr (by assumption)) (.inr (bV (k:=q) (by omega) (eS (by omega)))))|exact eT (q:=z) (by omega) (by assumption)];exact ⟨rfl,(S.sel [] G G)⟩)
 try simp only [o1,o2,o3,o4,o5,o6,o7,o8,o9,oa] at hc1
 have hS:cirSz hz sw ws=true:=by
   unfold cirSz
   simp only [Bool.and_eq_true,decide_eq_true_eq]
   omega
 obtain ⟨hS1,hS2,hS3⟩:=gU hS
 refine wp_skip ?_
 refine k2 _ _ ?_
 refine wp_seq_k fun K5 k5=>?_
 refine sS H fun K6 k6=>sr 1 rfl<|sE ?_;clear H a;intro a H
 refine k6 _ ?_;clear k6 K6
 refine wp_block ?_
 refine loop_st (X:=Nat) (R0:=_) [1] H rfl (fun i=>[(3,.int .i64 (i:Int))]) (fun i=>[]) (fun g i=>i≤sw.length∧g+i=sw.length∧∀ q,q<i→setB (sw.getD q 0) hz=true) (sw.length) 0 ?_ (S.sel [0] G G) (H.keep [3,1] rfl) ?_
 · exact ⟨by omega,by omega,fun q hq=>absurd hq (Nat.not_lt_zero q)⟩
 clear H S a
 intro g1 x1 a w1 hp S H K7 k7
 obtain ⟨i,rfl⟩:∃ y,y=x1:=⟨_,rfl⟩
 refine wp_seq_k fun K8 k8=>?_
 refine sS H fun K9 k9=>sr 1 rfl<|sf dC rfl<|sl S 0 aW G G G<|sL aM rfl<|sr 1 rfl<|sE ?_;clear H a;intro a H
 refine k9 _ ?_;clear k9 K9
 refine condL H rfl (fun hc2=>?_) (fun hc2=>?_)
 ·skip
  refine wp_skip ?_
  refine k8 _ _ ?_
  refine wp_seq_k fun K10 k10=>?_
  refine wp_block ?_
  have hpw:=pwh (hz:=hz) (by omega)
  replace H:=H.keep [1,3] rfl
  replace S:=S.drew
  refine sD H fun K11 k11=>sf dC rfl<|sl S 0 aW G G G<|sr 1 rfl<|si aM bC G G (hsw.adr (by omega)) (by omega)<|slm aE rfl (hsw.rd S (by omega) (by omega))<|sf iL rfl<|sl S 0 aE G G G<|sd (dS Try.underlying3 Try.underlying64 rfl (by first|omega|exact IntWalk.i64_in _ (by omega)|exact IntWalk.u64_in _ (by omega)))<|sd (eB G G (by omega) (by omega) (by unfold i64ok;omega))<|sd (cH G G (by unfold i64ok;omega))<|sc rfl Try.func34 G G (dW _ _ _ _)<|sr 1 rfl<|sE ?_;clear H a;intro a H
  refine k11 _ ?_;clear k11 K11
  refine cond_ H rfl (fun hc3=>?_) (fun hc3=>?_)
  ·skip
   try simp only [o1,o2,o3,o4,o5,o6,o7,o8,o9,oa] at hc3
   replace H:=H.keep [] rfl
   refine sS H fun K12 k12=>sr 1 rfl<|sE ?_;clear H a;intro a H
   refine k12 _ ?_;clear k12 K12
   refine wp_ret ?_
   refine ret1 (fn:=Try.f15) rfl H rfl ?_
   first|(rw [eU hS hset hwk (fun q9 h1 h2=>hp.2.2 q9 h1 (by omega))];exact ⟨rfl,(S.sel [] G G)⟩)|(rw [show circE hz sw ws=30 from by first|exact dH (Bool.eq_false_iff.2 fun hb=>by have h9:=gU hb;omega)|exact dI (List.any_eq_true.2 ⟨sw.getD i 0,dQ (by omega),by unfold setB;simp only [Bool.not_eq_true',Bool.and_eq_false_iff,decide_eq_false_iff_not];omega⟩)|exact aS (by omega) (cG hc5 (by by_cases h9:(((ws.getD i Wr.zero).of.length:Nat):Int)=1;exact .inr (bV (k:=0) (by omega) (decide_eq_false (fun h8=>by have h7:0≤(ws.getD i Wr.zero).of.getD (Int.toNat 0) 0∧(ws.getD i Wr.zero).of.getD (Int.toNat 0) 0<(sw.length:Int):=h8;omega)));exact .inl h9))|exact aS (by omega) (eH hc5 (by assumption) (by assumption))|exact aS (by omega) (aZ hc5 (by first|exact .inl (by assumption)|exact .inr (by assumption)) (.inl (by omega)))|exact aS (by omega) (aZ hc5 (by first|exact .inl (by assumption)|exact .inr (by assumption)) (.inr (bV (k:=q) (by omega) (eS (by omega)))))|exact eT (q:=z) (by omega) (by assumption)];exact ⟨rfl,(S.sel [] G G)⟩)
  try simp only [o1,o2,o3,o4,o5,o6,o7,o8,o9,oa] at hc3
  refine wp_skip ?_
  refine k10 _ _ ?_
  refine sO H<|sr 1 rfl<|sd (aH G G (by unfold i64ok;omega))<|sr 1 rfl<|sE ?_;clear H a;intro a H
  exact k7 (g1-1) (i+1) a _ (by omega) (⟨by omega,by omega,fun q hq=>if h9:q<i then hp.2.2 q h9 else by
    obtain rfl:q=i:=by omega
    unfold setB
    simp only [Bool.and_eq_true,decide_eq_true_eq]
    omega⟩) (S.sel [0] G G) (H.keep [3,1] rfl)
 refine wp_exit ?_
 refine k5 _ _ ?_
 refine seq_list fun K14 k14=>?_
 refine ls 3 H<|sf cW rfl<|sl S 0 eA G G G<|sL fA rfl<|sE ?_;clear H a;intro a H
 refine gA (n:=ws.length) H rfl S aM bC eZ mA rfl (by decide) G G (by omega) (by omega) ?_;clear H a S;intro A1 _ a hA1 S H
 generalize A1=AH at S H
 replace S:=S.recell (i:=0) rfl (cell':=fun k _ => .int .i64 (heldN ws k 0)) (fun k j _ hj=>by
   obtain rfl:j=0:=by omega
   rfl)
 refine ls 1 H<|sr 1 rfl<|sE ?_;clear H a;intro a H
 refine k14 _ _ ?_;clear k14 K14
 refine wp_seq_k fun K15 k15=>?_
 replace H:=H.keep [1,4] rfl
 refine sS H fun K16 k16=>sr 1 rfl<|sE ?_;clear H a;intro a H
 refine k16 _ ?_;clear k16 K16
 refine wp_block ?_
 obtain ⟨hi0,hgi,hset⟩:=hp
 obtain rfl:i=sw.length:=by omega
 refine loop_st (X:=Nat) (R0:=_) [1,4] H rfl (fun i=>[(5,.int .i64 (i:Int))]) (fun i=>[ownM 3 1 AH ws.length ws.length (fun k _ => .int .i64 (heldN ws k i))]) (fun g i=>i≤ws.length∧g+i=ws.length∧∀ q,q<i→wrOk sw.length ws.length ws q=true) (ws.length) 0 ?_ (S.sel [0,1] G G) (H.keep [5,1,4] rfl) ?_
 · exact ⟨by omega,by omega,fun q hq=>absurd hq (Nat.not_lt_zero q)⟩
 clear H S a
 intro g2 x2 a w2 hp S H K17 k17
 obtain ⟨i,rfl⟩:∃ y,y=x2:=⟨_,rfl⟩
 obtain ⟨hi1,hi2,hwk⟩:=hp
 refine wp_seq_k fun K18 k18=>?_
 refine sS H fun K19 k19=>sr 1 rfl<|sf cW rfl<|sl S 1 eA G G G<|sL fA rfl<|sr 1 rfl<|sE ?_;clear H a;intro a H
 refine k19 _ ?_;clear k19 K19
 refine condL H rfl (fun hc4=>?_) (fun hc4=>?_)
 ·skip
  refine wp_skip ?_
  refine k18 _ _ ?_
  refine wp_seq_k fun K20 k20=>?_
  refine wp_block ?_
  replace H:=H.keep [1,4,5] rfl
  refine seq_list fun K21 k21=>?_
  refine ls 5 H<|sf cW rfl<|sl S 1 eA G G G<|sr 1 rfl<|si fA iY G G (hws.adr (by omega)) (by omega)<|sd ((cS tI iY rfl S hws (by omega) (by omega)))<|sE ?_;clear H a;intro a H
  refine aI H rfl S rF ?_;clear H a S;intro b6 _ a hb6 hbw6 S H
  refine aC H S (i:=0) G G G G iY G G ?_
  clear H a S;intro _ a S H
  refine k21 _ _ ?_;clear k21 K21
  refine sS H fun K22 k22=>sf pI rfl<|sl S 0 aE G G G<|sE ?_;clear H a;intro a H
  refine k22 _ ?_;clear k22 K22
  refine wp_block ?_
  replace H:=H.keep [1,4,5,6,64] rfl
  refine sS H fun K23 k23=>sr 2 rfl<|sE ?_;clear H a;intro a H
  refine k23 _ ?_;clear k23 K23
  refine condE H rfl (fun hc5=>?_) (fun hc5=>?_)
  ·skip
   replace H:=H.keep [1,4,5,6] rfl
   replace S:=S.drew
   refine sD H fun K24 k24=>sf bR rfl<|sl S 0 aW G G G<|sL aM rfl<|sr 2 rfl<|sg 10 4 71 81 false G G (fun hg5=>by
       have h5:(((ws.getD i Wr.zero).of.length:Nat):Int)=1:=by simpa using hg5
       exact sy hg5<|sf bR rfl<|sy hg5<|sl S 0 aW G G G<|sy hg5<|sI aM bC G G ((hof i (by omega)).adr (by omega)) (by omega) (by omega)<|sy hg5<|slm aE rfl ((hof i (by omega)).rd S (by omega) (by omega))<|sy hg5<|sf dC rfl<|sy hg5<|sl S 2 aW G G G<|sy hg5<|sL aM rfl<|sy hg5<|sd (cH G G (by unfold i64ok;omega))<|sy hg5<|sc rfl Try.func34 G G (dW _ _ _ _)<|sy hg5<|sr 1 rfl<|sz 10 G G G)<|so G G G<|sE ?_;clear H a;intro a H
   refine k24 _ ?_;clear k24 K24
   refine cond_ H rfl (fun hc6=>?_) (fun hc6=>?_)
   ·skip
    try simp only [o1,o2,o3,o4,o5,o6,o7,o8,o9,oa] at hc6
    replace H:=H.keep [] rfl
    refine sS H fun K25 k25=>sr 1 rfl<|sE ?_;clear H a;intro a H
    refine k25 _ ?_;clear k25 K25
    refine wp_ret ?_
    refine ret1 (fn:=Try.f15) rfl H rfl ?_
    first|(rw [eU hS hset hwk (fun q9 h1 h2=>hp.2.2 q9 h1 (by omega))];exact ⟨rfl,(S.sel [] G G)⟩)|(rw [show circE hz sw ws=30 from by first|exact dH (Bool.eq_false_iff.2 fun hb=>by have h9:=gU hb;omega)|exact dI (List.any_eq_true.2 ⟨sw.getD i 0,dQ (by omega),by unfold setB;simp only [Bool.not_eq_true',Bool.and_eq_false_iff,decide_eq_false_iff_not];omega⟩)|exact aS (by omega) (cG hc5 (by by_cases h9:(((ws.getD i Wr.zero).of.length:Nat):Int)=1;exact .inr (bV (k:=0) (by omega) (decide_eq_false (fun h8=>by have h7:0≤(ws.getD i Wr.zero).of.getD (Int.toNat 0) 0∧(ws.getD i Wr.zero).of.getD (Int.toNat 0) 0<(sw.length:Int):=h8;omega)));exact .inl h9))|exact aS (by omega) (eH hc5 (by assumption) (by assumption))|exact aS (by omega) (aZ hc5 (by first|exact .inl (by assumption)|exact .inr (by assumption)) (.inl (by omega)))|exact aS (by omega) (aZ hc5 (by first|exact .inl (by assumption)|exact .inr (by assumption)) (.inr (bV (k:=q) (by omega) (eS (by omega)))))|exact eT (q:=z) (by omega) (by assumption)];exact ⟨rfl,(S.sel [] G G)⟩)
   try simp only [o1,o2,o3,o4,o5,o6,o7,o8,o9,oa] at hc6
   refine wp_skip ?_
   refine k20 _ _ ?_
   replace S:=S.recell (i:=1) rfl (cell':=fun k _ => .int .i64 (heldN ws k (i+1))) (fun k j _ _=>congrArg (Value.int .i64) (by first|exact iC hc5|exact gC hc5 (by omega)))
   refine sO H<|sr 1 rfl<|sd (aH G G (by unfold i64ok;omega))<|sr 1 rfl<|sE ?_;clear H a;intro a H
   exact k17 (g2-1) (i+1) a _ (by omega) (⟨by omega,by omega,fun q9 hq9=>if h9:q9<i then hwk q9 h9 else by
         obtain rfl:q9=i:=by omega
         first|exact lP hc5 (by omega) (pP (by omega) hc6.2)|exact eG hc5 (.inl (by assumption)) (by omega) (gT fun z hz=>has z (by omega))|exact eG hc5 (.inr (by assumption)) (by omega) (gT fun z hz=>has z (by omega))⟩) (S.sel [1,2] G G) (H.keep [5,1,4] rfl)
  refine wp_seq_k fun K27 k27=>?_
  refine sS H fun K28 k28=>sr 2 rfl<|sE ?_;clear H a;intro a H
  refine k28 _ ?_;clear k28 K28
  refine condE H rfl (fun hc7=>?_) (fun hc7=>?_)
  ·skip
   refine wp_skip ?_
   refine k27 _ _ ?_
   refine cond_ H rfl (fun hc8=>?_) (fun hc8=>?_)
   ·skip
    try simp only [o1,o2,o3,o4,o5,o6,o7,o8,o9,oa] at hc8
    refine wp_seq_k fun K29 k29=>?_
    replace H:=H.keep [1,4,5,6] rfl
    refine sS H fun K30 k30=>sf bR rfl<|sl S 0 aW G G G<|sL aM rfl<|sc rfl Try.func34 G G (dW _ _ _ _)<|sr 1 rfl<|sE ?_;clear H a;intro a H
    refine k30 _ ?_;clear k30 K30
    refine cond_ H rfl (fun hc9=>?_) (fun hc9=>?_)
    ·skip
     try simp only [o1,o2,o3,o4,o5,o6,o7,o8,o9,oa] at hc9
     refine sS H fun K31 k31=>sr 1 rfl<|sE ?_;clear H a;intro a H
     refine k31 _ ?_;clear k31 K31
     refine wp_ret ?_
     refine ret1 (fn:=Try.f15) rfl H rfl ?_
     first|(rw [eU hS hset hwk (fun q9 h1 h2=>hp.2.2 q9 h1 (by omega))];exact ⟨rfl,(S.sel [] G G)⟩)|(rw [show circE hz sw ws=30 from by first|exact dH (Bool.eq_false_iff.2 fun hb=>by have h9:=gU hb;omega)|exact dI (List.any_eq_true.2 ⟨sw.getD i 0,dQ (by omega),by unfold setB;simp only [Bool.not_eq_true',Bool.and_eq_false_iff,decide_eq_false_iff_not];omega⟩)|exact aS (by omega) (cG hc5 (by by_cases h9:(((ws.getD i Wr.zero).of.length:Nat):Int)=1;exact .inr (bV (k:=0) (by omega) (decide_eq_false (fun h8=>by have h7:0≤(ws.getD i Wr.zero).of.getD (Int.toNat 0) 0∧(ws.getD i Wr.zero).of.getD (Int.toNat 0) 0<(sw.length:Int):=h8;omega)));exact .inl h9))|exact aS (by omega) (eH hc5 (by assumption) (by assumption))|exact aS (by omega) (aZ hc5 (by first|exact .inl (by assumption)|exact .inr (by assumption)) (.inl (by omega)))|exact aS (by omega) (aZ hc5 (by first|exact .inl (by assumption)|exact .inr (by assumption)) (.inr (bV (k:=q) (by omega) (eS (by omega)))))|exact eT (q:=z) (by omega) (by assumption)];exact ⟨rfl,(S.sel [] G G)⟩)
    try simp only [o1,o2,o3,o4,o5,o6,o7,o8,o9,oa] at hc9
    refine wp_skip ?_
    refine k29 _ _ ?_
    refine sS H fun K32 k32=>sr 2 rfl<|sE ?_;clear H a;intro a H
    refine k32 _ ?_;clear k32 K32
    refine sS H fun K33 k33=>sr 1 rfl<|sE ?_;clear H a;intro a H
    refine k33 _ ?_;clear k33 K33
    refine wp_block ?_
    replace S:=S.recell (i:=1) rfl (cell':=fun k _ => .int .i64 (heldN ws k i+cntO (ws.getD i Wr.zero).of k 0)) (fun k j _ hj=>congrArg (Value.int .i64) (Int.add_zero _).symm)
    refine loop_st (X:=Nat) (R0:=_) [1,4,5,6] H rfl (fun q=>[(7,.int .i64 (lstA (ws.getD i Wr.zero).of (i:Int) q)),(8,.int .i64 (q:Int))]) (fun q=>[ownM 3 1 AH ws.length ws.length (fun k _ => .int .i64 (heldN ws k i+cntO (ws.getD i Wr.zero).of k q))]) (fun g q=>q≤(ws.getD i Wr.zero).of.length∧g+q=(ws.getD i Wr.zero).of.length∧∀ z,z<q→ascP (ws.getD i Wr.zero).of ((i:Int)+1) ws.length z=true) ((ws.getD i Wr.zero).of.length) 0 ?_ (S.sel [1,0,2] G G) (H.keep [7,8,1,4,5,6] rfl) ?_
    · exact ⟨by omega,by omega,fun z hz=>absurd hz (Nat.not_lt_zero z)⟩
    clear H S a
    intro g3 x3 a w3 hp S H K34 k34
    obtain ⟨q,rfl⟩:∃ y,y=x3:=⟨_,rfl⟩
    obtain ⟨hq1,hq2,has⟩:=hp
    have hlb:=yX q has
    refine wp_seq_k fun K35 k35=>?_
    refine sS H fun K36 k36=>sr 1 rfl<|sf bR rfl<|sl S 1 aW G G G<|sL aM rfl<|sr 1 rfl<|sE ?_;clear H a;intro a H
    refine k36 _ ?_;clear k36 K36
    refine condL H rfl (fun hc10=>?_) (fun hc10=>?_)
    ·skip
     refine wp_skip ?_
     refine k35 _ _ ?_
     refine wp_seq_k fun K37 k37=>?_
     refine wp_block ?_
     refine wp_seq_k fun K38 k38=>?_
     replace H:=H.keep [1,4,5,6,7,8] rfl
     replace S:=S.drew
     refine sD H fun K39 k39=>sf bR rfl<|sl S 1 aW G G G<|sr 1 rfl<|si aM bC G G ((hof i (by omega)).adr (by omega)) (by omega)<|slm aE rfl ((hof i (by omega)).rd S (by omega) (by omega))<|sr 1 rfl<|sd (aH G G (by unfold i64ok;omega))<|sf cW rfl<|sl S 2 eA G G G<|sL fA rfl<|sd (cH G G (by unfold i64ok;omega))<|sc rfl Try.func34 G G (dW _ _ _ _)<|sr 1 rfl<|sE ?_;clear H a;intro a H
     refine k39 _ ?_;clear k39 K39
     refine cond_ H rfl (fun hc11=>?_) (fun hc11=>?_)
     ·skip
      try simp only [o1,o2,o3,o4,o5,o6,o7,o8,o9,oa] at hc11
      replace H:=H.keep [] rfl
      refine sS H fun K40 k40=>sr 1 rfl<|sE ?_;clear H a;intro a H
      refine k40 _ ?_;clear k40 K40
      refine wp_ret ?_
      refine ret1 (fn:=Try.f15) rfl H rfl ?_
      first|(rw [eU hS hset hwk (fun q9 h1 h2=>hp.2.2 q9 h1 (by omega))];exact ⟨rfl,(S.sel [] G G)⟩)|(rw [show circE hz sw ws=30 from by first|exact dH (Bool.eq_false_iff.2 fun hb=>by have h9:=gU hb;omega)|exact dI (List.any_eq_true.2 ⟨sw.getD i 0,dQ (by omega),by unfold setB;simp only [Bool.not_eq_true',Bool.and_eq_false_iff,decide_eq_false_iff_not];omega⟩)|exact aS (by omega) (cG hc5 (by by_cases h9:(((ws.getD i Wr.zero).of.length:Nat):Int)=1;exact .inr (bV (k:=0) (by omega) (decide_eq_false (fun h8=>by have h7:0≤(ws.getD i Wr.zero).of.getD (Int.toNat 0) 0∧(ws.getD i Wr.zero).of.getD (Int.toNat 0) 0<(sw.length:Int):=h8;omega)));exact .inl h9))|exact aS (by omega) (eH hc5 (by assumption) (by assumption))|exact aS (by omega) (aZ hc5 (by first|exact .inl (by assumption)|exact .inr (by assumption)) (.inl (by omega)))|exact aS (by omega) (aZ hc5 (by first|exact .inl (by assumption)|exact .inr (by assumption)) (.inr (bV (k:=q) (by omega) (eS (by omega)))))|exact eT (q:=z) (by omega) (by assumption)];exact ⟨rfl,(S.sel [] G G)⟩)
     try simp only [o1,o2,o3,o4,o5,o6,o7,o8,o9,oa] at hc11
     refine wp_skip ?_
     refine k38 _ _ ?_
     refine sS H fun K41 k41=>sf bR rfl<|sl S 1 aW G G G<|sr 1 rfl<|si aM bC G G ((hof i (by omega)).adr (by omega)) (by omega)<|slm aE rfl ((hof i (by omega)).rd S (by omega) (by omega))<|sr 1 rfl<|sE ?_;clear H a;intro a H
     refine k41 _ ?_;clear k41 K41
     have hhb:=mJ (sw:=sw) (ws:=ws) ((ws.getD i Wr.zero).of.getD q 0).toNat i hwk
     have hcb:=kT (l:=(ws.getD i Wr.zero).of) (k:=((ws.getD i Wr.zero).of.getD q 0).toNat) q
     replace H:=H.keep [1,4,5,6,7,8] rfl
     refine one_list ?_
     refine ls 6 H<|sr 2 rfl<|sI aM bC G G (ownM.adr S (i:=0) rfl (by omega)) (by omega) (by omega)<|slm aE rfl (ownM.rd S (i:=0) rfl (by omega) (by omega))<|sd (aH G G (by unfold i64ok;omega))<|sI aM bC G G (ownM.adr S (i:=0) rfl (by omega)) (by omega) (by omega)<|sE ?_;clear H a;intro a H
     refine bP H S (i:=0) G G G (by omega) (by omega) bC rfl ?_
     clear H a S;intro _ a S H
     replace S:=S.recell (i:=0) rfl (cell':=fun k _ => .int .i64 (heldN ws k i+cntO (ws.getD i Wr.zero).of k (q+1))) (fun k j _ hj=>kU (by omega) hj)
     refine k37 _ _ ?_
     replace H:=H.keep [1,4,5,6,7,8] rfl
     refine sO H<|sr 1 rfl<|sd (aH G G (by unfold i64ok;omega))<|sr 1 rfl<|sE ?_;clear H a;intro a H
     exact k34 (g3-1) (q+1) a _ (by omega) (⟨by omega,by omega,rM has (rN (by omega))⟩) (S.sel [0,1,2] G G) (H.keep [7,8,1,4,5,6] rfl)
    refine wp_exit ?_
    refine k20 _ _ ?_
    replace S:=S.recell (i:=0) rfl (cell':=fun k _ => .int .i64 (heldN ws k (i+1))) (fun k j _ _=>congrArg (Value.int .i64) (by first|exact iC hc5|exact gC hc5 (by omega)))
    refine sO H<|sr 1 rfl<|sd (aH G G (by unfold i64ok;omega))<|sr 1 rfl<|sE ?_;clear H a;intro a H
    exact k17 (g2-1) (i+1) a _ (by omega) (⟨by omega,by omega,fun q9 hq9=>if h9:q9<i then hwk q9 h9 else by
          obtain rfl:q9=i:=by omega
          first|exact lP hc5 (by omega) (pP (by omega) hc6.2)|exact eG hc5 (.inl (by assumption)) (by omega) (gT fun z hz=>has z (by omega))|exact eG hc5 (.inr (by assumption)) (by omega) (gT fun z hz=>has z (by omega))⟩) (S.sel [0,2] G G) (H.keep [5,1,4] rfl)
   try simp only [o1,o2,o3,o4,o5,o6,o7,o8,o9,oa] at hc8
   refine sS H fun K45 k45=>sr 1 rfl<|sE ?_;clear H a;intro a H
   refine k45 _ ?_;clear k45 K45
   refine wp_ret ?_
   refine ret1 (fn:=Try.f15) rfl H rfl ?_
   first|(rw [eU hS hset hwk (fun q9 h1 h2=>hp.2.2 q9 h1 (by omega))];exact ⟨rfl,(S.sel [] G G)⟩)|(rw [show circE hz sw ws=30 from by first|exact dH (Bool.eq_false_iff.2 fun hb=>by have h9:=gU hb;omega)|exact dI (List.any_eq_true.2 ⟨sw.getD i 0,dQ (by omega),by unfold setB;simp only [Bool.not_eq_true',Bool.and_eq_false_iff,decide_eq_false_iff_not];omega⟩)|exact aS (by omega) (cG hc5 (by by_cases h9:(((ws.getD i Wr.zero).of.length:Nat):Int)=1;exact .inr (bV (k:=0) (by omega) (decide_eq_false (fun h8=>by have h7:0≤(ws.getD i Wr.zero).of.getD (Int.toNat 0) 0∧(ws.getD i Wr.zero).of.getD (Int.toNat 0) 0<(sw.length:Int):=h8;omega)));exact .inl h9))|exact aS (by omega) (eH hc5 (by assumption) (by assumption))|exact aS (by omega) (aZ hc5 (by first|exact .inl (by assumption)|exact .inr (by assumption)) (.inl (by omega)))|exact aS (by omega) (aZ hc5 (by first|exact .inl (by assumption)|exact .inr (by assumption)) (.inr (bV (k:=q) (by omega) (eS (by omega)))))|exact eT (q:=z) (by omega) (by assumption)];exact ⟨rfl,(S.sel [] G G)⟩)
  refine sO H<|sr 2 rfl<|sE ?_;clear H a;intro a H
  refine k27 _ _ ?_
  refine condE H rfl (fun hc12=>?_) (fun hc12=>?_)
  ·skip
   refine wp_seq_k fun K47 k47=>?_
   replace H:=H.keep [1,4,5,6] rfl
   refine sS H fun K48 k48=>sf bR rfl<|sl S 0 aW G G G<|sL aM rfl<|sc rfl Try.func34 G G (dW _ _ _ _)<|sr 1 rfl<|sE ?_;clear H a;intro a H
   refine k48 _ ?_;clear k48 K48
   refine cond_ H rfl (fun hc13=>?_) (fun hc13=>?_)
   ·skip
    try simp only [o1,o2,o3,o4,o5,o6,o7,o8,o9,oa] at hc13
    refine sS H fun K49 k49=>sr 1 rfl<|sE ?_;clear H a;intro a H
    refine k49 _ ?_;clear k49 K49
    refine wp_ret ?_
    refine ret1 (fn:=Try.f15) rfl H rfl ?_
    first|(rw [eU hS hset hwk (fun q9 h1 h2=>hp.2.2 q9 h1 (by omega))];exact ⟨rfl,(S.sel [] G G)⟩)|(rw [show circE hz sw ws=30 from by first|exact dH (Bool.eq_false_iff.2 fun hb=>by have h9:=gU hb;omega)|exact dI (List.any_eq_true.2 ⟨sw.getD i 0,dQ (by omega),by unfold setB;simp only [Bool.not_eq_true',Bool.and_eq_false_iff,decide_eq_false_iff_not];omega⟩)|exact aS (by omega) (cG hc5 (by by_cases h9:(((ws.getD i Wr.zero).of.length:Nat):Int)=1;exact .inr (bV (k:=0) (by omega) (decide_eq_false (fun h8=>by have h7:0≤(ws.getD i Wr.zero).of.getD (Int.toNat 0) 0∧(ws.getD i Wr.zero).of.getD (Int.toNat 0) 0<(sw.length:Int):=h8;omega)));exact .inl h9))|exact aS (by omega) (eH hc5 (by assumption) (by assumption))|exact aS (by omega) (aZ hc5 (by first|exact .inl (by assumption)|exact .inr (by assumption)) (.inl (by omega)))|exact aS (by omega) (aZ hc5 (by first|exact .inl (by assumption)|exact .inr (by assumption)) (.inr (bV (k:=q) (by omega) (eS (by omega)))))|exact eT (q:=z) (by omega) (by assumption)];exact ⟨rfl,(S.sel [] G G)⟩)
   try simp only [o1,o2,o3,o4,o5,o6,o7,o8,o9,oa] at hc13
   refine wp_skip ?_
   refine k47 _ _ ?_
   refine sS H fun K50 k50=>sr 2 rfl<|sE ?_;clear H a;intro a H
   refine k50 _ ?_;clear k50 K50
   refine sS H fun K51 k51=>sr 1 rfl<|sE ?_;clear H a;intro a H
   refine k51 _ ?_;clear k51 K51
   refine wp_block ?_
   replace S:=S.recell (i:=1) rfl (cell':=fun k _ => .int .i64 (heldN ws k i+cntO (ws.getD i Wr.zero).of k 0)) (fun k j _ hj=>congrArg (Value.int .i64) (Int.add_zero _).symm)
   refine loop_st (X:=Nat) (R0:=_) [1,4,5,6] H rfl (fun q=>[(7,.int .i64 (lstA (ws.getD i Wr.zero).of (i:Int) q)),(8,.int .i64 (q:Int))]) (fun q=>[ownM 3 1 AH ws.length ws.length (fun k _ => .int .i64 (heldN ws k i+cntO (ws.getD i Wr.zero).of k q))]) (fun g q=>q≤(ws.getD i Wr.zero).of.length∧g+q=(ws.getD i Wr.zero).of.length∧∀ z,z<q→ascP (ws.getD i Wr.zero).of ((i:Int)+1) ws.length z=true) ((ws.getD i Wr.zero).of.length) 0 ?_ (S.sel [1,0,2] G G) (H.keep [7,8,1,4,5,6] rfl) ?_
   · exact ⟨by omega,by omega,fun z hz=>absurd hz (Nat.not_lt_zero z)⟩
   clear H S a
   intro g4 x4 a w4 hp S H K52 k52
   obtain ⟨q,rfl⟩:∃ y,y=x4:=⟨_,rfl⟩
   obtain ⟨hq1,hq2,has⟩:=hp
   have hlb:=yX q has
   refine wp_seq_k fun K53 k53=>?_
   refine sS H fun K54 k54=>sr 1 rfl<|sf bR rfl<|sl S 1 aW G G G<|sL aM rfl<|sr 1 rfl<|sE ?_;clear H a;intro a H
   refine k54 _ ?_;clear k54 K54
   refine condL H rfl (fun hc14=>?_) (fun hc14=>?_)
   ·skip
    refine wp_skip ?_
    refine k53 _ _ ?_
    refine wp_seq_k fun K55 k55=>?_
    refine wp_block ?_
    refine wp_seq_k fun K56 k56=>?_
    replace H:=H.keep [1,4,5,6,7,8] rfl
    replace S:=S.drew
    refine sD H fun K57 k57=>sf bR rfl<|sl S 1 aW G G G<|sr 1 rfl<|si aM bC G G ((hof i (by omega)).adr (by omega)) (by omega)<|slm aE rfl ((hof i (by omega)).rd S (by omega) (by omega))<|sr 1 rfl<|sd (aH G G (by unfold i64ok;omega))<|sf cW rfl<|sl S 2 eA G G G<|sL fA rfl<|sd (cH G G (by unfold i64ok;omega))<|sc rfl Try.func34 G G (dW _ _ _ _)<|sr 1 rfl<|sE ?_;clear H a;intro a H
    refine k57 _ ?_;clear k57 K57
    refine cond_ H rfl (fun hc15=>?_) (fun hc15=>?_)
    ·skip
     try simp only [o1,o2,o3,o4,o5,o6,o7,o8,o9,oa] at hc15
     replace H:=H.keep [] rfl
     refine sS H fun K58 k58=>sr 1 rfl<|sE ?_;clear H a;intro a H
     refine k58 _ ?_;clear k58 K58
     refine wp_ret ?_
     refine ret1 (fn:=Try.f15) rfl H rfl ?_
     first|(rw [eU hS hset hwk (fun q9 h1 h2=>hp.2.2 q9 h1 (by omega))];exact ⟨rfl,(S.sel [] G G)⟩)|(rw [show circE hz sw ws=30 from by first|exact dH (Bool.eq_false_iff.2 fun hb=>by have h9:=gU hb;omega)|exact dI (List.any_eq_true.2 ⟨sw.getD i 0,dQ (by omega),by unfold setB;simp only [Bool.not_eq_true',Bool.and_eq_false_iff,decide_eq_false_iff_not];omega⟩)|exact aS (by omega) (cG hc5 (by by_cases h9:(((ws.getD i Wr.zero).of.length:Nat):Int)=1;exact .inr (bV (k:=0) (by omega) (decide_eq_false (fun h8=>by have h7:0≤(ws.getD i Wr.zero).of.getD (Int.toNat 0) 0∧(ws.getD i Wr.zero).of.getD (Int.toNat 0) 0<(sw.length:Int):=h8;omega)));exact .inl h9))|exact aS (by omega) (eH hc5 (by assumption) (by assumption))|exact aS (by omega) (aZ hc5 (by first|exact .inl (by assumption)|exact .inr (by assumption)) (.inl (by omega)))|exact aS (by omega) (aZ hc5 (by first|exact .inl (by assumption)|exact .inr (by assumption)) (.inr (bV (k:=q) (by omega) (eS (by omega)))))|exact eT (q:=z) (by omega) (by assumption)];exact ⟨rfl,(S.sel [] G G)⟩)
    try simp only [o1,o2,o3,o4,o5,o6,o7,o8,o9,oa] at hc15
    refine wp_skip ?_
    refine k56 _ _ ?_
    refine sS H fun K59 k59=>sf bR rfl<|sl S 1 aW G G G<|sr 1 rfl<|si aM bC G G ((hof i (by omega)).adr (by omega)) (by omega)<|slm aE rfl ((hof i (by omega)).rd S (by omega) (by omega))<|sr 1 rfl<|sE ?_;clear H a;intro a H
    refine k59 _ ?_;clear k59 K59
    have hhb:=mJ (sw:=sw) (ws:=ws) ((ws.getD i Wr.zero).of.getD q 0).toNat i hwk
    have hcb:=kT (l:=(ws.getD i Wr.zero).of) (k:=((ws.getD i Wr.zero).of.getD q 0).toNat) q
    replace H:=H.keep [1,4,5,6,7,8] rfl
    refine one_list ?_
    refine ls 6 H<|sr 2 rfl<|sI aM bC G G (ownM.adr S (i:=0) rfl (by omega)) (by omega) (by omega)<|slm aE rfl (ownM.rd S (i:=0) rfl (by omega) (by omega))<|sd (aH G G (by unfold i64ok;omega))<|sI aM bC G G (ownM.adr S (i:=0) rfl (by omega)) (by omega) (by omega)<|sE ?_;clear H a;intro a H
    refine bP H S (i:=0) G G G (by omega) (by omega) bC rfl ?_
    clear H a S;intro _ a S H
    replace S:=S.recell (i:=0) rfl (cell':=fun k _ => .int .i64 (heldN ws k i+cntO (ws.getD i Wr.zero).of k (q+1))) (fun k j _ hj=>kU (by omega) hj)
    refine k55 _ _ ?_
    replace H:=H.keep [1,4,5,6,7,8] rfl
    refine sO H<|sr 1 rfl<|sd (aH G G (by unfold i64ok;omega))<|sr 1 rfl<|sE ?_;clear H a;intro a H
    exact k52 (g4-1) (q+1) a _ (by omega) (⟨by omega,by omega,rM has (rN (by omega))⟩) (S.sel [0,1,2] G G) (H.keep [7,8,1,4,5,6] rfl)
   refine wp_exit ?_
   refine k20 _ _ ?_
   replace S:=S.recell (i:=0) rfl (cell':=fun k _ => .int .i64 (heldN ws k (i+1))) (fun k j _ _=>congrArg (Value.int .i64) (by first|exact iC hc5|exact gC hc5 (by omega)))
   refine sO H<|sr 1 rfl<|sd (aH G G (by unfold i64ok;omega))<|sr 1 rfl<|sE ?_;clear H a;intro a H
   exact k17 (g2-1) (i+1) a _ (by omega) (⟨by omega,by omega,fun q9 hq9=>if h9:q9<i then hwk q9 h9 else by
         obtain rfl:q9=i:=by omega
         first|exact lP hc5 (by omega) (pP (by omega) hc6.2)|exact eG hc5 (.inl (by assumption)) (by omega) (gT fun z hz=>has z (by omega))|exact eG hc5 (.inr (by assumption)) (by omega) (gT fun z hz=>has z (by omega))⟩) (S.sel [0,2] G G) (H.keep [5,1,4] rfl)
  refine sS H fun K63 k63=>sr 1 rfl<|sE ?_;clear H a;intro a H
  refine k63 _ ?_;clear k63 K63
  refine wp_ret ?_
  refine ret1 (fn:=Try.f15) rfl H rfl ?_
  first|(rw [eU hS hset hwk (fun q9 h1 h2=>hp.2.2 q9 h1 (by omega))];exact ⟨rfl,(S.sel [] G G)⟩)|(rw [show circE hz sw ws=30 from by first|exact dH (Bool.eq_false_iff.2 fun hb=>by have h9:=gU hb;omega)|exact dI (List.any_eq_true.2 ⟨sw.getD i 0,dQ (by omega),by unfold setB;simp only [Bool.not_eq_true',Bool.and_eq_false_iff,decide_eq_false_iff_not];omega⟩)|exact aS (by omega) (cG hc5 (by by_cases h9:(((ws.getD i Wr.zero).of.length:Nat):Int)=1;exact .inr (bV (k:=0) (by omega) (decide_eq_false (fun h8=>by have h7:0≤(ws.getD i Wr.zero).of.getD (Int.toNat 0) 0∧(ws.getD i Wr.zero).of.getD (Int.toNat 0) 0<(sw.length:Int):=h8;omega)));exact .inl h9))|exact aS (by omega) (eH hc5 (by assumption) (by assumption))|exact aS (by omega) (aZ hc5 (by first|exact .inl (by assumption)|exact .inr (by assumption)) (.inl (by omega)))|exact aS (by omega) (aZ hc5 (by first|exact .inl (by assumption)|exact .inr (by assumption)) (.inr (bV (k:=q) (by omega) (eS (by omega)))))|exact eT (q:=z) (by omega) (by assumption)];exact ⟨rfl,(S.sel [] G G)⟩)
 refine wp_exit ?_
 refine k15 _ _ ?_
 refine wp_seq_k fun K64 k64=>?_
 obtain rfl:i=ws.length:=by omega
 refine sS H fun K65 k65=>sr 1 rfl<|sE ?_;clear H a;intro a H
 refine k65 _ ?_;clear k65 K65
 refine wp_block ?_
 refine loop_st (X:=Nat) (R0:=_) [4] H rfl (fun z=>[(9,.int .i64 ((z:Int)+1))]) (fun z=>[ownM 3 1 AH ws.length ws.length (fun k _ => .int .i64 (heldN ws k ws.length))]) (fun g z=>z+1≤ws.length∧g+z+1=ws.length∧∀ q,1≤q→q<z+1→heldN ws q ws.length=1) ((ws.length-1)) 0 ?_ (S.sel [0,1] G G) (H.keep [9,4] rfl) ?_
 · exact ⟨by omega,by omega,fun q9 h1 h2=>absurd h2 (by omega)⟩
 clear H S a
 intro g5 x5 a w5 hp S H K66 k66
 obtain ⟨z,rfl⟩:∃ y,y=x5:=⟨_,rfl⟩
 refine wp_seq_k fun K67 k67=>?_
 refine sS H fun K68 k68=>sr 2 rfl<|sL aM rfl<|sr 1 rfl<|sE ?_;clear H a;intro a H
 refine k68 _ ?_;clear k68 K68
 refine condL H rfl (fun hc16=>?_) (fun hc16=>?_)
 ·skip
  refine wp_skip ?_
  refine k67 _ _ ?_
  refine wp_seq_k fun K69 k69=>?_
  refine wp_block ?_
  refine sS H fun K70 k70=>sr 2 rfl<|sI aM bC G G (ownM.adr S (i:=0) rfl (by omega)) (by omega) (by omega)<|slm aE rfl (ownM.rd S (i:=0) rfl (by omega) (by omega))<|sr 1 rfl<|sE ?_;clear H a;intro a H
  refine k70 _ ?_;clear k70 K70
  refine condN H rfl (fun hc17=>?_) (fun hc17=>?_)
  ·skip
   replace H:=H.keep [] rfl
   refine sS H fun K71 k71=>sr 1 rfl<|sE ?_;clear H a;intro a H
   refine k71 _ ?_;clear k71 K71
   refine wp_ret ?_
   refine ret1 (fn:=Try.f15) rfl H rfl ?_
   first|(rw [eU hS hset hwk (fun q9 h1 h2=>hp.2.2 q9 h1 (by omega))];exact ⟨rfl,(S.sel [] G G)⟩)|(rw [show circE hz sw ws=30 from by first|exact dH (Bool.eq_false_iff.2 fun hb=>by have h9:=gU hb;omega)|exact dI (List.any_eq_true.2 ⟨sw.getD i 0,dQ (by omega),by unfold setB;simp only [Bool.not_eq_true',Bool.and_eq_false_iff,decide_eq_false_iff_not];omega⟩)|exact aS (by omega) (cG hc5 (by by_cases h9:(((ws.getD i Wr.zero).of.length:Nat):Int)=1;exact .inr (bV (k:=0) (by omega) (decide_eq_false (fun h8=>by have h7:0≤(ws.getD i Wr.zero).of.getD (Int.toNat 0) 0∧(ws.getD i Wr.zero).of.getD (Int.toNat 0) 0<(sw.length:Int):=h8;omega)));exact .inl h9))|exact aS (by omega) (eH hc5 (by assumption) (by assumption))|exact aS (by omega) (aZ hc5 (by first|exact .inl (by assumption)|exact .inr (by assumption)) (.inl (by omega)))|exact aS (by omega) (aZ hc5 (by first|exact .inl (by assumption)|exact .inr (by assumption)) (.inr (bV (k:=q) (by omega) (eS (by omega)))))|exact eT (q:=z) (by omega) (by assumption)];exact ⟨rfl,(S.sel [] G G)⟩)
  refine wp_skip ?_
  refine k69 _ _ ?_
  refine sO H<|sr 1 rfl<|sd (aH G G (by unfold i64ok;omega))<|sr 1 rfl<|sE ?_;clear H a;intro a H
  exact k66 (g5-1) (z+1) a _ (by omega) (⟨by omega,by omega,fun q9 h1 h2=>if h9:q9<z+1 then hp.2.2 q9 h1 h9 else by
    obtain rfl:q9=z+1:=by omega
    have e9:((z:Int)+1).toNat=z+1:=by omega
    rw [e9] at hc17
    exact hc17⟩) (S.sel [0,1] G G) (H.keep [9,4] rfl)
 refine wp_exit ?_
 refine k64 _ _ ?_
 refine sS H fun K73 k73=>sr 1 rfl<|sE ?_;clear H a;intro a H
 refine k73 _ ?_;clear k73 K73
 refine wp_ret ?_
 refine ret1 (fn:=Try.f15) rfl H rfl ?_
 first|(rw [eU hS hset hwk (fun q9 h1 h2=>hp.2.2 q9 h1 (by omega))];exact ⟨rfl,(S.sel [] G G)⟩)|(rw [show circE hz sw ws=30 from by first|exact dH (Bool.eq_false_iff.2 fun hb=>by have h9:=gU hb;omega)|exact dI (List.any_eq_true.2 ⟨sw.getD i 0,dQ (by omega),by unfold setB;simp only [Bool.not_eq_true',Bool.and_eq_false_iff,decide_eq_false_iff_not];omega⟩)|exact aS (by omega) (cG hc5 (by by_cases h9:(((ws.getD i Wr.zero).of.length:Nat):Int)=1;exact .inr (bV (k:=0) (by omega) (decide_eq_false (fun h8=>by have h7:0≤(ws.getD i Wr.zero).of.getD (Int.toNat 0) 0∧(ws.getD i Wr.zero).of.getD (Int.toNat 0) 0<(sw.length:Int):=h8;omega)));exact .inl h9))|exact aS (by omega) (eH hc5 (by assumption) (by assumption))|exact aS (by omega) (aZ hc5 (by first|exact .inl (by assumption)|exact .inr (by assumption)) (.inl (by omega)))|exact aS (by omega) (aZ hc5 (by first|exact .inl (by assumption)|exact .inr (by assumption)) (.inr (bV (k:=q) (by omega) (eS (by omega)))))|exact eT (q:=z) (by omega) (by assumption)];exact ⟨rfl,(S.sel [] G G)⟩)
theorem zA (hz:Int) (sw:List Int) (SA:Option Addr) (sc:Nat) (ws:List Wr) (QA:Option Addr) (qc:Nat) (OA:Nat→Option Addr) (oc:Nat→Nat) (ha cl op:Int) (w:World) (hsw:InS w noF 1 SA sw.length (icl sw)) (hws:InS w noF 2 QA ws.length (cV ws OA oc)) (hof:∀ k,k<ws.length→InS w noF 1 (OA k) (ws.getD k Wr.zero).of.length (icl (ws.getD k Wr.zero).of)) (hsn:sw.length≤9223372036854775807) (hwn:ws.length≤9223372036854775807) (hofn:∀ k,k<ws.length→(ws.getD k Wr.zero).of.length≤9223372036854775807) (hE:circE hz sw ws=0) :
    Calls Try.prog 17 [.agg [.int .i64 hz,.slice SA sw.length sc,.slice QA ws.length qc].toArray,.int .i64 ha,.int .i64 cl,.int .i64 op].toArray w (Ret (fun u w'=>∃ (b:Bool) (e:Int),u = .tuple #[.bool b,.int .i64 e]∧(e=0∨e=1)∧St w noF [] w')):=by
 refine enter Try.func17 rfl Try.ntmps17 rfl (fun a H=>?_)
 have S:=St.start w
 refine seq_list fun K1 k1=>?_
 refine aV H rfl S G G ?_;clear H a S;intro b4 _ a hb4 hbw4 S H
 refine ls 2 H<|sr 2 rfl<|sE ?_;clear H a;intro a H
 refine k1 _ _ ?_;clear k1 K1
 refine wp_seq_k fun K2 k2=>?_
 refine seq_list fun K3 k3=>?_
 refine ls 1 H<|sd ((aD cJ bY rfl S (i:=0) G G))<|sE ?_;clear H a;intro a H
 refine aA H G G Try.func38 G G (oH hz sw SA sc ws QA qc OA oc _ (hsw.now S) (hws.now S) (fun k hk=>(hof k hk).now S) hsn hwn hofn) ?_;clear H a
 rintro _ _ a ⟨rfl,S2⟩ H
 replace S:=S.call S2;clear S2
 refine ls 1 H<|sr 1 rfl<|sE ?_;clear H a;intro a H
 refine k3 _ _ ?_;clear k3 K3
 refine sS H fun K4 k4=>sr 2 rfl<|sE ?_;clear H a;intro a H
 refine k4 _ ?_;clear k4 K4
 refine condN H rfl (fun hc1=>?_) (fun hc1=>?_)
 ·skip
  exact absurd hE hc1
 have V:=kB (pL hE)
 have hV1:=V.hzb
 have hV2:=V.nsw
 have hV3:=V.nws
 refine wp_skip ?_
 refine k2 _ _ ?_
 refine wp_seq_k fun K5 k5=>?_
 replace H:=H.keep [1,2,3,4] rfl
 refine seq_list fun K6 k6=>?_
 refine ls 3 H<|sr 1 rfl<|sf iL rfl<|sl S 0 aE G G G<|sE ?_;clear H a;intro a H
 refine aA H G G Try.func39 G G (jP _ _ _ (by omega)) ?_;clear H a
 rintro _ _ a ⟨rfl,S2⟩ H
 replace S:=S.call S2;clear S2
 refine ls 2 H<|sr 2 rfl<|sE ?_;clear H a;intro a H
 apply bT (i:=5) (g:=21) (t:=27) (b:=false) 6 H S G G (by kernel_rfl) (by kernel_rfl) G G
 case h1=>
  intro hg6
  refine ls 4 H<|sy hg6<|sr 1 rfl<|sy hg6<|sf dC rfl<|sy hg6<|sl S 0 aW G G G<|sy hg6<|sL aM rfl<|sE ?_;intro a H
  refine cL H G G (by assumption) ?_
  refine aA H G G Try.func39 G G (jP _ _ _ (by omega)) ?_
  rintro _ _ a ⟨rfl,S2⟩ H
  replace S:=S.call S2;clear S2
  refine ls 1 H<|sy hg6<|sr 1 rfl<|sE ?_;intro a H
  exact wpList_nil ⟨H.strip 6 G G,(S.sel [0] G G)⟩
 clear H a S;intro a _ H S
 refine ls 2 H<|so G G G<|sr 1 rfl<|sE ?_;clear H a;intro a H
 apply bT (i:=13) (g:=29) (t:=35) (b:=false) 6 H S G G (by kernel_rfl) (by kernel_rfl) G G
 case h1=>
  intro hg14
  refine ls 4 H<|sy hg14<|sr 1 rfl<|sy hg14<|sf dC rfl<|sy hg14<|sl S 0 aW G G G<|sy hg14<|sL aM rfl<|sE ?_;intro a H
  refine cL H G G (by assumption) ?_
  refine aA H G G Try.func39 G G (jP _ _ _ (by omega)) ?_
  rintro _ _ a ⟨rfl,S2⟩ H
  replace S:=S.call S2;clear S2
  refine ls 1 H<|sy hg14<|sr 1 rfl<|sE ?_;intro a H
  exact wpList_nil ⟨H.strip 6 G G,(S.sel [0] G G)⟩
 clear H a S;intro a _ H S
 refine ls 1 H<|so G G G<|sE ?_;clear H a;intro a H
 refine k6 _ _ ?_;clear k6 K6
 refine cond_ H rfl (fun hc2=>?_) (fun hc2=>?_)
 ·skip
  try simp only [o1,o2,o3,o4,o5,o6,o7,o8,o9,oa] at hc2
  replace H:=H.keep [] rfl
  refine sS H fun K7 k7=>sr 2 rfl<|sE ?_;clear H a;intro a H
  refine k7 _ ?_;clear k7 K7
  refine wp_ret ?_
  refine ret2 (fn:=Try.f17) rfl H G G ?_
  first|exact ⟨_,_,rfl,.inl rfl,(S.sel [] G G)⟩|exact ⟨_,_,rfl,.inr rfl,(S.sel [] G G)⟩
 try simp only [o1,o2,o3,o4,o5,o6,o7,o8,o9,oa] at hc2
 refine wp_skip ?_
 refine k5 _ _ ?_
 replace H:=H.keep [1,2,3,4] rfl
 refine seq_list fun K8 k8=>?_
 refine ls 5 H<|sd ((aD cJ bY rfl S (i:=0) G G))<|sr 3 rfl<|sd (aO yN G G)<|sE ?_;clear H a;intro a H
 refine aA H G G Try.func40 G G (rH hz sw SA sc ws QA qc OA oc ha cl op V (pO hc2.1.1 (by omega)) (pO hc2.1.2 (by omega)) (pO hc2.2 (by omega)) ws.length 0 _ (by omega) (by omega) (hsw.now S) (hws.now S) (fun k hk=>(hof k hk).now S)) ?_;clear H a
 rintro _ _ a ⟨rfl,S2⟩ H
 replace S:=S.call S2;clear S2
 refine ls 2 H<|sr 2 rfl<|sE ?_;clear H a;intro a H
 refine k8 _ _ ?_;clear k8 K8
 refine wp_ret ?_
 refine ret2 (fn:=Try.f17) rfl H G G ?_
 first|exact ⟨_,_,rfl,.inl rfl,(S.sel [] G G)⟩|exact ⟨_,_,rfl,.inr rfl,(S.sel [] G G)⟩
end
section
theorem two {p:Nat→Prop} (h0:p 0) (h1:p 1):∀ j,j<2→p j:=by
  intro j hj
  rcases (show j=0∨j=1 by omega) with rfl|rfl
  · exact h0
  · exact h1
section
variable {hz:Int} {sw:List Int} {ws:List Wr} {al:List Int} {a q n n2:Nat} {b:Int}
theorem pQ (h:pairB hz sw ws al (a:Int) b=true) (hb:b=(a:Int)+1+(q:Int)) (hn:n2=n+pcIn hz sw ws al a q):n2+1=n+pcIn hz sw ws al a (q+1):=by
  subst hb;rw [pcIn,if_pos h];omega
theorem has3:∀ x y:Bool,x=true∨(x=false∧y=true)∨(x=false∧y=false):=by decide
theorem pR (hA:hasC al (a:Int)=true):¬ pairB hz sw ws al (a:Int) b=true:=by unfold pairB;rw [hA];simp
theorem pS (hA:hasC al b=true):¬ pairB hz sw ws al (a:Int) b=true:=by unfold pairB;rw [hA];simp
theorem fU (hA:hasC al (a:Int)=false) (hB:hasC al b=false):pairB hz sw ws al (a:Int) b=decide (0<(wkN hz sw ws (lorI (1*2^(a:Int).toNat) (1*2^b.toNat)) hz.toNat).length):=by unfold pairB;rw [hA,hB];rfl
theorem fW (h:¬ pairB hz sw ws al (a:Int) b=true) (hb:b=(a:Int)+1+(q:Int)) (hn:n2=n+pcIn hz sw ws al a q):n2=n+pcIn hz sw ws al a (q+1):=by
  subst hb;rw [pcIn,if_neg h];exact hn
end
theorem cP (hz:Int) (sw:List Int) (SA:Option Addr) (sc:Nat) (ws:List Wr) (QA:Option Addr) (qc:Nat) (OA:Nat→Option Addr) (oc:Nat→Nat) (w:World) (hsw:InS w noF 1 SA sw.length (icl sw)) (hws:InS w noF 2 QA ws.length (cV ws OA oc)) (hof:∀ k,k<ws.length→InS w noF 1 (OA k) (ws.getD k Wr.zero).of.length (icl (ws.getD k Wr.zero).of)) (hE:circE hz sw ws=0) :
    Calls Try.prog 26 [.agg [.int .i64 hz,.slice SA sw.length sc,.slice QA ws.length qc].toArray].toArray w (Ret (fun u w'=>∃ A' c',u = .tuple #[.slice A' (pcOut hz sw ws (critN hz sw ws sw.length) sw.length) c',.int .i64 0]∧St w noF [] w')):=by
 have V:=kB (pL hE)
 have hns:=V.nsw
 have hnw:=V.nws
 have hzb:=V.hzb
 have hof9:=uP V
 have hcl9:=oF (hz:=hz) (sw:=sw) (ws:=ws) sw.length
 refine enter Try.func26 rfl Try.ntmps26 rfl (fun a H=>?_)
 have S:=St.start w
 refine seq_list fun K1 k1=>?_
 refine aV H rfl S G G ?_;clear H a S;intro b1 _ a hb1 hbw1 S H
 refine ls 2 H<|sr 2 rfl<|sE ?_;clear H a;intro a H
 refine k1 _ _ ?_;clear k1 K1
 replace H:=H.keep [1] rfl
 refine seq_list fun K2 k2=>?_
 refine ls 1 H<|sd ((aD cJ bY rfl S (i:=0) G G))<|sE ?_;clear H a;intro a H
 refine aA H G G Try.func50 G G (pN hz sw SA sc ws QA qc OA oc _ (hsw.now S) (hws.now S) (fun k hk=>(hof k hk).now S) hE) ?_;clear H a
 rintro _ _ a ⟨A8,c8,rfl,S2⟩ H
 replace S:=S.call S2;clear S2
 refine ls 5 H<|sr 5 rfl<|sE ?_;clear H a;intro a H
 refine k2 _ _ ?_;clear k2 K2
 refine wp_seq_k fun K3 k3=>?_
 refine sS H fun K4 k4=>sr 2 rfl<|sE ?_;clear H a;intro a H
 refine k4 _ ?_;clear k4 K4
 refine condN H rfl (fun hc1=>?_) (fun hc1=>?_)
 ·skip
  replace H:=H.keep [5] rfl
  refine sS H fun K5 k5=>sr 3 rfl<|sE ?_;clear H a;intro a H
  refine k5 _ ?_;clear k5 K5
  refine wp_ret ?_
  refine ret2 (fn:=Try.f26) rfl H G G ?_
  exact absurd rfl hc1
 refine wp_skip ?_
 refine k3 _ _ ?_
 refine sS H fun K6 k6=>sr 1 rfl<|sE ?_;clear H a;intro a H
 refine k6 _ ?_;clear k6 K6
 refine wp_seq_k fun K7 k7=>?_
 refine sS H fun K8 k8=>sf dC rfl<|sl S 1 aW G G G<|sL aM rfl<|sr 1 rfl<|sE ?_;clear H a;intro a H
 refine k8 _ ?_;clear k8 K8
 refine wp_block ?_
 replace S:=S.newNil 126 2 (fun _ _=>undef)
 refine loop_st (X:=Nat×Nat×Option Addr×Nat×(Nat→Nat→Value)) (R0:=_) [1,4,19] H rfl (fun ⟨u,n,A9,c9,cl9⟩=>[(6,.slice A9 n c9),(20,.int .i64 (u:Int))]) (fun ⟨u,n,A9,c9,cl9⟩=>[ownM 126 2 A9 n c9 cl9]) (fun g ⟨u,n,A9,c9,cl9⟩=>u≤sw.length∧g+u=sw.length∧n=pcOut hz sw ws (critN hz sw ws sw.length) u) (sw.length) (0,0,none,0,fun _ _=>undef) ?_ (S.sel [0,1,2] G G) (H.keep [6,20,1,4,19] rfl) ?_
 · exact ⟨by omega,by omega,rfl⟩
 clear H S a
 intro g1 x1 a w1 hp S H K9 k9
 obtain ⟨u,n,A9,c9,cl9⟩:=x1
 dsimp only at hp S H
 obtain ⟨hu1,hu2,hn1⟩:=hp
 refine sS H fun K10 k10=>sr 1 rfl<|sE ?_;clear H a;intro a H
 refine k10 _ ?_;clear k10 K10
 refine wp_seq_k fun K11 k11=>?_
 refine condL H rfl (fun hc2=>?_) (fun hc2=>?_)
 ·skip
  refine wp_skip ?_
  refine k11 _ _ ?_
  refine wp_seq_k fun K12 k12=>?_
  refine wp_block ?_
  refine sS H fun K13 k13=>sr 2 rfl<|sE ?_;clear H a;intro a H
  refine k13 _ ?_;clear k13 K13
  refine sS H fun K14 k14=>sr 1 rfl<|sd (aH G G (by unfold i64ok;omega))<|sr 1 rfl<|sE ?_;clear H a;intro a H
  refine k14 _ ?_;clear k14 K14
  refine wp_block ?_
  refine loop_st (X:=Nat×Int×Nat×Option Addr×Nat×(Nat→Nat→Value)) (R0:=_) [1,4,7,19,20] H rfl (fun ⟨q,b,n2,A7,c7,cl7⟩=>[(6,.slice A7 n2 c7),(8,.int .i64 b)]) (fun ⟨q,b,n2,A7,c7,cl7⟩=>[ownM 126 2 A7 n2 c7 cl7]) (fun g ⟨q,b,n2,A7,c7,cl7⟩=>u+1+q≤sw.length∧g+u+1+q=sw.length∧n2=n+pcIn hz sw ws (critN hz sw ws sw.length) u q∧b=(u:Int)+1+(q:Int)) (sw.length-(u+1)) (0,(u:Int)+1,n,A9,c9,cl9) ?_ (S.sel [0,1,2] G G) (H.keep [6,8,1,4,7,19,20] rfl) ?_
  · exact ⟨by omega,by omega,rfl,by omega⟩
  clear H S a
  intro g2 x2 a w2 hp S H K15 k15
  obtain ⟨q,b,n2,A7,c7,cl7⟩:=x2
  dsimp only at hp S H
  obtain ⟨hq1,hq2,hn2,hb2⟩:=hp
  obtain ⟨y,rfl⟩:∃ y:Nat,b=y:=⟨u+1+q,by omega⟩
  refine wp_seq_k fun K16 k16=>?_
  refine sS H fun K17 k17=>sr 1 rfl<|sf dC rfl<|sl S 2 aW G G G<|sL aM rfl<|sr 1 rfl<|sE ?_;clear H a;intro a H
  refine k17 _ ?_;clear k17 K17
  refine condL H rfl (fun hc3=>?_) (fun hc3=>?_)
  ·skip
   refine wp_skip ?_
   refine k16 _ _ ?_
   refine wp_seq_k fun K18 k18=>?_
   refine wp_block ?_
   rcases has3 (hasC (critN hz sw ws sw.length) (u:Int)) (hasC (critN hz sw ws sw.length) (y:Int)) with hA|⟨hA,hB⟩|⟨hA,hB⟩
   ·skip
    have hsh:=pwc (h:=u) (by omega)
    have hsh2:=pwc (h:=y) (by omega)
    have hwl9:=mI (hz:=hz) (sw:=sw) (ws:=ws) (cl:=lorI (1*2^(u:Int).toNat) (1*2^(y:Int).toNat)) hz.toNat
    replace H:=H.keep [1,4,6,7,8,19,20] rfl
    replace S:=S.drew
    refine seq_wq [(0,true),(1,true),(2,false),(3,true),(4,true),(5,true),(6,true),(7,true),(8,true),(9,true),(10,true),(11,true),(12,true),(13,true),(14,true),(15,true),(16,true),(17,true),(18,true),(19,true),(20,true)] (by kernel_rfl) (by kernel_rfl) (S.sel [0,1,2] G G) fun K19 k19=>?_
    refine qF H<|qr 2 rfl<|qK ?_;clear H a;intro a H
    refine aT rfl ?_
    refine aA H G G Try.func51 G G (eR (critN hz sw ws sw.length) A8 c8 _ _ (ownM.inS S (i:=1) rfl) (by omega)) ?_;clear H a
    rintro _ _ a ⟨rfl,S2⟩ H
    replace S:=S.call S2;clear S2
    first|rw [hA] at H|rw [hB] at H
    refine wpList_nil (And.intro (S.sel [0,1,2] G G) ?_)
    refine qF H<|qr 2 rfl<|qK ?_;clear H a;intro a H
    refine aJ H G G G G G ?_;clear H a;intro a H
    refine aJ H G G G G G ?_;clear H a;intro a H
    refine aJ H G G G G G ?_;clear H a;intro a H
    refine aJ H G G G G G ?_;clear H a;intro a H
    refine qF H<|qd rfl (fun _ S=>(aR G G G))<|qr 1 rfl<|qK ?_;clear H a;intro a H
    refine aJ H G G G G G ?_;clear H a;intro a H
    refine aJ H G G G G G ?_;clear H a;intro a H
    refine aJ H G G G G G ?_;clear H a;intro a H
    refine aJ H G G G G G ?_;clear H a;intro a H
    refine aJ H G G G G G ?_;clear H a;intro a H
    refine aJ H G G G G G ?_;clear H a;intro a H
    refine aJ H G G G G G ?_;clear H a;intro a H
    refine aJ H G G G G G ?_;clear H a;intro a H
    refine aJ H G G G G G ?_;clear H a;intro a H
    refine qF H<|qd rfl (fun _ S=>(aR G G G))<|qK ?_;clear H a;intro a H
    refine bM ?_
    refine k19 _ _ ?_
    clear k19 K19
    refine cond_ H rfl (fun hc4=>?_) (fun hc4=>?_)
    ·skip
     skip
     cases hc4
    skip
    refine wp_skip ?_
    refine k18 _ _ ?_
    replace H:=H.keep [1,4,6,7,8,19,20] rfl
    refine sO H<|sr 1 rfl<|sd (aH G G (by unfold i64ok;omega))<|sr 1 rfl<|sE ?_;clear H a;intro a H
    exact k15 (g2-1) (q+1,_,_,_,_,_) a _ (by omega) (⟨by omega,by omega,by first|exact pQ (by rw [fU hA hB];exact decide_eq_true (by omega)) hb2 hn2|exact fW (by rw [fU hA hB,decide_eq_true_eq];omega) hb2 hn2|exact fW (pR hA) hb2 hn2|exact fW (pS hB) hb2 hn2|exact fW (by rw [fU hA hB,decide_eq_true_eq];have h9:=hc6.resolve_left (fun h=>h.elim (fun h=>Bool.noConfusion h) (fun h=>Bool.noConfusion h));omega) hb2 hn2,by omega⟩) (S.sel [0,1,2] G G) (H.keep [6,8,1,4,7,19,20] rfl)
   ·skip
    have hsh:=pwc (h:=u) (by omega)
    have hsh2:=pwc (h:=y) (by omega)
    have hwl9:=mI (hz:=hz) (sw:=sw) (ws:=ws) (cl:=lorI (1*2^(u:Int).toNat) (1*2^(y:Int).toNat)) hz.toNat
    replace H:=H.keep [1,4,6,7,8,19,20] rfl
    replace S:=S.drew
    refine seq_wq [(0,true),(1,true),(2,false),(3,true),(4,true),(5,true),(6,true),(7,false),(8,true),(9,true),(10,true),(11,true),(12,true),(13,true),(14,true),(15,true),(16,true),(17,true),(18,true),(19,true),(20,true)] (by kernel_rfl) (by kernel_rfl) (S.sel [0,1,2] G G) fun K21 k21=>?_
    refine qF H<|qr 2 rfl<|qK ?_;clear H a;intro a H
    refine aT rfl ?_
    refine aA H G G Try.func51 G G (eR (critN hz sw ws sw.length) A8 c8 _ _ (ownM.inS S (i:=1) rfl) (by omega)) ?_;clear H a
    rintro _ _ a ⟨rfl,S2⟩ H
    replace S:=S.call S2;clear S2
    first|rw [hA] at H|rw [hB] at H
    refine wpList_nil (And.intro (S.sel [0,1,2] G G) ?_)
    refine qF H<|qr 2 rfl<|qK ?_;clear H a;intro a H
    refine aG H G G G G (fun _ S=>aP rfl) ?_;clear H a;intro a H
    refine aG H G G G G (fun _ S=>aP rfl) ?_;clear H a;intro a H
    refine aT rfl ?_
    refine aX H G G ?_
    refine aA H G G Try.func51 G G (eR (critN hz sw ws sw.length) A8 c8 _ _ (ownM.inS S (i:=1) rfl) (by omega)) ?_;clear H a
    rintro _ _ a ⟨rfl,S2⟩ H
    replace S:=S.call S2;clear S2
    first|rw [hA] at H|rw [hB] at H
    refine wpList_nil (And.intro (S.sel [0,1,2] G G) ?_)
    refine aG H G G G G (fun _ S=>cI rfl) ?_;clear H a;intro a H
    refine qF H<|qd rfl (fun _ S=>(fL G G G))<|qr 1 rfl<|qK ?_;clear H a;intro a H
    refine aJ H G G G G G ?_;clear H a;intro a H
    refine aJ H G G G G G ?_;clear H a;intro a H
    refine aJ H G G G G G ?_;clear H a;intro a H
    refine aJ H G G G G G ?_;clear H a;intro a H
    refine aJ H G G G G G ?_;clear H a;intro a H
    refine aJ H G G G G G ?_;clear H a;intro a H
    refine aJ H G G G G G ?_;clear H a;intro a H
    refine aJ H G G G G G ?_;clear H a;intro a H
    refine aJ H G G G G G ?_;clear H a;intro a H
    refine qF H<|qd rfl (fun _ S=>(aR G G G))<|qK ?_;clear H a;intro a H
    refine bM ?_
    refine k21 _ _ ?_
    clear k21 K21
    refine cond_ H rfl (fun hc5=>?_) (fun hc5=>?_)
    ·skip
     skip
     cases hc5
    skip
    refine wp_skip ?_
    refine k18 _ _ ?_
    replace H:=H.keep [1,4,6,7,8,19,20] rfl
    refine sO H<|sr 1 rfl<|sd (aH G G (by unfold i64ok;omega))<|sr 1 rfl<|sE ?_;clear H a;intro a H
    exact k15 (g2-1) (q+1,_,_,_,_,_) a _ (by omega) (⟨by omega,by omega,by first|exact pQ (by rw [fU hA hB];exact decide_eq_true (by omega)) hb2 hn2|exact fW (by rw [fU hA hB,decide_eq_true_eq];omega) hb2 hn2|exact fW (pR hA) hb2 hn2|exact fW (pS hB) hb2 hn2|exact fW (by rw [fU hA hB,decide_eq_true_eq];have h9:=hc6.resolve_left (fun h=>h.elim (fun h=>Bool.noConfusion h) (fun h=>Bool.noConfusion h));omega) hb2 hn2,by omega⟩) (S.sel [0,1,2] G G) (H.keep [6,8,1,4,7,19,20] rfl)
   have hsh:=pwc (h:=u) (by omega)
   have hsh2:=pwc (h:=y) (by omega)
   have hwl9:=mI (hz:=hz) (sw:=sw) (ws:=ws) (cl:=lorI (1*2^(u:Int).toNat) (1*2^(y:Int).toNat)) hz.toNat
   replace H:=H.keep [1,4,6,7,8,19,20] rfl
   replace S:=S.drew
   refine seq_wq [(0,true),(1,true),(2,false),(3,true),(4,true),(5,true),(6,true),(7,false),(8,true),(9,true),(10,true),(11,true),(12,true),(13,true),(14,true),(15,true),(16,true),(17,false),(18,true),(19,true),(20,true)] (by kernel_rfl) (by kernel_rfl) (S.sel [0,1,2] G G) fun K23 k23=>?_
   refine qF H<|qr 2 rfl<|qK ?_;clear H a;intro a H
   refine aT rfl ?_
   refine aA H G G Try.func51 G G (eR (critN hz sw ws sw.length) A8 c8 _ _ (ownM.inS S (i:=1) rfl) (by omega)) ?_;clear H a
   rintro _ _ a ⟨rfl,S2⟩ H
   replace S:=S.call S2;clear S2
   first|rw [hA] at H|rw [hB] at H
   refine wpList_nil (And.intro (S.sel [0,1,2] G G) ?_)
   refine qF H<|qr 2 rfl<|qK ?_;clear H a;intro a H
   refine aG H G G G G (fun _ S=>aP rfl) ?_;clear H a;intro a H
   refine aG H G G G G (fun _ S=>aP rfl) ?_;clear H a;intro a H
   refine aT rfl ?_
   refine aX H G G ?_
   refine aA H G G Try.func51 G G (eR (critN hz sw ws sw.length) A8 c8 _ _ (ownM.inS S (i:=1) rfl) (by omega)) ?_;clear H a
   rintro _ _ a ⟨rfl,S2⟩ H
   replace S:=S.call S2;clear S2
   first|rw [hA] at H|rw [hB] at H
   refine wpList_nil (And.intro (S.sel [0,1,2] G G) ?_)
   refine aG H G G G G (fun _ S=>cI rfl) ?_;clear H a;intro a H
   refine qF H<|qd rfl (fun _ S=>(fL G G G))<|qr 1 rfl<|qK ?_;clear H a;intro a H
   refine aG H G G G G (fun _ S=>(aD cJ bY rfl S (i:=2) G G)) ?_;clear H a;intro a H
   refine aG H G G G G (fun _ S=>aP rfl) ?_;clear H a;intro a H
   refine aG H G G G G (fun _ S=>eB G G (by omega) (by omega) (by unfold i64ok;omega)) ?_;clear H a;intro a H
   refine aG H G G G G (fun _ S=>aP rfl) ?_;clear H a;intro a H
   refine aG H G G G G (fun _ S=>eB G G (by omega) (by omega) (by unfold i64ok;omega)) ?_;clear H a;intro a H
   refine aG H G G G G (fun _ S=>yV G G hsh hsh2) ?_;clear H a;intro a H
   refine aT rfl ?_
   refine aX H G G ?_
   refine aA H G G Try.func52 G G (rJ hz sw SA sc ws QA qc OA oc (lorI (1*2^(u:Int).toNat) (1*2^(y:Int).toNat)) _ (hsw.now S) (hws.now S) (fun k hk=>(hof k hk).now S) V (uQ hsh hsh2)) ?_;clear H a
   rintro _ _ a ⟨A5,c5,rfl,S2⟩ H
   replace S:=S.call S2;clear S2
   refine wpList_nil (And.intro (S.sel [1,2,3] G G) ?_)
   refine aG H G G G G (fun _ S=>dF aM rfl) ?_;clear H a;intro a H
   refine aG H G G G G (fun _ S=>bO G G) ?_;clear H a;intro a H
   refine qF H<|qd rfl (fun _ S=>(fL G G G))<|qK ?_;clear H a;intro a H
   refine bM ?_
   refine k23 _ _ ?_
   clear k23 K23
   refine cond_ H rfl (fun hc6=>?_) (fun hc6=>?_)
   ·skip
    try simp only [o1,o2,o3,o4,o5,o6,o7,o8,o9,oa] at hc6
    have hno:n≤12*12:=by rw [hn1];exact Nat.le_trans (yW _) (Nat.mul_le_mul (show u≤12 by omega) (show sw.length≤12 by omega))
    have hpi:=uR (hz:=hz) (sw:=sw) (ws:=ws) (al:=(critN hz sw ws sw.length)) (a:=u) q
    replace H:=H.keep [1,4,6,7,8,19,20] rfl
    refine one_list ?_
    refine ls 4 H<|sr 3 rfl<|sd (aO Db G G)<|sE ?_;clear H a;intro a H
    refine bB H rfl S gP xY tN G G G G G G G G G ?_;clear H a S;intro A1 _ a hA1 S H
    refine cK H rfl S gP xY tN Cy G G (i:=2) G G G (ownM.inS S (i:=0) rfl) (lO (two G G)) (by omega) (by omega) ?_;clear H a S;intro A2 c2 _ a S H
    refine ls 1 H<|sr 1 rfl<|sE ?_;clear H a;intro a H
    refine k18 _ _ ?_
    replace H:=H.keep [1,4,6,7,8,19,20] rfl
    refine sO H<|sr 1 rfl<|sd (aH G G (by unfold i64ok;omega))<|sr 1 rfl<|sE ?_;clear H a;intro a H
    exact k15 (g2-1) (q+1,_,_,_,_,_) a _ (by omega) (⟨by omega,by omega,by first|exact pQ (by rw [fU hA hB];exact decide_eq_true (by omega)) hb2 hn2|exact fW (by rw [fU hA hB,decide_eq_true_eq];omega) hb2 hn2|exact fW (pR hA) hb2 hn2|exact fW (pS hB) hb2 hn2|exact fW (by rw [fU hA hB,decide_eq_true_eq];have h9:=hc6.resolve_left (fun h=>h.elim (fun h=>Bool.noConfusion h) (fun h=>Bool.noConfusion h));omega) hb2 hn2,by omega⟩) (S.sel [2,3,4] G G) (H.keep [6,8,1,4,7,19,20] rfl)
   try simp only [o1,o2,o3,o4,o5,o6,o7,o8,o9,oa] at hc6
   refine wp_skip ?_
   refine k18 _ _ ?_
   refine sO H<|sr 1 rfl<|sd (aH G G (by unfold i64ok;omega))<|sr 1 rfl<|sE ?_;clear H a;intro a H
   exact k15 (g2-1) (q+1,_,_,_,_,_) a _ (by omega) (⟨by omega,by omega,by first|exact pQ (by rw [fU hA hB];exact decide_eq_true (by omega)) hb2 hn2|exact fW (by rw [fU hA hB,decide_eq_true_eq];omega) hb2 hn2|exact fW (pR hA) hb2 hn2|exact fW (pS hB) hb2 hn2|exact fW (by rw [fU hA hB,decide_eq_true_eq];have h9:=hc6.resolve_left (fun h=>h.elim (fun h=>Bool.noConfusion h) (fun h=>Bool.noConfusion h));omega) hb2 hn2,by omega⟩) (S.sel [1,2,3] G G) (H.keep [6,8,1,4,7,19,20] rfl)
  refine wp_exit ?_
  refine k12 _ _ ?_
  refine sO H<|sd (aH G G (by unfold i64ok;omega))<|sr 1 rfl<|sE ?_;clear H a;intro a H
  exact k9 (g1-1) (u+1,_,_,_,_) a _ (by omega) (⟨by omega,by omega,by rw [pcOut,←hn1,show sw.length-(u+1)=q by omega];exact hn2⟩) (S.sel [0,1,2] G G) (H.keep [6,20,1,4,19] rfl)
 refine wp_exit ?_
 refine k7 _ _ ?_
 replace H:=H.keep [6] rfl
 refine sS H fun K28 k28=>sr 3 rfl<|sE ?_;clear H a;intro a H
 refine k28 _ ?_;clear k28 K28
 refine wp_ret ?_
 refine ret2 (fn:=Try.f26) rfl H G G ?_
 obtain rfl:u=sw.length:=by omega
 rw [←hn1]
 exact ⟨_,_,rfl,(S.sel [] G G)⟩
end
section
def exSw:List Int:=[1,1,2,2]
def exWs:List Wr:=[⟨2,[1,2,3,4]⟩,⟨1,[0]⟩,⟨1,[1]⟩,⟨1,[2]⟩,⟨1,[3]⟩]
def exOA (A0 A1 A2 A3 A4:Option Addr) (k:Nat):Option Addr:=[A0,A1,A2,A3,A4].getD k none
def exOc (k:Nat):Nat:=[4,1,1,1,1].getD k 0
theorem exCir:circE 2 exSw exWs=0:=by kernel_rfl
theorem eI:pcOut 2 exSw exWs (critN 2 exSw exWs exSw.length) exSw.length=2:=by kernel_rfl
theorem bQ (w:World) :
    Calls Try.prog 25 [].toArray w (Ret (fun v w'=>∃ SA A0 A1 A2 A3 A4 QA TA,v = .tuple #[.agg [.int .i64 2,.slice SA 4 4,.slice QA 5 5].toArray,.slice TA 4 4]∧St w noF [ownM 3 1 SA 4 4 (icl exSw),ownM 3 1 A0 4 4 (icl [1,2,3,4]),ownM 3 1 A1 1 1 (icl [0]),ownM 3 1 A2 1 1 (icl [1]),ownM 3 1 A3 1 1 (icl [2]),ownM 3 1 A4 1 1 (icl [3]),ownM 96 2 QA 5 5 (cV exWs (exOA A0 A1 A2 A3 A4) exOc)] w')):=by
 refine enter Try.func25 rfl Try.ntmps25 rfl (fun a H=>?_)
 have S:=St.start w
 refine seq_list fun K1 k1=>?_
 refine aI H rfl S gJ ?_;clear H a S;intro b0 _ a hb0 hbw0 S H
 refine ls 1 H<|sr 1 rfl<|sE ?_;clear H a;intro a H
 refine k1 _ _ ?_;clear k1 K1
 replace H:=H.keep [0] rfl
 refine seq_list fun K2 k2=>?_
 refine bB H rfl S aM bC eZ G G G G G G G G G ?_;clear H a S;intro A1 _ a hA1 S H
 refine bB H rfl S aM bC eZ G G G G G G G G G ?_;clear H a S;intro A2 _ a hA2 S H
 refine ls 1 H<|sd (aO rG G G)<|sE ?_;clear H a;intro a H
 refine bB H rfl S aM bC eZ G G G G G G G G G ?_;clear H a S;intro A3 _ a hA3 S H
 refine ls 1 H<|sd (aO rG G G)<|sE ?_;clear H a;intro a H
 refine bB H rfl S aM bC eZ G G G G G G G G G ?_;clear H a S;intro A4 _ a hA4 S H
 refine ls 1 H<|sd (aO rG G G)<|sE ?_;clear H a;intro a H
 refine bB H rfl S aM bC eZ G G G G G G G G G ?_;clear H a S;intro A5 _ a hA5 S H
 refine ls 1 H<|sd (aO rG G G)<|sE ?_;clear H a;intro a H
 refine bB H rfl S aM bC eZ G G G G G G G G G ?_;clear H a S;intro A6 _ a hA6 S H
 refine ls 1 H<|sd (aO rG G G)<|sE ?_;clear H a;intro a H
 refine bB H rfl S fA iY rF G G G G G G G G G ?_;clear H a S;intro A7 _ a hA7 S H
 refine ls 1 H<|sd (aO El G G)<|sE ?_;clear H a;intro a H
 refine aI H rfl S gJ ?_;clear H a S;intro b2 _ a hb2 hbw2 S H
 refine aC H S (i:=0) G G G G bY G G ?_
 clear H a S;intro _ a S H
 refine k2 _ _ ?_;clear k2 K2
 replace H:=H.keep [0,2] rfl
 refine seq_list fun K3 k3=>?_
 refine ls 5 H<|sd ((aD cJ bY rfl S (i:=0) G G))<|sd (aO pK G G)<|sd (aO pK G G)<|sd (aO pK G G)<|sd (aO pK G G)<|sE ?_;clear H a;intro a H
 refine bB H rfl S Ek Cv yH G G G G G G G G G ?_;clear H a S;intro A8 _ a hA8 S H
 refine aC H S (i:=9) G G G G bY G G ?_
 clear H a S;intro _ a S H
 refine ls 1 H<|sr 1 rfl<|sE ?_;clear H a;intro a H
 refine k3 _ _ ?_;clear k3 K3
 refine wp_ret ?_
 refine retA1 (fn:=Try.f25) rfl H rfl cJ (by exact bY) (dL S (i:=9) rfl) rfl ?_
 replace S:=S.recell (i:=8) rfl (cell':=icl exSw) (fun k j hk hj=>by
   obtain rfl:j=0:=by omega
   rcases k with _|_|_|_|k <;> first|rfl|(exfalso;omega))
 replace S:=S.recell (i:=7) rfl (cell':=icl [1,2,3,4]) (fun k j hk hj=>by
   obtain rfl:j=0:=by omega
   rcases k with _|_|_|_|k <;> first|rfl|(exfalso;omega))
 replace S:=S.recell (i:=6) rfl (cell':=icl [0]) (fun k j hk hj=>by
   obtain rfl:j=0:=by omega
   rcases k with _|_|_|_|k <;> first|rfl|(exfalso;omega))
 replace S:=S.recell (i:=5) rfl (cell':=icl [1]) (fun k j hk hj=>by
   obtain rfl:j=0:=by omega
   rcases k with _|_|_|_|k <;> first|rfl|(exfalso;omega))
 replace S:=S.recell (i:=4) rfl (cell':=icl [2]) (fun k j hk hj=>by
   obtain rfl:j=0:=by omega
   rcases k with _|_|_|_|k <;> first|rfl|(exfalso;omega))
 replace S:=S.recell (i:=3) rfl (cell':=icl [3]) (fun k j hk hj=>by
   obtain rfl:j=0:=by omega
   rcases k with _|_|_|_|k <;> first|rfl|(exfalso;omega))
 refine ⟨A1,A2,A3,A4,A5,A6,A7,A8,rfl,?_⟩
 replace S:=S.recell (i:=2) rfl (cell':=cV exWs (exOA A2 A3 A4 A5 A6) exOc) (fun k j hk hj=>by
   rcases j with _|_|j
   · rcases k with _|_|_|_|_|k <;> first|rfl|(exfalso;omega)
   · rcases k with _|_|_|_|_|k <;> first|rfl|(exfalso;omega)
   · exfalso;omega)
 exact (S.sel [8,7,6,5,4,3,2] G G)
end
section
structure Chain where
  links:Int
  pitch:Int
  limit:Int
structure Gauge where
  fr:Int
  to:Int
  lo:Int
  hi:Int
def Gauge.zero:Gauge:=⟨0,0,0,0⟩
def Gauge.cell (g:Gauge):Nat→Value
  | 0 => .int .i64 g.fr
  | 1 => .int .i64 g.to
  | 2 => .int .i64 g.lo
  | _ => .int .i64 g.hi
abbrev Chain.val (c:Chain):Value := .agg [.int .i64 c.links,.int .i64 c.pitch,.int .i64 c.limit].toArray
theorem zB {α:Type} {l:List α} {p:α→Bool} {k:Nat} {d:α} (hk:k<l.length) (h:(l.take k).all p=true) (hp:p (l.getD k d)=true):(l.take (k+1)).all p=true:=by
  rw [List.take_succ_eq_append_getElem hk,List.all_append,h]
  simp only [List.getD_eq_getElem?_getD,List.getElem?_eq_getElem hk,Option.getD_some] at hp
  simp [hp]
theorem wC {α:Type} {l:List α} {p:α→Bool} {k:Nat} {d:α} (hk:k<l.length) (hp:p (l.getD k d)=false):l.all p=false:=by
  simp only [List.getD_eq_getElem?_getD,List.getElem?_eq_getElem hk,Option.getD_some] at hp
  rw [←Bool.not_eq_true,List.all_eq_true]
  intro h
  have:=h _ (List.getElem_mem hk)
  rw [hp] at this
  cases this
abbrev IM:=Nat→Nat→Int
section
variable (M:IM) (a b:Nat) (far:Int)
end
def diagB (n:Nat) (M:IM):Bool:=(List.range n).all fun k=>decide (0≤M k k)
def wide:Int:=1099511627776
structure Good (n:Nat) (M:IM):Prop where
  diag:∀ x,x<n→M x x=0
  tri:∀ x y z,x<n→y<n→z<n→M x z≤M x y+M y z
  top:∀ x y,x<n→y<n→M x y≤wide
theorem Good.low {n:Nat} {M:IM} (h:Good n M) {x y:Nat} (hx:x<n) (hy:y<n) : -wide≤M x y:=by
  have h1:=h.tri x y x hx hy hx
  have h2:=h.diag x hx
  have h3:=h.top y x hy hx
  omega
theorem oI {n:Nat} {M:IM}:diagB n M=true↔∀ k,k<n→0≤M k k:=by
  unfold diagB
  rw [List.all_eq_true]
  constructor
  · intro h k hk;simpa using h k (List.mem_range.2 hk)
  · intro h k hk;simpa using h k (List.mem_range.1 hk)
structure Under (n:Nat) (E M:IM):Prop where
  le:∀ x y,x<n→y<n→E x y≤M x y
  add:∀ x y z,x<n→y<n→z<n→E x z=E x y+E y z
theorem Under.diag {n:Nat} {E M:IM} (h:Under n E M):diagB n M=true:=by
  rw [oI]
  intro k hk
  have h1:=h.le k k hk hk
  have h2:=h.add k k k hk hk hk
  omega
def Chain.n (c:Chain):Nat:=c.links.toNat+1
structure Best (n:Nat) (C:IM→Prop) (M:IM):Prop where
  good:Good n M
  sat:C M
  best:∀ E,Good n E→C E→∀ x y,x<n→y<n→E x y≤M x y
theorem Best.same {n:Nat} {C:IM→Prop} {M M':IM} (h:Best n C M) (h':Best n C M'):∀ x y,x<n→y<n→M x y=M' x y:=by
  intro x y hx hy
  have h1:=h.best M' h'.good h'.sat x y hx hy
  have h2:=h'.best M h.good h.sat x y hx hy
  omega
def fwP (M:IM) (m:Nat):IM:=fun x y=>min (M x y) (M x m+M m y)
def fstg (M:IM) (m p q:Nat):IM:=fun x y=>if x<p∨(x=p∧y<q) then fwP M m x y else M x y
theorem rO (M:IM) (m n x y:Nat) (hx:x<n):fstg M m n 0 x y=fwP M m x y:=by
  unfold fstg;rw [if_pos (by omega)]
def pw:Nat→Int
  | 0=>10000000
  | k+1=>2*pw k
structure CNet (n k:Nat) (M:IM):Prop where
  diag:∀ x,x<n→M x x=0
  lo:∀ x y,x<n→y<n → -(pw k)≤M x y
  top:∀ x y,x<n→y<n→M x y≤wide
theorem CNet.fstg {n k m:Nat} {M:IM} (h:CNet n k M) (hm:m<n) (p q x y:Nat) (hx:x<n) (hy:y<n) : -(pw (k+1))≤fstg M m p q x y∧fstg M m p q x y≤wide:=by
  have h1:=h.lo x y hx hy
  have h2:=h.lo x m hx hm
  have h3:=h.lo m y hm hy
  have h4:=h.top x y hx hy
  have h5:pw (k+1)=2*pw k:=rfl
  have h6:=h.diag m hm
  have h7:=h.lo m m hm hm
  unfold Go.Proofs.Ytoekeohiokcefaa.fstg fwP
  split <;> omega
theorem CNet.next {n k m:Nat} {M:IM} (h:CNet n k M) (hm:m<n) (hd:diagB n (fwP M m)=true):CNet n (k+1) (fwP M m):=by
  rw [oI] at hd
  refine ⟨fun x hx=>?_,fun x y hx hy=>?_,fun x y hx hy=>?_⟩
  · have h1:=hd x hx
    have h2:=h.diag x hx
    have h3:fwP M m x x≤M x x:=by unfold fwP;omega
    omega
  · have:=h.fstg hm n 0 x y hx hy
    rw [rO M m n x y hx] at this
    exact this.1
  · have:=h.fstg hm n 0 x y hx hy
    rw [rO M m n x y hx] at this
    exact this.2
structure Use where
  day:Int
  turns:Int
  cls:Int
  meas:Bool
  lo:Int
  hi:Int
structure Part where
  rates:List (Int×Int)
  worn:Int
  turns:Int
  age:Int
def Use.zero:Use:=⟨0,0,0,false,0,0⟩
def Use.cell (u:Use):Nat→Value
  | 0 => .int .i64 u.day
  | 1 => .int .i64 u.turns
  | 2 => .int .i64 u.cls
  | 3 => .bool u.meas
  | 4 => .int .i64 u.lo
  | _ => .int .i64 u.hi
def zC (p:Part) (u:Use):Int×Int:=(u.turns*(p.rates.getD u.cls.toNat (0,0)).1,u.turns*(p.rates.getD u.cls.toNat (0,0)).2)
def meetS (a b:Int×Int):Int×Int:=(max a.1 b.1,min a.2 b.2)
def addS (a b:Int×Int):Int×Int:=(a.1+b.1,a.2+b.2)
def fwd (p:Part) (l:List Use):Nat→Int×Int
  | 0=>(0,0)
  | k+1=>if (l.getD k Use.zero).meas then meetS (addS (fwd p l k) (zC p (l.getD k Use.zero))) ((l.getD k Use.zero).lo,(l.getD k Use.zero).hi) else addS (fwd p l k) (zC p (l.getD k Use.zero))
def fits (p:Part) (l:List Use) (k:Nat):Prop:=(l.getD k Use.zero).meas=true→(fwd p l (k+1)).1≤(fwd p l (k+1)).2
structure IsAt (p:Part) (l:List Use) (n:Nat):Prop where
  le:n≤l.length
  good:∀ k,k<n→fits p l k
  bad:n<l.length→¬ fits p l n
theorem IsAt.same {p:Part} {l:List Use} {n m:Nat} (h:IsAt p l n) (h':IsAt p l m):n=m:=by
  rcases Nat.lt_trichotomy n m with h1|h1|h1
  · exact absurd (h'.good n h1) (h.bad (by have:=h'.le;omega))
  · exact h1
  · exact absurd (h.good m h1) (h'.bad (by have:=h.le;omega))
section
variable {P:Program} {ops:Array Oper} {w w0:World} {F0 F:Nat→Prop} {R:List Mem} {Q:Exit→Act→World→Prop} {rest:List Oper} {N:FN} {L:List (Nat×Value)} {a:Act} {ty:TypeId} {pos:String} {af:Array Edge}
theorem boxM.same {i b:Nat} {t:TypeId} {cs cs':List Value} (S:St w0 F0 R w) (hi:R[i]?=some (boxM b t cs)) (h:cs=cs'):St w0 F0 (R.set i (boxM b t cs')) w:=by
  subst h;exact S.imp hi (fun h=>h) (fun _ h=>h)
end
end
section
theorem uS {P:Program} {f:Nat} {vs:Array Value} {w:World} {R R':Value→World→Prop} (h:Calls P f vs w (Ret R)) (k:∀ v w',R v w'→R' v w'):Calls P f vs w (Ret R'):=Calls.mono h fun e w' he=>by
  cases e with
  | returned v=>exact k v w' he
  | _=>exact he
set_option maxRecDepth 100000 in
theorem Bm (a b c d:Int) (w:World):(Op.equalIn 10000 70 (.agg #[.int .i64 a,.int .i64 b]) (.agg #[.int .i64 c,.int .i64 d])).run Try.prog w = .ok (a == c&&b == d) w:=by
  have u3:=Try.underlying3
  have a3:=Try.isAgg3
  have z3:=Try.sizeOf3
  have hS:Try.prog.underlying 70=some (.struct (Try.prog.fieldsOf 70)):=by kernel_rfl
  have hp:Try.prog.stoodInHeld 70=false:=by kernel_rfl
  rw [show (10000:Nat)=9999+1 from rfl,run_equalIn_agg w 9999 70 _ _ hS hp]
  simp only [Program.fieldsOf,Try.underlying70]
  go_simp
  by_cases h1:a=c <;> by_cases h2:b=d <;> simp [h1,h2]
set_option maxRecDepth 100000 in
theorem tU (op:BinOp) (x y:Operand) (a b c d:Int) (w:World):(eqGuard op 70 x y (.agg #[.int .i64 a,.int .i64 b]) (.agg #[.int .i64 c,.int .i64 d])).run Try.prog w = .ok () w:=by
  have h:Try.prog.eqGuardType Try.prog.depth 70=false:=by kernel_rfl
  have hpg:∀ w,(program:Sem Program).run Try.prog w = .ok Try.prog w:=fun _=>rfl
  cases op <;> simp [eqGuard,h,hpg]
section
variable {P:Program} {w:World} {L:List (Nat×Value)} {ty:TypeId} {pos:String} {af:Array Edge} {dd:Option Nat} {g:Option (Nat×Bool)}
end
end
section
theorem Dh {sz:Nat} {c d:Nat→Nat→Value} (h0:∀ j,j<sz→c 0 j=d 0 j) (h1:∀ j,j<sz→c 1 j=d 1 j):∀ k j,k<2→j<sz→c k j=d k j:=by
  intro k j hk hj
  have:k=0∨k=1:=by omega
  rcases this with rfl|rfl
  · exact h0 j hj
  · exact h1 j hj
section
variable {P:Program} {w:World} {L:List (Nat×Value)} {ty:TypeId} {pos:String} {af:Array Edge} {dd:Option Nat} {g:Option (Nat×Bool)} {a:Act}
set_option maxRecDepth 100000 in
theorem bL {x y:Operand} {yt:TypeId} {a b c d:Int} (hx:ev L x=some (.agg [.int .i64 a,.int .i64 b].toArray)) (hy:ev L y=some (.agg [.int .i64 c,.int .i64 d].toArray)) :
    Does Try.prog L ⟨dd,.binOp .eql 70 x y yt,ty,pos,af,g⟩ w (.bool (decide (a=c)&&decide (b=d))):=fun ρ hρ=>by
  have e:(binOp .eql 70 (.agg #[.int .i64 a,.int .i64 b]) (.agg #[.int .i64 c,.int .i64 d])).run Try.prog w = .ok (.bool (decide (a=c)&&decide (b=d))) w:=by
    simp only [binOp]
    simp [Op.equal,Op.maxDepth,Bm]
    by_cases h1:a=c <;> by_cases h2:b=d <;> simp [h1,h2]
  simp only [execOp,hρ _ _ hx,hρ _ _ hy]
  simp [tU,e]
end
end
section
structure Brake where
  force:Int
  delay:Int
deriving DecidableEq
def Brake.zero:Brake:=⟨0,0⟩
def Brake.cell (b:Brake):Nat→Value
  | 0 => .int .i64 b.force
  | _ => .int .i64 b.delay
def bcell (l:List Brake) (k j:Nat):Value:=(l.getD k Brake.zero).cell j
structure Esc where
  up:Bool
  empty:Int
  pull:Int
  drag:Int
  motor:Int
  br:List Brake
structure Stp where
  speed:Int
  lo:Int
  hi:Int
  fail:Int
def eV (b:Brake):Bool:=decide (0≤b.force∧b.force≤10000000∧0≤b.delay∧b.delay≤20)
def escOk (e:Esc):Bool:=decide (1≤e.empty∧e.empty≤100000∧0≤e.pull∧e.pull≤100∧0≤e.drag∧e.drag≤10000000∧0≤e.motor∧e.motor≤10000000∧e.br.length≤3)&&e.br.all eV
def stpOk (e:Esc) (s:Stp):Bool:=decide (0≤s.speed∧s.speed≤1000∧0≤s.lo∧s.lo≤s.hi∧s.hi≤100000∧0≤s.fail∧s.fail<2^e.br.length)
def stopE (e:Esc) (s:Stp):Int:=if escOk e=true then (if stpOk e s=true then 0 else 11) else 10
def kC (v g f m:Int):Int:=max 0 (v+(g-f)/m)
def tickI (e:Esc) (v load brakes:Int):Int:=
  let g:=if e.up then -(e.pull*load) else e.pull*load
  if v<0∨v=0∧g<0 then -kC (-v) (-g) (e.drag+brakes) (e.empty+load) else kC v g (e.drag+brakes) (e.empty+load)
def fD (fail t:Int) (l:List Brake):Nat→Int
  | 0=>0
  | k+1=>fD fail t l k+(if fail/2^k%2=0∧(l.getD k Brake.zero).delay≤t then (l.getD k Brake.zero).force else 0)
theorem nF {fail t:Int} {l:List Brake} {k:Nat} (h:fail/2^k%2=0∧(l.getD k Brake.zero).delay≤t):fD fail t l k+(l.getD k Brake.zero).force=fD fail t l (k+1):=by
  conv=>rhs;unfold fD
  rw [if_pos h]
theorem oJ {fail t:Int} {l:List Brake} {k:Nat} (h:¬ (fail/2^k%2=0∧(l.getD k Brake.zero).delay≤t)):fD fail t l k=fD fail t l (k+1):=by
  conv=>rhs;unfold fD
  rw [if_neg h,Int.add_zero]
def gripI (e:Esc) (s:Stp) (t:Int):Int:=fD s.fail t e.br e.br.length
def extI (e:Esc) (s:Stp) (most:Bool) (v t:Int):Int:=
  let a:=tickI e v s.lo (gripI e s t);let b:=tickI e v s.hi (gripI e s t)
  if (most=true∧b > a)∨(most=false∧b<a) then b else a
def goI (e:Esc) (s:Stp) (most:Bool):Nat→Int→Int→Int×Bool
  | 0,v,_=>(0,decide (v=0))
  | n+1,v,t=>if v=0 then (0,true) else (extI e s most v t+(goI e s most n (extI e s most v t) (t+1)).1,(goI e s most n (extI e s most v t) (t+1)).2)
theorem pT {fail t:Int} {l:List Brake} (h:l.all eV=true):∀ k,k≤l.length→0≤fD fail t l k∧fD fail t l k≤10000000*k:=by
  intro k
  induction k with
  | zero=>intro _;unfold fD;omega
  | succ k ih=>
    intro hk
    have h1:=ih (by omega)
    have hb:eV (l.getD k Brake.zero)=true:=by
      rw [List.getD_eq_getElem?_getD,List.getElem?_eq_getElem (by omega)]
      exact List.all_eq_true.1 h _ (List.getElem_mem _)
    unfold eV at hb
    simp only [decide_eq_true_eq] at hb
    unfold fD
    split <;> omega
theorem cF {e:Esc} (h:escOk e=true):(1≤e.empty∧e.empty≤100000∧0≤e.pull∧e.pull≤100∧0≤e.drag∧e.drag≤10000000∧0≤e.motor∧e.motor≤10000000∧e.br.length≤3)∧(∀ k,k<e.br.length→eV (e.br.getD k Brake.zero)=true)∧(2:Int)^((e.br.length:Int)).toNat=2^e.br.length∧1≤(2:Int)^e.br.length∧(2:Int)^e.br.length≤8:=by
  unfold escOk at h
  simp only [Bool.and_eq_true,decide_eq_true_eq] at h
  have h2:=h.1.2.2.2.2.2.2.2.2
  have h3:e.br.length=0∨e.br.length=1∨e.br.length=2∨e.br.length=3:=by omega
  refine ⟨h.1,fun k hk=>?_,by rw [Int.toNat_natCast],?_⟩
  · rw [List.getD_eq_getElem?_getD,List.getElem?_eq_getElem hk]
    exact List.all_eq_true.1 h.2 _ (List.getElem_mem hk)
  · rcases h3 with e|e|e|e <;> rw [e] <;> decide
theorem Bn {e:Esc} {s:Stp} (h:stopE e s=0):escOk e=true∧stpOk e s=true:=by
  unfold stopE at h
  split at h
  · split at h
    · exact ⟨by assumption,by assumption⟩
    · cases h
  · cases h
theorem nG {x m B:Int} (hm:0<m) (h : -B≤x∧x≤B) : -B≤x/m∧x/m≤B:=by
  constructor
  · rw [Int.le_ediv_iff_mul_le hm]
    have:B*1≤B*m:=Int.mul_le_mul_of_nonneg_left (by omega) (by omega)
    rw [Int.neg_mul];omega
  · have:=Int.ediv_le_ediv hm h.2
    have:=Int.ediv_le_self m (show 0≤B by omega)
    omega
theorem uT {e:Esc} {v x f B:Int} (he:escOk e=true) (hx:0≤x∧x≤100000) (hf:0≤f∧f≤30000000) (hv : -B≤v∧v≤B) : -(B+50000000)≤tickI e v x f∧tickI e v x f≤B+50000000:=by
  obtain ⟨h1,_⟩:=cF he
  have h2:0≤e.pull*x:=Int.mul_nonneg (by omega) (by omega)
  have h3:e.pull*x≤100*100000:=Int.mul_le_mul (by omega) (by omega) (by omega) (by omega)
  unfold tickI kC
  simp only
  generalize hg:(if e.up=true then -(e.pull*x) else e.pull*x)=g
  have h4 : -10000000≤g∧g≤10000000:=by rw [←hg];split <;> omega
  have h5:=nG (x:=g-(e.drag+f)) (B:=50000000) (show 0<e.empty+x by omega) (by omega)
  have h6:=nG (x := -g-(e.drag+f)) (B:=50000000) (show 0<e.empty+x by omega) (by omega)
  split <;> omega
theorem pU {e:Esc} {s:Stp} {m:Bool} {v t:Int} (h:(m=true∧tickI e v s.hi (gripI e s t) > tickI e v s.lo (gripI e s t))∨(m=false∧tickI e v s.hi (gripI e s t)<tickI e v s.lo (gripI e s t))):extI e s m v t=tickI e v s.hi (gripI e s t):=by
  unfold extI
  exact if_pos h
theorem pV {e:Esc} {s:Stp} {m:Bool} {v t:Int} (h:¬ ((m=true∧tickI e v s.hi (gripI e s t) > tickI e v s.lo (gripI e s t))∨(m=false∧tickI e v s.hi (gripI e s t)<tickI e v s.lo (gripI e s t)))):extI e s m v t=tickI e v s.lo (gripI e s t):=by
  unfold extI
  exact if_neg h
theorem Di {e:Esc} {s:Stp} {m:Bool} {v t:Int}:extI e s m v t=tickI e v s.lo (gripI e s t)∨extI e s m v t=tickI e v s.hi (gripI e s t):=by
  unfold extI
  simp only
  split
  · exact .inr rfl
  · exact .inl rfl
def distI (e:Esc) (s:Stp):Int×Int×Int:=
  if stopE e s≠0 then (0,0,stopE e s) else if (goI e s true 100 s.speed 0).2=true then ((goI e s false 100 s.speed 0).1,(goI e s true 100 s.speed 0).1,0) else (0,0,12)
end
section
theorem tV (n lo hi:Int) (w:World) :
    Calls Try.prog 81 [.int .i64 n,.agg [.int .i64 lo,.int .i64 hi].toArray].toArray w (Ret (fun v w'=>v = .bool (decide (lo≤n)&&decide (n≤hi))∧St w noF [] w')):=by
 refine enter Try.func81 rfl Try.ntmps81 rfl (fun a H=>?_)
 have S:=St.start w
 refine seq_list fun K1 k1=>?_
 refine aV H rfl S G G ?_;clear H a S;intro b3 _ a hb3 hbw3 S H
 refine ls 1 H<|sr 1 rfl<|sE ?_;clear H a;intro a H
 refine k1 _ _ ?_;clear k1 K1
 replace H:=H.keep [0,3] rfl
 refine sS H fun K2 k2=>sf cY rfl<|sl S 0 aE G G G<|sr 3 rfl<|sg 4 4 9 13 true G G (fun hg5=>sy hg5<|sr 1 rfl<|sy hg5<|sf dM rfl<|sy hg5<|sl S 0 aE G G G<|sy hg5<|sr 1 rfl<|sz 4 G G G)<|sa G G G<|sr 1 rfl<|sE ?_;clear H a;intro a H
 refine k2 _ ?_;clear k2 K2
 refine wp_ret ?_
 refine ret1 (fn:=Try.f81) rfl H rfl ?_
 exact ⟨rfl,(S.sel [] G G)⟩
theorem cN (hi:Int) (w:World) :
    Calls Try.prog 82 [.int .i64 hi].toArray w (Ret (fun v w'=>v = .agg [.int .i64 0,.int .i64 hi].toArray∧St w noF [] w')):=by
 refine enter Try.func82 rfl Try.ntmps82 rfl (fun a H=>?_)
 have S:=St.start w
 refine seq_list fun K1 k1=>?_
 refine aI H rfl S dY ?_;clear H a S;intro b2 _ a hb2 hbw2 S H
 refine k1 _ _ ?_;clear k1 K1
 refine seq_list fun K2 k2=>?_
 refine ls 2 H<|sr 1 rfl<|sd (aO fV G G)<|sE ?_;clear H a;intro a H
 refine aC H S (i:=0) G G G G aY G G ?_
 clear H a S;intro _ a S H
 refine k2 _ _ ?_;clear k2 K2
 refine wp_ret ?_
 refine retA (fn:=Try.f82) rfl H rfl bJ (by exact aY) (dL S (i:=0) rfl) ?_
 exact ⟨rfl,(S.sel [] G G)⟩
theorem bN {n lo hi:Int} {w:World} (h:lo≤n∧n≤hi):Calls Try.prog 81 [.int .i64 n,.agg [.int .i64 lo,.int .i64 hi].toArray].toArray w (Ret fun v w'=>v = .bool true∧St w noF [] w'):=
  uS (tV n lo hi w) fun v w' h'=>⟨h'.1.trans (congrArg Value.bool (by rw [decide_eq_true h.1,decide_eq_true h.2];rfl)),h'.2⟩
theorem iD {n lo hi:Int} {w:World} (h:n<lo∨hi<n):Calls Try.prog 81 [.int .i64 n,.agg [.int .i64 lo,.int .i64 hi].toArray].toArray w (Ret fun v w'=>v = .bool false∧St w noF [] w'):=
  uS (tV n lo hi w) fun v w' h'=>⟨h'.1.trans (congrArg Value.bool (by rw [Bool.and_eq_false_iff];simp only [decide_eq_false_iff_not];omega)),h'.2⟩
theorem wD (b:Brake) (w:World) :
    Calls Try.prog 105 [.agg [.int .i64 b.force,.int .i64 b.delay].toArray].toArray w (Ret (fun v w'=>v = .bool (eV b)∧St w noF [] w')):=by
 refine enter Try.func105 rfl Try.ntmps105 rfl (fun a H=>?_)
 have S:=St.start w
 refine seq_list fun K1 k1=>?_
 refine aV H rfl S G G ?_;clear H a S;intro b1 _ a hb1 hbw1 S H
 refine ls 1 H<|sr 1 rfl<|sE ?_;clear H a;intro a H
 refine k1 _ _ ?_;clear k1 K1
 by_cases hs:0≤b.force∧b.force≤10000000
 ·skip
  replace H:=H.keep [1] rfl
  replace S:=S.drew
  refine seq_wq [(0,true),(1,true),(2,false),(3,false),(4,true),(5,true),(6,true),(7,false),(8,false),(9,true),(10,true)] (by kernel_rfl) (by kernel_rfl) (S.sel [0] G G) fun K2 k2=>?_
  refine qF H<|qd rfl (fun _ S=>(aB nB rfl))<|qd rfl (fun _ S=>aF aE rfl (boxM.rd S (i:=0) G G))<|qK ?_;clear H a;intro a H
  refine aT rfl ?_
  refine aA H G G Try.func82 G G (cN _ _) ?_;clear H a
  rintro _ _ a ⟨rfl,S2⟩ H
  replace S:=S.call S2;clear S2
  refine wpList_nil (And.intro (S.sel [0] G G) ?_)
  refine aT rfl ?_
  refine aA H G G Try.func81 G G (bN (by omega)) ?_;clear H a
  rintro _ _ a ⟨rfl,S2⟩ H
  replace S:=S.call S2;clear S2
  refine wpList_nil (And.intro (S.sel [0] G G) ?_)
  refine qF H<|qr 1 rfl<|qK ?_;clear H a;intro a H
  refine aG H G G G G (fun _ S=>(aB rB rfl)) ?_;clear H a;intro a H
  refine aG H G G G G (fun _ S=>aF aE rfl (boxM.rd S (i:=0) G G)) ?_;clear H a;intro a H
  refine aT rfl ?_
  refine aX H G G ?_
  refine aA H G G Try.func82 G G (cN _ _) ?_;clear H a
  rintro _ _ a ⟨rfl,S2⟩ H
  replace S:=S.call S2;clear S2
  refine wpList_nil (And.intro (S.sel [0] G G) ?_)
  refine aT rfl ?_
  refine aX H G G ?_
  refine aA H G G Try.func81 G G (tV _ _ _ _) ?_;clear H a
  rintro _ _ a ⟨rfl,S2⟩ H
  replace S:=S.call S2;clear S2
  refine wpList_nil (And.intro (S.sel [0] G G) ?_)
  refine qF H<|qd rfl (fun _ S=>(fL G G G))<|qr 1 rfl<|qK ?_;clear H a;intro a H
  refine bM ?_
  refine k2 _ _ ?_
  clear k2 K2
  refine wp_ret ?_
  refine ret1 (fn:=Try.f105) rfl H rfl ?_
  refine ⟨congrArg Value.bool ?_,(S.sel [] G G)⟩
  unfold eV
  first|(rw [Bool.eq_iff_iff];simp only [Bool.and_eq_true,decide_eq_true_eq,true_and];omega)|(symm;simp only [decide_eq_false_iff_not];omega)
 replace H:=H.keep [1] rfl
 replace S:=S.drew
 refine seq_wq [(0,true),(1,true),(2,false),(3,false),(4,true),(5,true),(6,true),(7,true),(8,true),(9,true),(10,true)] (by kernel_rfl) (by kernel_rfl) (S.sel [0] G G) fun K3 k3=>?_
 refine qF H<|qd rfl (fun _ S=>(aB nB rfl))<|qd rfl (fun _ S=>aF aE rfl (boxM.rd S (i:=0) G G))<|qK ?_;clear H a;intro a H
 refine aT rfl ?_
 refine aA H G G Try.func82 G G (cN _ _) ?_;clear H a
 rintro _ _ a ⟨rfl,S2⟩ H
 replace S:=S.call S2;clear S2
 refine wpList_nil (And.intro (S.sel [0] G G) ?_)
 refine aT rfl ?_
 refine aA H G G Try.func81 G G (iD (by omega)) ?_;clear H a
 rintro _ _ a ⟨rfl,S2⟩ H
 replace S:=S.call S2;clear S2
 refine wpList_nil (And.intro (S.sel [0] G G) ?_)
 refine qF H<|qr 1 rfl<|qK ?_;clear H a;intro a H
 refine aJ H G G G G G ?_;clear H a;intro a H
 refine aJ H G G G G G ?_;clear H a;intro a H
 refine aJ H G G G G G ?_;clear H a;intro a H
 refine aJ H G G G G G ?_;clear H a;intro a H
 refine qF H<|qd rfl (fun _ S=>(aR G G G))<|qr 1 rfl<|qK ?_;clear H a;intro a H
 refine bM ?_
 refine k3 _ _ ?_
 clear k3 K3
 refine wp_ret ?_
 refine ret1 (fn:=Try.f105) rfl H rfl ?_
 refine ⟨congrArg Value.bool ?_,(S.sel [] G G)⟩
 unfold eV
 first|(rw [Bool.eq_iff_iff];simp only [Bool.and_eq_true,decide_eq_true_eq,true_and];omega)|(symm;simp only [decide_eq_false_iff_not];omega)
theorem oK (up:Bool) (empty pull drag motor:Int) (br:List Brake) (BA:Option Addr) (bcp:Nat) (w:World) (hb:InS w noF 2 BA br.length (bcell br)) (hbn:br.length≤9223372036854775807) :
    Calls Try.prog 80 [.agg [.bool up,.int .i64 empty,.int .i64 pull,.int .i64 drag,.int .i64 motor,.slice BA br.length bcp].toArray].toArray w (Ret (fun v w'=>v = .int .i64 (if escOk (⟨up,empty,pull,drag,motor,br⟩:Esc)=true then 0 else 10)∧St w noF [] w')):=by
 refine enter Try.func80 rfl Try.ntmps80 rfl (fun a H=>?_)
 have S:=St.start w
 refine seq_list fun K1 k1=>?_
 refine aV H rfl S G G ?_;clear H a S;intro b1 _ a hb1 hbw1 S H
 refine ls 1 H<|sr 1 rfl<|sE ?_;clear H a;intro a H
 refine k1 _ _ ?_;clear k1 K1
 refine sS H fun K2 k2=>sr 1 rfl<|sE ?_;clear H a;intro a H
 refine k2 _ ?_;clear k2 K2
 refine wp_seq_k fun K3 k3=>?_
 rcases (show (empty<1∨(1≤empty∧100000<empty)∨(1≤empty∧empty≤100000∧(pull<0∨100<pull)))∨((1≤empty∧empty≤100000∧0≤pull∧pull≤100)∧((drag<0∨10000000<drag)∨((0≤drag∧drag≤10000000)∧(motor<0∨10000000<motor))∨((0≤drag∧drag≤10000000∧0≤motor∧motor≤10000000)∧3<(br.length:Int))∨((0≤drag∧drag≤10000000∧0≤motor∧motor≤10000000)∧(br.length:Int)≤3))) by omega) with (hs|hs|hs)|⟨hs0,hs|hs|hs|hs⟩
 ·skip
  skip
  replace H:=H.keep [1,3] rfl
  replace S:=S.drew
  refine seq_wq [(0,true),(1,true),(2,true),(3,true),(4,true),(5,true),(6,true),(7,true),(8,true),(9,true),(10,true),(11,true),(12,true),(13,true),(14,true),(15,true),(16,true),(17,true),(18,true),(19,true),(20,true),(21,true),(22,true),(23,true),(24,true),(25,true),(26,true),(27,true),(28,true),(29,true),(30,true),(31,true),(32,true),(33,true),(34,true)] (by kernel_rfl) (by kernel_rfl) (S.sel [0] G G) fun K4 k4=>?_
  refine qF H<|qd rfl (fun _ S=>(aB dN rfl))<|qd rfl (fun _ S=>aF aE rfl (boxM.rd S (i:=0) G G))<|qd rfl (fun _ S=>Does.to (cD G G) (congrArg Value.bool (decide_eq_true (by omega))))<|qr 1 rfl<|qK ?_;clear H a;intro a H
  refine aJ H G G G G G ?_;clear H a;intro a H
  refine aJ H G G G G G ?_;clear H a;intro a H
  refine aJ H G G G G G ?_;clear H a;intro a H
  refine qF H<|qd rfl (fun _ S=>(aR G G G))<|qr 1 rfl<|qK ?_;clear H a;intro a H
  refine aJ H G G G G G ?_;clear H a;intro a H
  refine aJ H G G G G G ?_;clear H a;intro a H
  refine aJ H G G G G G ?_;clear H a;intro a H
  refine aJ H G G G G G ?_;clear H a;intro a H
  refine aJ H G G G G G ?_;clear H a;intro a H
  refine qF H<|qd rfl (fun _ S=>(aR G G G))<|qr 1 rfl<|qK ?_;clear H a;intro a H
  refine aJ H G G G G G ?_;clear H a;intro a H
  refine aJ H G G G G G ?_;clear H a;intro a H
  refine aJ H G G G G G ?_;clear H a;intro a H
  refine aJ H G G G G G ?_;clear H a;intro a H
  refine aJ H G G G G G ?_;clear H a;intro a H
  refine qF H<|qd rfl (fun _ S=>(aR G G G))<|qr 1 rfl<|qK ?_;clear H a;intro a H
  refine aJ H G G G G G ?_;clear H a;intro a H
  refine aJ H G G G G G ?_;clear H a;intro a H
  refine aJ H G G G G G ?_;clear H a;intro a H
  refine aJ H G G G G G ?_;clear H a;intro a H
  refine aJ H G G G G G ?_;clear H a;intro a H
  refine qF H<|qd rfl (fun _ S=>(aR G G G))<|qr 1 rfl<|qK ?_;clear H a;intro a H
  refine aJ H G G G G G ?_;clear H a;intro a H
  refine aJ H G G G G G ?_;clear H a;intro a H
  refine aJ H G G G G G ?_;clear H a;intro a H
  refine aJ H G G G G G ?_;clear H a;intro a H
  refine qF H<|qd rfl (fun _ S=>(aR G G G))<|qK ?_;clear H a;intro a H
  refine bM ?_
  refine k4 _ _ ?_
  clear k4 K4
  refine cond_ H rfl (fun hc1=>?_) (fun hc1=>?_)
  ·skip
   skip
   replace H:=H.keep [] rfl
   refine sS H fun K5 k5=>sr 1 rfl<|sE ?_;clear H a;intro a H
   refine k5 _ ?_;clear k5 K5
   refine wp_ret ?_
   refine ret1 (fn:=Try.f80) rfl H rfl ?_
   refine ⟨?_,(S.sel [] rfl rfl)⟩;rw [if_neg (by unfold escOk;simp only [Bool.and_eq_true,decide_eq_true_eq];rintro ⟨h1,_⟩;omega)]
  skip
  exact absurd hc1 (by decide)
 ·skip
  skip
  replace H:=H.keep [1,3] rfl
  replace S:=S.drew
  refine seq_wq [(0,true),(1,true),(2,true),(3,true),(4,true),(5,true),(6,true),(7,true),(8,true),(9,true),(10,true),(11,true),(12,true),(13,true),(14,true),(15,true),(16,true),(17,true),(18,true),(19,true),(20,true),(21,true),(22,true),(23,true),(24,true),(25,true),(26,true),(27,true),(28,true),(29,true),(30,true),(31,true),(32,true),(33,true),(34,true)] (by kernel_rfl) (by kernel_rfl) (S.sel [0] G G) fun K6 k6=>?_
  refine qF H<|qd rfl (fun _ S=>(aB dN rfl))<|qd rfl (fun _ S=>aF aE rfl (boxM.rd S (i:=0) G G))<|qd rfl (fun _ S=>Does.to (cD G G) (congrArg Value.bool (decide_eq_false (by omega))))<|qr 1 rfl<|qK ?_;clear H a;intro a H
  refine aG H G G G G (fun _ S=>(aB dN rfl)) ?_;clear H a;intro a H
  refine aG H G G G G (fun _ S=>aF aE rfl (boxM.rd S (i:=0) G G)) ?_;clear H a;intro a H
  refine aG H G G G G (fun _ S=>Does.to (bO G G) (congrArg Value.bool (decide_eq_true (by omega)))) ?_;clear H a;intro a H
  refine qF H<|qd rfl (fun _ S=>(bD G G G))<|qr 1 rfl<|qK ?_;clear H a;intro a H
  refine aJ H G G G G G ?_;clear H a;intro a H
  refine aJ H G G G G G ?_;clear H a;intro a H
  refine aJ H G G G G G ?_;clear H a;intro a H
  refine aJ H G G G G G ?_;clear H a;intro a H
  refine aJ H G G G G G ?_;clear H a;intro a H
  refine qF H<|qd rfl (fun _ S=>(aR G G G))<|qr 1 rfl<|qK ?_;clear H a;intro a H
  refine aJ H G G G G G ?_;clear H a;intro a H
  refine aJ H G G G G G ?_;clear H a;intro a H
  refine aJ H G G G G G ?_;clear H a;intro a H
  refine aJ H G G G G G ?_;clear H a;intro a H
  refine aJ H G G G G G ?_;clear H a;intro a H
  refine qF H<|qd rfl (fun _ S=>(aR G G G))<|qr 1 rfl<|qK ?_;clear H a;intro a H
  refine aJ H G G G G G ?_;clear H a;intro a H
  refine aJ H G G G G G ?_;clear H a;intro a H
  refine aJ H G G G G G ?_;clear H a;intro a H
  refine aJ H G G G G G ?_;clear H a;intro a H
  refine aJ H G G G G G ?_;clear H a;intro a H
  refine qF H<|qd rfl (fun _ S=>(aR G G G))<|qr 1 rfl<|qK ?_;clear H a;intro a H
  refine aJ H G G G G G ?_;clear H a;intro a H
  refine aJ H G G G G G ?_;clear H a;intro a H
  refine aJ H G G G G G ?_;clear H a;intro a H
  refine aJ H G G G G G ?_;clear H a;intro a H
  refine qF H<|qd rfl (fun _ S=>(aR G G G))<|qK ?_;clear H a;intro a H
  refine bM ?_
  refine k6 _ _ ?_
  clear k6 K6
  refine cond_ H rfl (fun hc2=>?_) (fun hc2=>?_)
  ·skip
   skip
   replace H:=H.keep [] rfl
   refine sS H fun K7 k7=>sr 1 rfl<|sE ?_;clear H a;intro a H
   refine k7 _ ?_;clear k7 K7
   refine wp_ret ?_
   refine ret1 (fn:=Try.f80) rfl H rfl ?_
   refine ⟨?_,(S.sel [] rfl rfl)⟩;rw [if_neg (by unfold escOk;simp only [Bool.and_eq_true,decide_eq_true_eq];rintro ⟨h1,_⟩;omega)]
  skip
  exact absurd hc2 (by decide)
 ·skip
  skip
  replace H:=H.keep [1,3] rfl
  replace S:=S.drew
  refine seq_wq [(0,true),(1,true),(2,true),(3,true),(4,true),(5,true),(6,true),(7,true),(8,true),(9,true),(10,true),(11,false),(12,false),(13,true),(14,true),(15,true),(16,true),(17,true),(18,true),(19,true),(20,true),(21,true),(22,true),(23,true),(24,true),(25,true),(26,true),(27,true),(28,true),(29,true),(30,true),(31,true),(32,true),(33,true),(34,true)] (by kernel_rfl) (by kernel_rfl) (S.sel [0] G G) fun K8 k8=>?_
  refine qF H<|qd rfl (fun _ S=>(aB dN rfl))<|qd rfl (fun _ S=>aF aE rfl (boxM.rd S (i:=0) G G))<|qd rfl (fun _ S=>Does.to (cD G G) (congrArg Value.bool (decide_eq_false (by omega))))<|qr 1 rfl<|qK ?_;clear H a;intro a H
  refine aG H G G G G (fun _ S=>(aB dN rfl)) ?_;clear H a;intro a H
  refine aG H G G G G (fun _ S=>aF aE rfl (boxM.rd S (i:=0) G G)) ?_;clear H a;intro a H
  refine aG H G G G G (fun _ S=>Does.to (bO G G) (congrArg Value.bool (decide_eq_false (by omega)))) ?_;clear H a;intro a H
  refine qF H<|qd rfl (fun _ S=>(bD G G G))<|qr 1 rfl<|qK ?_;clear H a;intro a H
  refine aG H G G G G (fun _ S=>(aB jN rfl)) ?_;clear H a;intro a H
  refine aG H G G G G (fun _ S=>aF aE rfl (boxM.rd S (i:=0) G G)) ?_;clear H a;intro a H
  refine aT rfl ?_
  refine aX H G G ?_
  refine aA H G G Try.func82 G G (cN _ _) ?_;clear H a
  rintro _ _ a ⟨rfl,S2⟩ H
  replace S:=S.call S2;clear S2
  refine wpList_nil (And.intro (S.sel [0] G G) ?_)
  refine aT rfl ?_
  refine aX H G G ?_
  refine aA H G G Try.func81 G G (iD (by omega)) ?_;clear H a
  rintro _ _ a ⟨rfl,S2⟩ H
  replace S:=S.call S2;clear S2
  refine wpList_nil (And.intro (S.sel [0] G G) ?_)
  refine aG H G G G G (fun _ S=>cI rfl) ?_;clear H a;intro a H
  refine qF H<|qd rfl (fun _ S=>(bD G G G))<|qr 1 rfl<|qK ?_;clear H a;intro a H
  refine aJ H G G G G G ?_;clear H a;intro a H
  refine aJ H G G G G G ?_;clear H a;intro a H
  refine aJ H G G G G G ?_;clear H a;intro a H
  refine aJ H G G G G G ?_;clear H a;intro a H
  refine aJ H G G G G G ?_;clear H a;intro a H
  refine qF H<|qd rfl (fun _ S=>(aR G G G))<|qr 1 rfl<|qK ?_;clear H a;intro a H
  refine aJ H G G G G G ?_;clear H a;intro a H
  refine aJ H G G G G G ?_;clear H a;intro a H
  refine aJ H G G G G G ?_;clear H a;intro a H
  refine aJ H G G G G G ?_;clear H a;intro a H
  refine aJ H G G G G G ?_;clear H a;intro a H
  refine qF H<|qd rfl (fun _ S=>(aR G G G))<|qr 1 rfl<|qK ?_;clear H a;intro a H
  refine aJ H G G G G G ?_;clear H a;intro a H
  refine aJ H G G G G G ?_;clear H a;intro a H
  refine aJ H G G G G G ?_;clear H a;intro a H
  refine aJ H G G G G G ?_;clear H a;intro a H
  refine qF H<|qd rfl (fun _ S=>(aR G G G))<|qK ?_;clear H a;intro a H
  refine bM ?_
  refine k8 _ _ ?_
  clear k8 K8
  refine cond_ H rfl (fun hc3=>?_) (fun hc3=>?_)
  ·skip
   skip
   replace H:=H.keep [] rfl
   refine sS H fun K9 k9=>sr 1 rfl<|sE ?_;clear H a;intro a H
   refine k9 _ ?_;clear k9 K9
   refine wp_ret ?_
   refine ret1 (fn:=Try.f80) rfl H rfl ?_
   refine ⟨?_,(S.sel [] rfl rfl)⟩;rw [if_neg (by unfold escOk;simp only [Bool.and_eq_true,decide_eq_true_eq];rintro ⟨h1,_⟩;omega)]
  skip
  exact absurd hc3 (by decide)
 ·skip
  skip
  replace H:=H.keep [1,3] rfl
  replace S:=S.drew
  refine seq_wq [(0,true),(1,true),(2,true),(3,true),(4,true),(5,true),(6,true),(7,true),(8,true),(9,true),(10,true),(11,false),(12,false),(13,true),(14,true),(15,true),(16,true),(17,true),(18,false),(19,false),(20,true),(21,true),(22,true),(23,true),(24,true),(25,true),(26,true),(27,true),(28,true),(29,true),(30,true),(31,true),(32,true),(33,true),(34,true)] (by kernel_rfl) (by kernel_rfl) (S.sel [0] G G) fun K10 k10=>?_
  refine qF H<|qd rfl (fun _ S=>(aB dN rfl))<|qd rfl (fun _ S=>aF aE rfl (boxM.rd S (i:=0) G G))<|qd rfl (fun _ S=>Does.to (cD G G) (congrArg Value.bool (decide_eq_false (by omega))))<|qr 1 rfl<|qK ?_;clear H a;intro a H
  refine aG H G G G G (fun _ S=>(aB dN rfl)) ?_;clear H a;intro a H
  refine aG H G G G G (fun _ S=>aF aE rfl (boxM.rd S (i:=0) G G)) ?_;clear H a;intro a H
  refine aG H G G G G (fun _ S=>Does.to (bO G G) (congrArg Value.bool (decide_eq_false (by omega)))) ?_;clear H a;intro a H
  refine qF H<|qd rfl (fun _ S=>(bD G G G))<|qr 1 rfl<|qK ?_;clear H a;intro a H
  refine aG H G G G G (fun _ S=>(aB jN rfl)) ?_;clear H a;intro a H
  refine aG H G G G G (fun _ S=>aF aE rfl (boxM.rd S (i:=0) G G)) ?_;clear H a;intro a H
  refine aT rfl ?_
  refine aX H G G ?_
  refine aA H G G Try.func82 G G (cN _ _) ?_;clear H a
  rintro _ _ a ⟨rfl,S2⟩ H
  replace S:=S.call S2;clear S2
  refine wpList_nil (And.intro (S.sel [0] G G) ?_)
  refine aT rfl ?_
  refine aX H G G ?_
  refine aA H G G Try.func81 G G (bN (by omega)) ?_;clear H a
  rintro _ _ a ⟨rfl,S2⟩ H
  replace S:=S.call S2;clear S2
  refine wpList_nil (And.intro (S.sel [0] G G) ?_)
  refine aG H G G G G (fun _ S=>cI rfl) ?_;clear H a;intro a H
  refine qF H<|qd rfl (fun _ S=>(bD G G G))<|qr 1 rfl<|qK ?_;clear H a;intro a H
  refine aG H G G G G (fun _ S=>(aB kR rfl)) ?_;clear H a;intro a H
  refine aG H G G G G (fun _ S=>aF aE rfl (boxM.rd S (i:=0) G G)) ?_;clear H a;intro a H
  refine aT rfl ?_
  refine aX H G G ?_
  refine aA H G G Try.func82 G G (cN _ _) ?_;clear H a
  rintro _ _ a ⟨rfl,S2⟩ H
  replace S:=S.call S2;clear S2
  refine wpList_nil (And.intro (S.sel [0] G G) ?_)
  refine aT rfl ?_
  refine aX H G G ?_
  refine aA H G G Try.func81 G G (iD (by omega)) ?_;clear H a
  rintro _ _ a ⟨rfl,S2⟩ H
  replace S:=S.call S2;clear S2
  refine wpList_nil (And.intro (S.sel [0] G G) ?_)
  refine aG H G G G G (fun _ S=>cI rfl) ?_;clear H a;intro a H
  refine qF H<|qd rfl (fun _ S=>(bD G G G))<|qr 1 rfl<|qK ?_;clear H a;intro a H
  refine aJ H G G G G G ?_;clear H a;intro a H
  refine aJ H G G G G G ?_;clear H a;intro a H
  refine aJ H G G G G G ?_;clear H a;intro a H
  refine aJ H G G G G G ?_;clear H a;intro a H
  refine aJ H G G G G G ?_;clear H a;intro a H
  refine qF H<|qd rfl (fun _ S=>(aR G G G))<|qr 1 rfl<|qK ?_;clear H a;intro a H
  refine aJ H G G G G G ?_;clear H a;intro a H
  refine aJ H G G G G G ?_;clear H a;intro a H
  refine aJ H G G G G G ?_;clear H a;intro a H
  refine aJ H G G G G G ?_;clear H a;intro a H
  refine qF H<|qd rfl (fun _ S=>(aR G G G))<|qK ?_;clear H a;intro a H
  refine bM ?_
  refine k10 _ _ ?_
  clear k10 K10
  refine cond_ H rfl (fun hc4=>?_) (fun hc4=>?_)
  ·skip
   skip
   replace H:=H.keep [] rfl
   refine sS H fun K11 k11=>sr 1 rfl<|sE ?_;clear H a;intro a H
   refine k11 _ ?_;clear k11 K11
   refine wp_ret ?_
   refine ret1 (fn:=Try.f80) rfl H rfl ?_
   refine ⟨?_,(S.sel [] rfl rfl)⟩;rw [if_neg (by unfold escOk;simp only [Bool.and_eq_true,decide_eq_true_eq];rintro ⟨h1,_⟩;omega)]
  skip
  exact absurd hc4 (by decide)
 ·skip
  skip
  replace H:=H.keep [1,3] rfl
  replace S:=S.drew
  refine seq_wq [(0,true),(1,true),(2,true),(3,true),(4,true),(5,true),(6,true),(7,true),(8,true),(9,true),(10,true),(11,false),(12,false),(13,true),(14,true),(15,true),(16,true),(17,true),(18,false),(19,false),(20,true),(21,true),(22,true),(23,true),(24,true),(25,false),(26,false),(27,true),(28,true),(29,true),(30,true),(31,true),(32,true),(33,true),(34,true)] (by kernel_rfl) (by kernel_rfl) (S.sel [0] G G) fun K12 k12=>?_
  refine qF H<|qd rfl (fun _ S=>(aB dN rfl))<|qd rfl (fun _ S=>aF aE rfl (boxM.rd S (i:=0) G G))<|qd rfl (fun _ S=>Does.to (cD G G) (congrArg Value.bool (decide_eq_false (by omega))))<|qr 1 rfl<|qK ?_;clear H a;intro a H
  refine aG H G G G G (fun _ S=>(aB dN rfl)) ?_;clear H a;intro a H
  refine aG H G G G G (fun _ S=>aF aE rfl (boxM.rd S (i:=0) G G)) ?_;clear H a;intro a H
  refine aG H G G G G (fun _ S=>Does.to (bO G G) (congrArg Value.bool (decide_eq_false (by omega)))) ?_;clear H a;intro a H
  refine qF H<|qd rfl (fun _ S=>(bD G G G))<|qr 1 rfl<|qK ?_;clear H a;intro a H
  refine aG H G G G G (fun _ S=>(aB jN rfl)) ?_;clear H a;intro a H
  refine aG H G G G G (fun _ S=>aF aE rfl (boxM.rd S (i:=0) G G)) ?_;clear H a;intro a H
  refine aT rfl ?_
  refine aX H G G ?_
  refine aA H G G Try.func82 G G (cN _ _) ?_;clear H a
  rintro _ _ a ⟨rfl,S2⟩ H
  replace S:=S.call S2;clear S2
  refine wpList_nil (And.intro (S.sel [0] G G) ?_)
  refine aT rfl ?_
  refine aX H G G ?_
  refine aA H G G Try.func81 G G (bN (by omega)) ?_;clear H a
  rintro _ _ a ⟨rfl,S2⟩ H
  replace S:=S.call S2;clear S2
  refine wpList_nil (And.intro (S.sel [0] G G) ?_)
  refine aG H G G G G (fun _ S=>cI rfl) ?_;clear H a;intro a H
  refine qF H<|qd rfl (fun _ S=>(bD G G G))<|qr 1 rfl<|qK ?_;clear H a;intro a H
  refine aG H G G G G (fun _ S=>(aB kR rfl)) ?_;clear H a;intro a H
  refine aG H G G G G (fun _ S=>aF aE rfl (boxM.rd S (i:=0) G G)) ?_;clear H a;intro a H
  refine aT rfl ?_
  refine aX H G G ?_
  refine aA H G G Try.func82 G G (cN _ _) ?_;clear H a
  rintro _ _ a ⟨rfl,S2⟩ H
  replace S:=S.call S2;clear S2
  refine wpList_nil (And.intro (S.sel [0] G G) ?_)
  refine aT rfl ?_
  refine aX H G G ?_
  refine aA H G G Try.func81 G G (bN (by omega)) ?_;clear H a
  rintro _ _ a ⟨rfl,S2⟩ H
  replace S:=S.call S2;clear S2
  refine wpList_nil (And.intro (S.sel [0] G G) ?_)
  refine aG H G G G G (fun _ S=>cI rfl) ?_;clear H a;intro a H
  refine qF H<|qd rfl (fun _ S=>(bD G G G))<|qr 1 rfl<|qK ?_;clear H a;intro a H
  refine aG H G G G G (fun _ S=>(aB pH rfl)) ?_;clear H a;intro a H
  refine aG H G G G G (fun _ S=>aF aE rfl (boxM.rd S (i:=0) G G)) ?_;clear H a;intro a H
  refine aT rfl ?_
  refine aX H G G ?_
  refine aA H G G Try.func82 G G (cN _ _) ?_;clear H a
  rintro _ _ a ⟨rfl,S2⟩ H
  replace S:=S.call S2;clear S2
  refine wpList_nil (And.intro (S.sel [0] G G) ?_)
  refine aT rfl ?_
  refine aX H G G ?_
  refine aA H G G Try.func81 G G (iD (by omega)) ?_;clear H a
  rintro _ _ a ⟨rfl,S2⟩ H
  replace S:=S.call S2;clear S2
  refine wpList_nil (And.intro (S.sel [0] G G) ?_)
  refine aG H G G G G (fun _ S=>cI rfl) ?_;clear H a;intro a H
  refine qF H<|qd rfl (fun _ S=>(bD G G G))<|qr 1 rfl<|qK ?_;clear H a;intro a H
  refine aJ H G G G G G ?_;clear H a;intro a H
  refine aJ H G G G G G ?_;clear H a;intro a H
  refine aJ H G G G G G ?_;clear H a;intro a H
  refine aJ H G G G G G ?_;clear H a;intro a H
  refine qF H<|qd rfl (fun _ S=>(aR G G G))<|qK ?_;clear H a;intro a H
  refine bM ?_
  refine k12 _ _ ?_
  clear k12 K12
  refine cond_ H rfl (fun hc5=>?_) (fun hc5=>?_)
  ·skip
   skip
   replace H:=H.keep [] rfl
   refine sS H fun K13 k13=>sr 1 rfl<|sE ?_;clear H a;intro a H
   refine k13 _ ?_;clear k13 K13
   refine wp_ret ?_
   refine ret1 (fn:=Try.f80) rfl H rfl ?_
   refine ⟨?_,(S.sel [] rfl rfl)⟩;rw [if_neg (by unfold escOk;simp only [Bool.and_eq_true,decide_eq_true_eq];rintro ⟨h1,_⟩;omega)]
  skip
  exact absurd hc5 (by decide)
 ·skip
  skip
  replace H:=H.keep [1,3] rfl
  replace S:=S.drew
  refine seq_wq [(0,true),(1,true),(2,true),(3,true),(4,true),(5,true),(6,true),(7,true),(8,true),(9,true),(10,true),(11,false),(12,false),(13,true),(14,true),(15,true),(16,true),(17,true),(18,false),(19,false),(20,true),(21,true),(22,true),(23,true),(24,true),(25,false),(26,false),(27,true),(28,true),(29,true),(30,true),(31,true),(32,true),(33,true),(34,true)] (by kernel_rfl) (by kernel_rfl) (S.sel [0] G G) fun K14 k14=>?_
  refine qF H<|qd rfl (fun _ S=>(aB dN rfl))<|qd rfl (fun _ S=>aF aE rfl (boxM.rd S (i:=0) G G))<|qd rfl (fun _ S=>Does.to (cD G G) (congrArg Value.bool (decide_eq_false (by omega))))<|qr 1 rfl<|qK ?_;clear H a;intro a H
  refine aG H G G G G (fun _ S=>(aB dN rfl)) ?_;clear H a;intro a H
  refine aG H G G G G (fun _ S=>aF aE rfl (boxM.rd S (i:=0) G G)) ?_;clear H a;intro a H
  refine aG H G G G G (fun _ S=>Does.to (bO G G) (congrArg Value.bool (decide_eq_false (by omega)))) ?_;clear H a;intro a H
  refine qF H<|qd rfl (fun _ S=>(bD G G G))<|qr 1 rfl<|qK ?_;clear H a;intro a H
  refine aG H G G G G (fun _ S=>(aB jN rfl)) ?_;clear H a;intro a H
  refine aG H G G G G (fun _ S=>aF aE rfl (boxM.rd S (i:=0) G G)) ?_;clear H a;intro a H
  refine aT rfl ?_
  refine aX H G G ?_
  refine aA H G G Try.func82 G G (cN _ _) ?_;clear H a
  rintro _ _ a ⟨rfl,S2⟩ H
  replace S:=S.call S2;clear S2
  refine wpList_nil (And.intro (S.sel [0] G G) ?_)
  refine aT rfl ?_
  refine aX H G G ?_
  refine aA H G G Try.func81 G G (bN (by omega)) ?_;clear H a
  rintro _ _ a ⟨rfl,S2⟩ H
  replace S:=S.call S2;clear S2
  refine wpList_nil (And.intro (S.sel [0] G G) ?_)
  refine aG H G G G G (fun _ S=>cI rfl) ?_;clear H a;intro a H
  refine qF H<|qd rfl (fun _ S=>(bD G G G))<|qr 1 rfl<|qK ?_;clear H a;intro a H
  refine aG H G G G G (fun _ S=>(aB kR rfl)) ?_;clear H a;intro a H
  refine aG H G G G G (fun _ S=>aF aE rfl (boxM.rd S (i:=0) G G)) ?_;clear H a;intro a H
  refine aT rfl ?_
  refine aX H G G ?_
  refine aA H G G Try.func82 G G (cN _ _) ?_;clear H a
  rintro _ _ a ⟨rfl,S2⟩ H
  replace S:=S.call S2;clear S2
  refine wpList_nil (And.intro (S.sel [0] G G) ?_)
  refine aT rfl ?_
  refine aX H G G ?_
  refine aA H G G Try.func81 G G (bN (by omega)) ?_;clear H a
  rintro _ _ a ⟨rfl,S2⟩ H
  replace S:=S.call S2;clear S2
  refine wpList_nil (And.intro (S.sel [0] G G) ?_)
  refine aG H G G G G (fun _ S=>cI rfl) ?_;clear H a;intro a H
  refine qF H<|qd rfl (fun _ S=>(bD G G G))<|qr 1 rfl<|qK ?_;clear H a;intro a H
  refine aG H G G G G (fun _ S=>(aB pH rfl)) ?_;clear H a;intro a H
  refine aG H G G G G (fun _ S=>aF aE rfl (boxM.rd S (i:=0) G G)) ?_;clear H a;intro a H
  refine aT rfl ?_
  refine aX H G G ?_
  refine aA H G G Try.func82 G G (cN _ _) ?_;clear H a
  rintro _ _ a ⟨rfl,S2⟩ H
  replace S:=S.call S2;clear S2
  refine wpList_nil (And.intro (S.sel [0] G G) ?_)
  refine aT rfl ?_
  refine aX H G G ?_
  refine aA H G G Try.func81 G G (bN (by omega)) ?_;clear H a
  rintro _ _ a ⟨rfl,S2⟩ H
  replace S:=S.call S2;clear S2
  refine wpList_nil (And.intro (S.sel [0] G G) ?_)
  refine aG H G G G G (fun _ S=>cI rfl) ?_;clear H a;intro a H
  refine qF H<|qd rfl (fun _ S=>(bD G G G))<|qr 1 rfl<|qK ?_;clear H a;intro a H
  refine aG H G G G G (fun _ S=>(aB jO rfl)) ?_;clear H a;intro a H
  refine aG H G G G G (fun _ S=>aF lL rfl (boxM.rd S (i:=0) G G)) ?_;clear H a;intro a H
  refine aG H G G G G (fun _ S=>dF kP rfl) ?_;clear H a;intro a H
  refine aG H G G G G (fun _ S=>Does.to (bO G G) (congrArg Value.bool (decide_eq_true (by omega)))) ?_;clear H a;intro a H
  refine qF H<|qd rfl (fun _ S=>(bD G G G))<|qK ?_;clear H a;intro a H
  refine bM ?_
  refine k14 _ _ ?_
  clear k14 K14
  refine cond_ H rfl (fun hc6=>?_) (fun hc6=>?_)
  ·skip
   skip
   replace H:=H.keep [] rfl
   refine sS H fun K15 k15=>sr 1 rfl<|sE ?_;clear H a;intro a H
   refine k15 _ ?_;clear k15 K15
   refine wp_ret ?_
   refine ret1 (fn:=Try.f80) rfl H rfl ?_
   refine ⟨?_,(S.sel [] rfl rfl)⟩;rw [if_neg (by unfold escOk;simp only [Bool.and_eq_true,decide_eq_true_eq];rintro ⟨h1,_⟩;omega)]
  skip
  exact absurd hc6 (by decide)
 skip
 replace H:=H.keep [1,3] rfl
 replace S:=S.drew
 refine seq_wq [(0,true),(1,true),(2,true),(3,true),(4,true),(5,true),(6,true),(7,true),(8,true),(9,true),(10,true),(11,false),(12,false),(13,true),(14,true),(15,true),(16,true),(17,true),(18,false),(19,false),(20,true),(21,true),(22,true),(23,true),(24,true),(25,false),(26,false),(27,true),(28,true),(29,true),(30,true),(31,true),(32,true),(33,true),(34,true)] (by kernel_rfl) (by kernel_rfl) (S.sel [0] G G) fun K16 k16=>?_
 refine qF H<|qd rfl (fun _ S=>(aB dN rfl))<|qd rfl (fun _ S=>aF aE rfl (boxM.rd S (i:=0) G G))<|qd rfl (fun _ S=>Does.to (cD G G) (congrArg Value.bool (decide_eq_false (by omega))))<|qr 1 rfl<|qK ?_;clear H a;intro a H
 refine aG H G G G G (fun _ S=>(aB dN rfl)) ?_;clear H a;intro a H
 refine aG H G G G G (fun _ S=>aF aE rfl (boxM.rd S (i:=0) G G)) ?_;clear H a;intro a H
 refine aG H G G G G (fun _ S=>Does.to (bO G G) (congrArg Value.bool (decide_eq_false (by omega)))) ?_;clear H a;intro a H
 refine qF H<|qd rfl (fun _ S=>(bD G G G))<|qr 1 rfl<|qK ?_;clear H a;intro a H
 refine aG H G G G G (fun _ S=>(aB jN rfl)) ?_;clear H a;intro a H
 refine aG H G G G G (fun _ S=>aF aE rfl (boxM.rd S (i:=0) G G)) ?_;clear H a;intro a H
 refine aT rfl ?_
 refine aX H G G ?_
 refine aA H G G Try.func82 G G (cN _ _) ?_;clear H a
 rintro _ _ a ⟨rfl,S2⟩ H
 replace S:=S.call S2;clear S2
 refine wpList_nil (And.intro (S.sel [0] G G) ?_)
 refine aT rfl ?_
 refine aX H G G ?_
 refine aA H G G Try.func81 G G (bN (by omega)) ?_;clear H a
 rintro _ _ a ⟨rfl,S2⟩ H
 replace S:=S.call S2;clear S2
 refine wpList_nil (And.intro (S.sel [0] G G) ?_)
 refine aG H G G G G (fun _ S=>cI rfl) ?_;clear H a;intro a H
 refine qF H<|qd rfl (fun _ S=>(bD G G G))<|qr 1 rfl<|qK ?_;clear H a;intro a H
 refine aG H G G G G (fun _ S=>(aB kR rfl)) ?_;clear H a;intro a H
 refine aG H G G G G (fun _ S=>aF aE rfl (boxM.rd S (i:=0) G G)) ?_;clear H a;intro a H
 refine aT rfl ?_
 refine aX H G G ?_
 refine aA H G G Try.func82 G G (cN _ _) ?_;clear H a
 rintro _ _ a ⟨rfl,S2⟩ H
 replace S:=S.call S2;clear S2
 refine wpList_nil (And.intro (S.sel [0] G G) ?_)
 refine aT rfl ?_
 refine aX H G G ?_
 refine aA H G G Try.func81 G G (bN (by omega)) ?_;clear H a
 rintro _ _ a ⟨rfl,S2⟩ H
 replace S:=S.call S2;clear S2
 refine wpList_nil (And.intro (S.sel [0] G G) ?_)
 refine aG H G G G G (fun _ S=>cI rfl) ?_;clear H a;intro a H
 refine qF H<|qd rfl (fun _ S=>(bD G G G))<|qr 1 rfl<|qK ?_;clear H a;intro a H
 refine aG H G G G G (fun _ S=>(aB pH rfl)) ?_;clear H a;intro a H
 refine aG H G G G G (fun _ S=>aF aE rfl (boxM.rd S (i:=0) G G)) ?_;clear H a;intro a H
 refine aT rfl ?_
 refine aX H G G ?_
 refine aA H G G Try.func82 G G (cN _ _) ?_;clear H a
 rintro _ _ a ⟨rfl,S2⟩ H
 replace S:=S.call S2;clear S2
 refine wpList_nil (And.intro (S.sel [0] G G) ?_)
 refine aT rfl ?_
 refine aX H G G ?_
 refine aA H G G Try.func81 G G (bN (by omega)) ?_;clear H a
 rintro _ _ a ⟨rfl,S2⟩ H
 replace S:=S.call S2;clear S2
 refine wpList_nil (And.intro (S.sel [0] G G) ?_)
 refine aG H G G G G (fun _ S=>cI rfl) ?_;clear H a;intro a H
 refine qF H<|qd rfl (fun _ S=>(bD G G G))<|qr 1 rfl<|qK ?_;clear H a;intro a H
 refine aG H G G G G (fun _ S=>(aB jO rfl)) ?_;clear H a;intro a H
 refine aG H G G G G (fun _ S=>aF lL rfl (boxM.rd S (i:=0) G G)) ?_;clear H a;intro a H
 refine aG H G G G G (fun _ S=>dF kP rfl) ?_;clear H a;intro a H
 refine aG H G G G G (fun _ S=>Does.to (bO G G) (congrArg Value.bool (decide_eq_false (by omega)))) ?_;clear H a;intro a H
 refine qF H<|qd rfl (fun _ S=>(bD G G G))<|qK ?_;clear H a;intro a H
 refine bM ?_
 refine k16 _ _ ?_
 clear k16 K16
 refine cond_ H rfl (fun hc7=>?_) (fun hc7=>?_)
 ·skip
  skip
  exact absurd hc7 (by decide)
 skip
 refine wp_skip ?_
 refine k3 _ _ ?_
 refine wp_seq_k fun K17 k17=>?_
 replace H:=H.keep [1,3] rfl
 refine sS H fun K18 k18=>sf jO rfl<|sl S 0 lL G G G<|sL kP rfl<|sr 1 rfl<|sE ?_;clear H a;intro a H
 refine k18 _ ?_;clear k18 K18
 refine wp_block ?_
 refine loop_st (X:=Nat) (R0:=_) [3,42,43] H rfl (fun k=>[(44,.int .i64 (k:Int))]) (fun k=>[]) (fun g k=>k≤br.length∧g+k=br.length∧(br.take k).all eV=true) (br.length) 0 ?_ (S.sel [0] G G) (H.keep [44,3,42,43] rfl) ?_
 · exact ⟨by omega,by omega,by simp⟩
 clear H S a
 intro g1 x1 a w1 hp S H K19 k19
 obtain ⟨k,rfl⟩:∃ y,y=x1:=⟨_,rfl⟩
 refine sS H fun K20 k20=>sr 1 rfl<|sE ?_;clear H a;intro a H
 refine k20 _ ?_;clear k20 K20
 refine wp_seq_k fun K21 k21=>?_
 refine condL H rfl (fun hc8=>?_) (fun hc8=>?_)
 ·skip
  refine wp_skip ?_
  refine k21 _ _ ?_
  refine wp_seq_k fun K22 k22=>?_
  refine wp_block ?_
  refine seq_list fun K23 k23=>?_
  refine ls 2 H<|si kP iZ G G (hb.adr (by omega)) (by omega)<|sd ((cS pE iZ rfl S hb (by omega) (by omega)))<|sE ?_;clear H a;intro a H
  refine aI H rfl S pJ ?_;clear H a S;intro b5 _ a hb5 hbw5 S H
  refine aC H S (i:=0) G G G G iZ G G ?_
  clear H a S;intro _ a S H
  refine k23 _ _ ?_;clear k23 K23
  refine seq_list fun K24 k24=>?_
  refine ls 2 H<|sr 1 rfl<|sd ((aD pE iZ rfl S (i:=0) G G))<|sE ?_;clear H a;intro a H
  refine mS H G G G Try.func105 G G (wD (br.getD k Brake.zero) _) ?_;clear H a
  rintro _ _ a ⟨rfl,S2⟩ H
  replace S:=S.call S2;clear S2
  refine ls 1 H<|sr 1 rfl<|sE ?_;clear H a;intro a H
  refine k24 _ _ ?_;clear k24 K24
  refine cond_ H rfl (fun hc9=>?_) (fun hc9=>?_)
  ·skip
   try simp only [o1,o2,o3,o4,o5,o6,o7,o8,o9,oa] at hc9
   replace H:=H.keep [] rfl
   refine sS H fun K25 k25=>sr 1 rfl<|sE ?_;clear H a;intro a H
   refine k25 _ ?_;clear k25 K25
   refine wp_ret ?_
   refine ret1 (fn:=Try.f80) rfl H rfl ?_
   refine ⟨?_,(S.sel [] G G)⟩;rw [if_neg (by unfold escOk;rw [wC (l:=br) (k:=k) (d:=Brake.zero) (by omega) (by simpa using hc9)];simp)]
  try simp only [o1,o2,o3,o4,o5,o6,o7,o8,o9,oa] at hc9
  refine wp_skip ?_
  refine k22 _ _ ?_
  refine sO H<|sd (aH G G (by unfold i64ok;omega))<|sr 1 rfl<|sE ?_;clear H a;intro a H
  exact k19 (g1-1) (k+1) a _ (by omega) (⟨by omega,by omega,zB (d:=Brake.zero) (by omega) hp.2.2 (by simpa using hc9)⟩) (S.sel [1] G G) (H.keep [44,3,42,43] rfl)
 refine wp_exit ?_
 refine k17 _ _ ?_
 refine sS H fun K27 k27=>sr 1 rfl<|sE ?_;clear H a;intro a H
 refine k27 _ ?_;clear k27 K27
 refine wp_ret ?_
 refine ret1 (fn:=Try.f80) rfl H rfl ?_
 refine ⟨?_,(S.sel [] G G)⟩;rw [List.take_of_length_le (by omega)] at hp;rw [if_pos (by unfold escOk;simp only [Bool.and_eq_true,decide_eq_true_eq];exact ⟨by omega,hp.2.2⟩)]
theorem wE (a b:Int) (w:World) (hb:0<b) (ha:i64ok a) (ha2 : -9000000000000000000≤a∧a≤9000000000000000000) :
    Calls Try.prog 131 [.int .i64 a,.int .i64 b].toArray w (Ret (fun v w'=>v = .int .i64 (a/b)∧St w noF [] w')):=by
 have hfl:=xI (m:=a) hb;have hdb:=nG (B:=9000000000000000000) hb ha2
 refine enter Try.func131 rfl Try.ntmps131 rfl (fun a H=>?_)
 have S:=St.start w
 refine sS H fun K1 k1=>sr 1 rfl<|sE ?_;clear H a;intro a H
 refine k1 _ ?_;clear k1 K1
 replace S:=S.drew
 refine sD H fun K2 k2=>sr 2 rfl<|sd (vH G G (by omega) (Ap ha hb))<|sr 2 rfl<|sd (vI G G (by omega))<|sr 2 rfl<|sE ?_;clear H a;intro a H
 refine k2 _ ?_;clear k2 K2
 refine wp_seq_k fun K3 k3=>?_
 replace H:=H.keep [5,6] rfl
 refine sS H fun K4 k4=>sr 2 rfl<|sE ?_;clear H a;intro a H
 refine k4 _ ?_;clear k4 K4
 refine condL H rfl (fun hc1=>?_) (fun hc1=>?_)
 ·skip
  refine sO H<|sr 1 rfl<|sd (cH G G (by unfold i64ok;omega))<|sr 1 rfl<|sE ?_;clear H a;intro a H
  refine k3 _ _ ?_
  refine sS H fun K6 k6=>sr 2 rfl<|sE ?_;clear H a;intro a H
  refine k6 _ ?_;clear k6 K6
  refine wp_ret ?_
  refine ret1 (fn:=Try.f131) rfl H rfl ?_
  first|rw [if_pos (by omega)] at hfl|rw [if_neg (by omega)] at hfl
  exact ⟨congrArg (Value.int .i64) (by omega),(S.sel [] G G)⟩
 refine wp_skip ?_
 refine k3 _ _ ?_
 refine sS H fun K7 k7=>sr 2 rfl<|sE ?_;clear H a;intro a H
 refine k7 _ ?_;clear k7 K7
 refine wp_ret ?_
 refine ret1 (fn:=Try.f131) rfl H rfl ?_
 first|rw [if_pos (by omega)] at hfl|rw [if_neg (by omega)] at hfl
 exact ⟨congrArg (Value.int .i64) (by omega),(S.sel [] G G)⟩
theorem jR (v g f m:Int) (w:World) (hm:0<m) (hg : -50000000≤g-f∧g-f≤50000000) (hv : -1000000000000≤v∧v≤1000000000000) :
    Calls Try.prog 127 [.int .i64 v,.int .i64 g,.int .i64 f,.int .i64 m].toArray w (Ret (fun u w'=>u = .int .i64 (kC v g f m)∧St w noF [] w')):=by
 have hdb:=nG (B:=50000000) hm hg
 refine enter Try.func127 rfl Try.ntmps127 rfl (fun a H=>?_)
 have S:=St.start w
 refine sS H fun K1 k1=>sr 1 rfl<|sE ?_;clear H a;intro a H
 refine k1 _ ?_;clear k1 K1
 replace H:=H.keep [0,1,2,3] rfl
 refine seq_list fun K2 k2=>?_
 refine ls 5 H<|sr 3 rfl<|sd (cH G G (by unfold i64ok;omega))<|sr 1 rfl<|sE ?_;clear H a;intro a H
 refine aA H G G Try.func131 G G (wE _ _ _ hm (by unfold i64ok;omega) (by omega)) ?_;clear H a
 rintro _ _ a ⟨rfl,S2⟩ H
 replace S:=S.call S2;clear S2
 refine ls 3 H<|sd (aH G G (by unfold i64ok;omega))<|sd (xH G G)<|sr 1 rfl<|sE ?_;clear H a;intro a H
 refine k2 _ _ ?_;clear k2 K2
 refine wp_ret ?_
 refine ret1 (fn:=Try.f127) rfl H rfl ?_
 exact ⟨rfl,(S.sel [] G G)⟩
theorem iE (up:Bool) (empty pull drag motor:Int) (br:List Brake) (BA:Option Addr) (bcp:Nat) (v x bf:Int) (w:World) (hesc:escOk (⟨up,empty,pull,drag,motor,br⟩:Esc)=true) (hx:0≤x∧x≤100000) (hbf:0≤bf∧bf≤30000000) (hv : -900000000000≤v∧v≤900000000000) :
    Calls Try.prog 117 [.agg [.bool up,.int .i64 empty,.int .i64 pull,.int .i64 drag,.int .i64 motor,.slice BA br.length bcp].toArray,.int .i64 v,.int .i64 x,.int .i64 bf].toArray w (Ret (fun u w'=>u = .int .i64 (tickI (⟨up,empty,pull,drag,motor,br⟩:Esc) v x bf)∧St w noF [] w')):=by
 have hE:=cF hesc
 dsimp only at hE
 obtain ⟨hE1,hE2,hE3,hE4,hE5⟩:=hE
 have hm1:0≤pull*x:=Int.mul_nonneg (by omega) (by omega)
 have hm2:pull*x≤100*100000:=Int.mul_le_mul (by omega) (by omega) (by omega) (by omega)
 have ab:∀ v' g':Int,(-900000000000≤v'∧v'≤900000000000)→(-10000000≤g'∧g'≤10000000)→0≤kC v' g' (drag+bf) (empty+x)∧kC v' g' (drag+bf) (empty+x)≤1000000000000:=fun v' g' h h'=>by have:=nG (x:=g'-(drag+bf)) (m:=empty+x) (B:=50000000) (by omega) (by omega);unfold kC;omega
 refine enter Try.func117 rfl Try.ntmps117 rfl (fun a H=>?_)
 have S:=St.start w
 refine seq_list fun K1 k1=>?_
 refine aV H rfl S G G ?_;clear H a S;intro b4 _ a hb4 hbw4 S H
 refine ls 1 H<|sr 1 rfl<|sE ?_;clear H a;intro a H
 refine k1 _ _ ?_;clear k1 K1
 replace H:=H.keep [1,2,3,4] rfl
 replace S:=S.drew
 refine sD H fun K2 k2=>sf jN rfl<|sl S 0 aE G G G<|sr 1 rfl<|sd (mL G G (by unfold i64ok;omega))<|sf kR rfl<|sl S 0 aE G G G<|sr 1 rfl<|sd (aH G G (by unfold i64ok;omega))<|sf dN rfl<|sl S 0 aE G G G<|sr 1 rfl<|sd (aH G G (by unfold i64ok;omega))<|sr 3 rfl<|sE ?_;clear H a;intro a H
 refine k2 _ ?_;clear k2 K2
 refine wp_seq_k fun K3 k3=>?_
 cases up
 ·skip
  replace H:=H.keep [1,4,9,10,11] rfl
  refine sS H fun K4 k4=>sf uN rfl<|sl S 0 qZ G G G<|sE ?_;clear H a;intro a H
  refine k4 _ ?_;clear k4 K4
  refine cond_ H rfl (fun hc1=>?_) (fun hc1=>?_)
  ·skip
   skip
   exact absurd hc1 (by decide)
  skip
  refine wp_skip ?_
  refine k3 _ _ ?_
  refine wp_seq_k fun K5 k5=>?_
  replace H:=H.keep [1,9,10,11] rfl
  refine sS H fun K6 k6=>sr 3 rfl<|sg 6 2 30 36 false G G (fun hg3=>sy hg3<|sr 1 rfl<|sy hg3<|sr 1 rfl<|sy hg3<|sr 1 rfl<|sg 2 5 33 35 true G G (fun hg6=>sy hg6<|sr 1 rfl<|sy hg6<|sr 1 rfl<|sz 2 G G G)<|sy hg3<|sa G G G<|sz 5 G G G)<|so G G G<|sE ?_;clear H a;intro a H
  refine k6 _ ?_;clear k6 K6
  refine cond_ H rfl (fun hc2=>?_) (fun hc2=>?_)
  ·skip
   try simp only [o1,o2,o3,o4,o5,o6,o7,o8,o9,oa] at hc2
   have a1:=ab (-v) (-(pull*x)) (by omega) (by omega);have a2:=ab (-v) (- -(pull*x)) (by omega) (by omega)
   replace H:=H.keep [1,9,10,11] rfl
   refine seq_list fun K7 k7=>?_
   refine ls 6 H<|sr 1 rfl<|sd (gE rfl (by unfold i64ok;omega))<|sr 1 rfl<|sd (gE rfl (by unfold i64ok;omega))<|sr 2 rfl<|sE ?_;clear H a;intro a H
   refine aA H G G Try.func127 G G (jR _ _ _ _ _ (by omega) (by omega) (by omega)) ?_;clear H a
   rintro _ _ a ⟨rfl,S2⟩ H
   replace S:=S.call S2;clear S2
   refine ls 2 H<|sd (gE rfl (by unfold i64ok;omega))<|sr 1 rfl<|sE ?_;clear H a;intro a H
   refine k7 _ _ ?_;clear k7 K7
   refine wp_ret ?_
   refine ret1 (fn:=Try.f117) rfl H rfl ?_
   exact ⟨congrArg (Value.int .i64) (by unfold tickI;simp only [Bool.false_eq_true,if_true,if_false];first|rw [if_pos (by omega)]|rw [if_neg (by omega)]),(S.sel [] G G)⟩
  try simp only [o1,o2,o3,o4,o5,o6,o7,o8,o9,oa] at hc2
  refine wp_skip ?_
  refine k5 _ _ ?_
  replace H:=H.keep [1,9,10,11] rfl
  refine seq_list fun K8 k8=>?_
  refine ls 4 H<|sr 4 rfl<|sE ?_;clear H a;intro a H
  refine aA H G G Try.func127 G G (jR _ _ _ _ _ (by omega) (by omega) (by omega)) ?_;clear H a
  rintro _ _ a ⟨rfl,S2⟩ H
  replace S:=S.call S2;clear S2
  refine ls 1 H<|sr 1 rfl<|sE ?_;clear H a;intro a H
  refine k8 _ _ ?_;clear k8 K8
  refine wp_ret ?_
  refine ret1 (fn:=Try.f117) rfl H rfl ?_
  exact ⟨congrArg (Value.int .i64) (by unfold tickI;simp only [Bool.false_eq_true,if_true,if_false];first|rw [if_pos (by omega)]|rw [if_neg (by omega)]),(S.sel [] G G)⟩
 refine sS H fun K9 k9=>sf uN rfl<|sl S 0 qZ G G G<|sE ?_;clear H a;intro a H
 refine k9 _ ?_;clear k9 K9
 refine cond_ H rfl (fun hc3=>?_) (fun hc3=>?_)
 ·skip
  skip
  replace H:=H.keep [1,9,10,11] rfl
  refine sO H<|sr 1 rfl<|sd (gE rfl (by unfold i64ok;omega))<|sr 1 rfl<|sE ?_;clear H a;intro a H
  refine k3 _ _ ?_
  refine wp_seq_k fun K11 k11=>?_
  replace H:=H.keep [1,9,10,11] rfl
  refine sS H fun K12 k12=>sr 3 rfl<|sg 6 2 30 36 false G G (fun hg3=>sy hg3<|sr 1 rfl<|sy hg3<|sr 1 rfl<|sy hg3<|sr 1 rfl<|sg 2 5 33 35 true G G (fun hg6=>sy hg6<|sr 1 rfl<|sy hg6<|sr 1 rfl<|sz 2 G G G)<|sy hg3<|sa G G G<|sz 5 G G G)<|so G G G<|sE ?_;clear H a;intro a H
  refine k12 _ ?_;clear k12 K12
  refine cond_ H rfl (fun hc4=>?_) (fun hc4=>?_)
  ·skip
   try simp only [o1,o2,o3,o4,o5,o6,o7,o8,o9,oa] at hc4
   have a1:=ab (-v) (-(pull*x)) (by omega) (by omega);have a2:=ab (-v) (- -(pull*x)) (by omega) (by omega)
   replace H:=H.keep [1,9,10,11] rfl
   refine seq_list fun K13 k13=>?_
   refine ls 6 H<|sr 1 rfl<|sd (gE rfl (by unfold i64ok;omega))<|sr 1 rfl<|sd (gE rfl (by unfold i64ok;omega))<|sr 2 rfl<|sE ?_;clear H a;intro a H
   refine aA H G G Try.func127 G G (jR _ _ _ _ _ (by omega) (by omega) (by omega)) ?_;clear H a
   rintro _ _ a ⟨rfl,S2⟩ H
   replace S:=S.call S2;clear S2
   refine ls 2 H<|sd (gE rfl (by unfold i64ok;omega))<|sr 1 rfl<|sE ?_;clear H a;intro a H
   refine k13 _ _ ?_;clear k13 K13
   refine wp_ret ?_
   refine ret1 (fn:=Try.f117) rfl H rfl ?_
   exact ⟨congrArg (Value.int .i64) (by unfold tickI;simp only [Bool.false_eq_true,if_true,if_false];first|rw [if_pos (by omega)]|rw [if_neg (by omega)]),(S.sel [] G G)⟩
  try simp only [o1,o2,o3,o4,o5,o6,o7,o8,o9,oa] at hc4
  refine wp_skip ?_
  refine k11 _ _ ?_
  replace H:=H.keep [1,9,10,11] rfl
  refine seq_list fun K14 k14=>?_
  refine ls 4 H<|sr 4 rfl<|sE ?_;clear H a;intro a H
  refine aA H G G Try.func127 G G (jR _ _ _ _ _ (by omega) (by omega) (by omega)) ?_;clear H a
  rintro _ _ a ⟨rfl,S2⟩ H
  replace S:=S.call S2;clear S2
  refine ls 1 H<|sr 1 rfl<|sE ?_;clear H a;intro a H
  refine k14 _ _ ?_;clear k14 K14
  refine wp_ret ?_
  refine ret1 (fn:=Try.f117) rfl H rfl ?_
  exact ⟨congrArg (Value.int .i64) (by unfold tickI;simp only [Bool.false_eq_true,if_true,if_false];first|rw [if_pos (by omega)]|rw [if_neg (by omega)]),(S.sel [] G G)⟩
 skip
 exact absurd hc3 (by decide)
theorem jC (up:Bool) (empty pull drag motor:Int) (br:List Brake) (BA:Option Addr) (bcp:Nat) (sp slo shi sfail:Int) (mb:Nat) (v:Int) (t:Nat) (w:World) (F:Nat→Prop) (S:St w F [boxM mb 163 [.bool up,.int .i64 empty,.int .i64 pull,.int .i64 drag,.int .i64 motor,.slice BA br.length bcp,.int .i64 sp,.int .i64 slo,.int .i64 shi,.int .i64 sfail,.int .i64 (v),.int .i64 (t:Int)]] w) (hb:InS w F 2 BA br.length (bcell br)) (hesc:escOk (⟨up,empty,pull,drag,motor,br⟩:Esc)=true) (hstp:stpOk (⟨up,empty,pull,drag,motor,br⟩:Esc) (⟨sp,slo,shi,sfail⟩:Stp)=true) :
    Calls Try.prog 118 [.pointer (some ⟨mb,0,none⟩)].toArray w (Ret (fun u w'=>u = .int .i64 (gripI (⟨up,empty,pull,drag,motor,br⟩:Esc) (⟨sp,slo,shi,sfail⟩:Stp) t)∧St w F [boxM mb 163 [.bool up,.int .i64 empty,.int .i64 pull,.int .i64 drag,.int .i64 motor,.slice BA br.length bcp,.int .i64 sp,.int .i64 slo,.int .i64 shi,.int .i64 sfail,.int .i64 (v),.int .i64 (t:Int)]] w')):=by
 have hE:=cF hesc
 dsimp only at hE
 obtain ⟨hE1,hE2,hE3,hE4,hE5⟩:=hE
 have hS1:=hstp;unfold stpOk at hS1;simp only [decide_eq_true_eq] at hS1
 refine enter Try.func118 rfl Try.ntmps118 rfl (fun a H=>?_)
 skip
 refine sS H fun K1 k1=>sr 1 rfl<|sE ?_;clear H a;intro a H
 refine k1 _ ?_;clear k1 K1
 refine wp_seq_k fun K2 k2=>?_
 refine sS H fun K3 k3=>sr 2 rfl<|sf rE rfl<|sf jO rfl<|sl S 0 lL G G G<|sL kP rfl<|sr 1 rfl<|sE ?_;clear H a;intro a H
 refine k3 _ ?_;clear k3 K3
 refine wp_block ?_
 refine loop_st (X:=Nat) (R0:=_) [0,9,10] H rfl (fun k=>[(2,.int .i64 (fD sfail t br k)),(11,.int .i64 (k:Int))]) (fun k=>[]) (fun g k=>k≤br.length∧g+k=br.length) (br.length) 0 ?_ (S.sel [0] G G) (H.keep [2,11,0,9,10] rfl) ?_
 · exact ⟨by omega,by omega⟩
 clear H S a
 intro g1 x1 a w1 hp S H K4 k4
 obtain ⟨k,rfl⟩:∃ y,y=x1:=⟨_,rfl⟩
 refine sS H fun K5 k5=>sr 1 rfl<|sE ?_;clear H a;intro a H
 refine k5 _ ?_;clear k5 K5
 refine wp_seq_k fun K6 k6=>?_
 refine condL H rfl (fun hc1=>?_) (fun hc1=>?_)
 ·skip
  refine wp_skip ?_
  refine k6 _ _ ?_
  refine wp_seq_k fun K7 k7=>?_
  refine wp_block ?_
  have hgb:=pT (fail:=sfail) (t:=t) (l:=br) (by unfold escOk at hesc;simp only [Bool.and_eq_true] at hesc;exact hesc.2) k (by omega)
  have hkb:=hE2 k (by omega);unfold eV at hkb;simp only [decide_eq_true_eq] at hkb
  refine seq_list fun K8 k8=>?_
  refine ls 3 H<|sr 1 rfl<|si kP iZ G G (hb.adr (by omega)) (by omega)<|sd ((cS pE iZ rfl S hb (by omega) (by omega)))<|sE ?_;clear H a;intro a H
  refine aI H rfl S pJ ?_;clear H a S;intro b4 _ a hb4 hbw4 S H
  refine ls 1 H<|sr 1 rfl<|sE ?_;clear H a;intro a H
  refine aC H S (i:=0) G G G G iZ G G ?_
  clear H a S;intro _ a S H
  refine k8 _ _ ?_;clear k8 K8
  replace H:=H.keep [0,2,3,4,9,10,11] rfl
  replace S:=S.drew
  refine sD H fun K9 k9=>sr 2 rfl<|sf eQ rfl<|sf jM rfl<|sl S 1 aE G G G<|sr 1 rfl<|sd (gF G G (by omega) (by omega))<|sd (fB G G)<|sr 2 rfl<|sg 7 9 25 32 true G G (fun hg10=>sy hg10<|sf rB rfl<|sy hg10<|sl S 0 aE G G G<|sy hg10<|sr 1 rfl<|sy hg10<|sr 1 rfl<|sy hg10<|sf cT rfl<|sy hg10<|sl S 1 aE G G G<|sy hg10<|sr 1 rfl<|sz 7 G G G)<|sa G G G<|sE ?_;clear H a;intro a H
  refine k9 _ ?_;clear k9 K9
  refine cond_ H rfl (fun hc2=>?_) (fun hc2=>?_)
  ·skip
   try simp only [o1,o2,o3,o4,o5,o6,o7,o8,o9,oa] at hc2
   replace H:=H.keep [0,2,4,9,10,11] rfl
   refine sO H<|sr 1 rfl<|sf nB rfl<|sl S 0 aE G G G<|sd (aH G G (by unfold i64ok;omega))<|sr 1 rfl<|sE ?_;clear H a;intro a H
   refine k7 _ _ ?_
   refine sO H<|sd (aH G G (by unfold i64ok;omega))<|sr 1 rfl<|sE ?_;clear H a;intro a H
   try rw [Int.toNat_natCast] at hc2
   first|rw [nF (fail:=sfail) (t:=(t:Int)) (l:=br) (k:=k) (by omega)] at H|rw [oJ (fail:=sfail) (t:=(t:Int)) (l:=br) (k:=k) (by omega)] at H
   exact k4 (g1-1) (k+1) a _ (by omega) (by omega) (S.sel [1] G G) (H.keep [2,11,0,9,10] rfl)
  try simp only [o1,o2,o3,o4,o5,o6,o7,o8,o9,oa] at hc2
  refine wp_skip ?_
  refine k7 _ _ ?_
  refine sO H<|sd (aH G G (by unfold i64ok;omega))<|sr 1 rfl<|sE ?_;clear H a;intro a H
  try rw [Int.toNat_natCast] at hc2
  first|rw [nF (fail:=sfail) (t:=(t:Int)) (l:=br) (k:=k) (by omega)] at H|rw [oJ (fail:=sfail) (t:=(t:Int)) (l:=br) (k:=k) (by omega)] at H
  exact k4 (g1-1) (k+1) a _ (by omega) (by omega) (S.sel [1] G G) (H.keep [2,11,0,9,10] rfl)
 refine wp_exit ?_
 refine k2 _ _ ?_
 replace H:=H.keep [2] rfl
 refine sS H fun K13 k13=>sr 2 rfl<|sE ?_;clear H a;intro a H
 refine k13 _ ?_;clear k13 K13
 refine wp_ret ?_
 refine ret1 (fn:=Try.f118) rfl H rfl ?_
 have hk9:k=br.length:=by omega
 subst hk9
 exact ⟨rfl,(S.sel [0] G G)⟩
end
section
theorem nX (up:Bool) (empty pull drag motor:Int) (br:List Brake) (BA:Option Addr) (bcp:Nat) (sp slo shi sfail:Int) (w:World) (hb:InS w noF 2 BA br.length (bcell br)) (hbn:br.length≤9223372036854775807) :
    Calls Try.prog 48 [.agg [.bool up,.int .i64 empty,.int .i64 pull,.int .i64 drag,.int .i64 motor,.slice BA br.length bcp].toArray,.agg [.int .i64 sp,.int .i64 slo,.int .i64 shi,.int .i64 sfail].toArray].toArray w (Ret (fun v w'=>v = .int .i64 (stopE (⟨up,empty,pull,drag,motor,br⟩:Esc) (⟨sp,slo,shi,sfail⟩:Stp))∧St w noF [] w')):=by
 refine enter Try.func48 rfl Try.ntmps48 rfl (fun a H=>?_)
 have S:=St.start w
 refine seq_list fun K1 k1=>?_
 refine aV H rfl S G G ?_;clear H a S;intro b2 _ a hb2 hbw2 S H
 refine aV H rfl S G G ?_;clear H a S;intro b3 _ a hb3 hbw3 S H
 refine ls 1 H<|sr 1 rfl<|sE ?_;clear H a;intro a H
 refine k1 _ _ ?_;clear k1 K1
 refine wp_seq_k fun K2 k2=>?_
 cases hesc:escOk (⟨up,empty,pull,drag,motor,br⟩:Esc)
 ·skip
  refine seq_list fun K3 k3=>?_
  refine ls 1 H<|sd ((aD fS hZ rfl S (i:=1) G G))<|sE ?_;clear H a;intro a H
  refine aA H G G Try.func80 G G (oK up empty pull drag motor br BA bcp _ (hb.now S) hbn) ?_;clear H a
  rintro _ _ a ⟨rfl,S2⟩ H
  replace S:=S.call S2;clear S2
  rw [hesc] at H;simp only [if_true,Bool.false_eq_true,if_false] at H
  refine ls 1 H<|sr 1 rfl<|sE ?_;clear H a;intro a H
  refine k3 _ _ ?_;clear k3 K3
  refine sS H fun K4 k4=>sr 2 rfl<|sE ?_;clear H a;intro a H
  refine k4 _ ?_;clear k4 K4
  refine cond_ H rfl (fun hc1=>?_) (fun hc1=>?_)
  ·skip
   skip
   replace H:=H.keep [5] rfl
   refine sS H fun K5 k5=>sr 2 rfl<|sE ?_;clear H a;intro a H
   refine k5 _ ?_;clear k5 K5
   refine wp_ret ?_
   refine ret1 (fn:=Try.f48) rfl H rfl ?_
   refine ⟨?_,(S.sel [] G G)⟩;unfold stopE;rw [if_neg (by rw [hesc];simp)]
  skip
  exact absurd hc1 (by decide)
 refine seq_list fun K6 k6=>?_
 refine ls 1 H<|sd ((aD fS hZ rfl S (i:=1) G G))<|sE ?_;clear H a;intro a H
 refine aA H G G Try.func80 G G (oK up empty pull drag motor br BA bcp _ (hb.now S) hbn) ?_;clear H a
 rintro _ _ a ⟨rfl,S2⟩ H
 replace S:=S.call S2;clear S2
 rw [hesc] at H;simp only [if_true,Bool.false_eq_true,if_false] at H
 refine ls 1 H<|sr 1 rfl<|sE ?_;clear H a;intro a H
 refine k6 _ _ ?_;clear k6 K6
 refine sS H fun K7 k7=>sr 2 rfl<|sE ?_;clear H a;intro a H
 refine k7 _ ?_;clear k7 K7
 refine cond_ H rfl (fun hc2=>?_) (fun hc2=>?_)
 ·skip
  skip
  exact absurd hc2 (by decide)
 skip
 refine wp_skip ?_
 refine k2 _ _ ?_
 refine wp_seq_k fun K8 k8=>?_
 rcases (show ((sp<0∨1000<sp)∨((0≤sp∧sp≤1000)∧slo<0)∨((0≤sp∧sp≤1000∧0≤slo)∧shi<slo))∨((0≤sp∧sp≤1000∧0≤slo∧slo≤shi)∧(100000<shi∨(shi≤100000∧sfail<0)∨((shi≤100000∧0≤sfail)∧(2:Int)^br.length≤sfail)∨((shi≤100000∧0≤sfail)∧sfail<(2:Int)^br.length))) by omega) with (hs|hs|hs)|⟨hs0,hs|hs|hs|hs⟩
 ·skip
  skip
  have hE:=cF hesc
  dsimp only at hE
  obtain ⟨hE1,hE2,hE3,hE4,hE5⟩:=hE
  replace H:=H.keep [2,3] rfl
  replace S:=S.drew
  refine seq_wq [(0,true),(1,true),(2,false),(3,false),(4,true),(5,true),(6,true),(7,true),(8,true),(9,true),(10,true),(11,true),(12,true),(13,true),(14,true),(15,true),(16,true),(17,true),(18,true),(19,true),(20,true),(21,true),(22,true),(23,true),(24,true),(25,true),(26,true),(27,true),(28,true),(29,true),(30,true),(31,true),(32,true),(33,true),(34,true),(35,true),(36,true),(37,true),(38,true),(39,true)] (by kernel_rfl) (by kernel_rfl) (S.sel [0,1] G G) fun K9 k9=>?_
  refine qF H<|qd rfl (fun _ S=>(aB fY rfl))<|qd rfl (fun _ S=>aF aE rfl (boxM.rd S (i:=0) G G))<|qK ?_;clear H a;intro a H
  refine aT rfl ?_
  refine aA H G G Try.func82 G G (cN _ _) ?_;clear H a
  rintro _ _ a ⟨rfl,S2⟩ H
  replace S:=S.call S2;clear S2
  refine wpList_nil (And.intro (S.sel [0,1] G G) ?_)
  refine aT rfl ?_
  refine aA H G G Try.func81 G G (iD (by omega)) ?_;clear H a
  rintro _ _ a ⟨rfl,S2⟩ H
  replace S:=S.call S2;clear S2
  refine wpList_nil (And.intro (S.sel [0,1] G G) ?_)
  refine qF H<|qr 2 rfl<|qK ?_;clear H a;intro a H
  refine aJ H G G G G G ?_;clear H a;intro a H
  refine aJ H G G G G G ?_;clear H a;intro a H
  refine aJ H G G G G G ?_;clear H a;intro a H
  refine aJ H G G G G G ?_;clear H a;intro a H
  refine qF H<|qd rfl (fun _ S=>(aR G G G))<|qr 1 rfl<|qK ?_;clear H a;intro a H
  refine aJ H G G G G G ?_;clear H a;intro a H
  refine aJ H G G G G G ?_;clear H a;intro a H
  refine aJ H G G G G G ?_;clear H a;intro a H
  refine aJ H G G G G G ?_;clear H a;intro a H
  refine aJ H G G G G G ?_;clear H a;intro a H
  refine aJ H G G G G G ?_;clear H a;intro a H
  refine aJ H G G G G G ?_;clear H a;intro a H
  refine qF H<|qd rfl (fun _ S=>(aR G G G))<|qr 1 rfl<|qK ?_;clear H a;intro a H
  refine aJ H G G G G G ?_;clear H a;intro a H
  refine aJ H G G G G G ?_;clear H a;intro a H
  refine aJ H G G G G G ?_;clear H a;intro a H
  refine aJ H G G G G G ?_;clear H a;intro a H
  refine qF H<|qd rfl (fun _ S=>(aR G G G))<|qr 1 rfl<|qK ?_;clear H a;intro a H
  refine aJ H G G G G G ?_;clear H a;intro a H
  refine aJ H G G G G G ?_;clear H a;intro a H
  refine aJ H G G G G G ?_;clear H a;intro a H
  refine qF H<|qd rfl (fun _ S=>(aR G G G))<|qr 1 rfl<|qK ?_;clear H a;intro a H
  refine aJ H G G G G G ?_;clear H a;intro a H
  refine aJ H G G G G G ?_;clear H a;intro a H
  refine aJ H G G G G G ?_;clear H a;intro a H
  refine aJ H G G G G G ?_;clear H a;intro a H
  refine aJ H G G G G G ?_;clear H a;intro a H
  refine aJ H G G G G G ?_;clear H a;intro a H
  refine aJ H G G G G G ?_;clear H a;intro a H
  refine qF H<|qd rfl (fun _ S=>(aR G G G))<|qK ?_;clear H a;intro a H
  refine bM ?_
  refine k9 _ _ ?_
  clear k9 K9
  refine cond_ H rfl (fun hc3=>?_) (fun hc3=>?_)
  ·skip
   skip
   replace H:=H.keep [] rfl
   refine sS H fun K10 k10=>sr 1 rfl<|sE ?_;clear H a;intro a H
   refine k10 _ ?_;clear k10 K10
   refine wp_ret ?_
   refine ret1 (fn:=Try.f48) rfl H rfl ?_
   refine ⟨?_,(S.sel [] G G)⟩;unfold stopE;rw [if_pos hesc,if_neg (by unfold stpOk;simp only [decide_eq_true_eq];omega)]
  skip
  exact absurd hc3 (by decide)
 ·skip
  skip
  have hE:=cF hesc
  dsimp only at hE
  obtain ⟨hE1,hE2,hE3,hE4,hE5⟩:=hE
  replace H:=H.keep [2,3] rfl
  replace S:=S.drew
  refine seq_wq [(0,true),(1,true),(2,false),(3,false),(4,true),(5,true),(6,true),(7,true),(8,true),(9,true),(10,true),(11,true),(12,true),(13,true),(14,true),(15,true),(16,true),(17,true),(18,true),(19,true),(20,true),(21,true),(22,true),(23,true),(24,true),(25,true),(26,true),(27,true),(28,true),(29,true),(30,true),(31,true),(32,true),(33,true),(34,true),(35,true),(36,true),(37,true),(38,true),(39,true)] (by kernel_rfl) (by kernel_rfl) (S.sel [0,1] G G) fun K11 k11=>?_
  refine qF H<|qd rfl (fun _ S=>(aB fY rfl))<|qd rfl (fun _ S=>aF aE rfl (boxM.rd S (i:=0) G G))<|qK ?_;clear H a;intro a H
  refine aT rfl ?_
  refine aA H G G Try.func82 G G (cN _ _) ?_;clear H a
  rintro _ _ a ⟨rfl,S2⟩ H
  replace S:=S.call S2;clear S2
  refine wpList_nil (And.intro (S.sel [0,1] G G) ?_)
  refine aT rfl ?_
  refine aA H G G Try.func81 G G (bN (by omega)) ?_;clear H a
  rintro _ _ a ⟨rfl,S2⟩ H
  replace S:=S.call S2;clear S2
  refine wpList_nil (And.intro (S.sel [0,1] G G) ?_)
  refine qF H<|qr 2 rfl<|qK ?_;clear H a;intro a H
  refine aG H G G G G (fun _ S=>(aB bK rfl)) ?_;clear H a;intro a H
  refine aG H G G G G (fun _ S=>(aB cY rfl)) ?_;clear H a;intro a H
  refine aG H G G G G (fun _ S=>aF aE rfl (boxM.rd S (i:=0) G G)) ?_;clear H a;intro a H
  refine aG H G G G G (fun _ S=>Does.to (cD G G) (congrArg Value.bool (decide_eq_true (by omega)))) ?_;clear H a;intro a H
  refine qF H<|qd rfl (fun _ S=>(bD G G G))<|qr 1 rfl<|qK ?_;clear H a;intro a H
  refine aJ H G G G G G ?_;clear H a;intro a H
  refine aJ H G G G G G ?_;clear H a;intro a H
  refine aJ H G G G G G ?_;clear H a;intro a H
  refine aJ H G G G G G ?_;clear H a;intro a H
  refine aJ H G G G G G ?_;clear H a;intro a H
  refine aJ H G G G G G ?_;clear H a;intro a H
  refine aJ H G G G G G ?_;clear H a;intro a H
  refine qF H<|qd rfl (fun _ S=>(aR G G G))<|qr 1 rfl<|qK ?_;clear H a;intro a H
  refine aJ H G G G G G ?_;clear H a;intro a H
  refine aJ H G G G G G ?_;clear H a;intro a H
  refine aJ H G G G G G ?_;clear H a;intro a H
  refine aJ H G G G G G ?_;clear H a;intro a H
  refine qF H<|qd rfl (fun _ S=>(aR G G G))<|qr 1 rfl<|qK ?_;clear H a;intro a H
  refine aJ H G G G G G ?_;clear H a;intro a H
  refine aJ H G G G G G ?_;clear H a;intro a H
  refine aJ H G G G G G ?_;clear H a;intro a H
  refine qF H<|qd rfl (fun _ S=>(aR G G G))<|qr 1 rfl<|qK ?_;clear H a;intro a H
  refine aJ H G G G G G ?_;clear H a;intro a H
  refine aJ H G G G G G ?_;clear H a;intro a H
  refine aJ H G G G G G ?_;clear H a;intro a H
  refine aJ H G G G G G ?_;clear H a;intro a H
  refine aJ H G G G G G ?_;clear H a;intro a H
  refine aJ H G G G G G ?_;clear H a;intro a H
  refine aJ H G G G G G ?_;clear H a;intro a H
  refine qF H<|qd rfl (fun _ S=>(aR G G G))<|qK ?_;clear H a;intro a H
  refine bM ?_
  refine k11 _ _ ?_
  clear k11 K11
  refine cond_ H rfl (fun hc4=>?_) (fun hc4=>?_)
  ·skip
   skip
   replace H:=H.keep [] rfl
   refine sS H fun K12 k12=>sr 1 rfl<|sE ?_;clear H a;intro a H
   refine k12 _ ?_;clear k12 K12
   refine wp_ret ?_
   refine ret1 (fn:=Try.f48) rfl H rfl ?_
   refine ⟨?_,(S.sel [] G G)⟩;unfold stopE;rw [if_pos hesc,if_neg (by unfold stpOk;simp only [decide_eq_true_eq];omega)]
  skip
  exact absurd hc4 (by decide)
 ·skip
  skip
  have hE:=cF hesc
  dsimp only at hE
  obtain ⟨hE1,hE2,hE3,hE4,hE5⟩:=hE
  replace H:=H.keep [2,3] rfl
  replace S:=S.drew
  refine seq_wq [(0,true),(1,true),(2,false),(3,false),(4,true),(5,true),(6,true),(7,true),(8,true),(9,true),(10,true),(11,true),(12,true),(13,true),(14,true),(15,true),(16,true),(17,true),(18,true),(19,true),(20,true),(21,true),(22,true),(23,true),(24,true),(25,true),(26,true),(27,true),(28,true),(29,true),(30,true),(31,true),(32,true),(33,true),(34,true),(35,true),(36,true),(37,true),(38,true),(39,true)] (by kernel_rfl) (by kernel_rfl) (S.sel [0,1] G G) fun K13 k13=>?_
  refine qF H<|qd rfl (fun _ S=>(aB fY rfl))<|qd rfl (fun _ S=>aF aE rfl (boxM.rd S (i:=0) G G))<|qK ?_;clear H a;intro a H
  refine aT rfl ?_
  refine aA H G G Try.func82 G G (cN _ _) ?_;clear H a
  rintro _ _ a ⟨rfl,S2⟩ H
  replace S:=S.call S2;clear S2
  refine wpList_nil (And.intro (S.sel [0,1] G G) ?_)
  refine aT rfl ?_
  refine aA H G G Try.func81 G G (bN (by omega)) ?_;clear H a
  rintro _ _ a ⟨rfl,S2⟩ H
  replace S:=S.call S2;clear S2
  refine wpList_nil (And.intro (S.sel [0,1] G G) ?_)
  refine qF H<|qr 2 rfl<|qK ?_;clear H a;intro a H
  refine aG H G G G G (fun _ S=>(aB bK rfl)) ?_;clear H a;intro a H
  refine aG H G G G G (fun _ S=>(aB cY rfl)) ?_;clear H a;intro a H
  refine aG H G G G G (fun _ S=>aF aE rfl (boxM.rd S (i:=0) G G)) ?_;clear H a;intro a H
  refine aG H G G G G (fun _ S=>Does.to (cD G G) (congrArg Value.bool (decide_eq_false (by omega)))) ?_;clear H a;intro a H
  refine qF H<|qd rfl (fun _ S=>(bD G G G))<|qr 1 rfl<|qK ?_;clear H a;intro a H
  refine aG H G G G G (fun _ S=>(aB bK rfl)) ?_;clear H a;intro a H
  refine aG H G G G G (fun _ S=>(aB cY rfl)) ?_;clear H a;intro a H
  refine aG H G G G G (fun _ S=>aF aE rfl (boxM.rd S (i:=0) G G)) ?_;clear H a;intro a H
  refine aG H G G G G (fun _ S=>(aB bK rfl)) ?_;clear H a;intro a H
  refine aG H G G G G (fun _ S=>(aB dM rfl)) ?_;clear H a;intro a H
  refine aG H G G G G (fun _ S=>aF aE rfl (boxM.rd S (i:=0) G G)) ?_;clear H a;intro a H
  refine aG H G G G G (fun _ S=>Does.to (bO G G) (congrArg Value.bool (decide_eq_true (by omega)))) ?_;clear H a;intro a H
  refine qF H<|qd rfl (fun _ S=>(bD G G G))<|qr 1 rfl<|qK ?_;clear H a;intro a H
  refine aJ H G G G G G ?_;clear H a;intro a H
  refine aJ H G G G G G ?_;clear H a;intro a H
  refine aJ H G G G G G ?_;clear H a;intro a H
  refine aJ H G G G G G ?_;clear H a;intro a H
  refine qF H<|qd rfl (fun _ S=>(aR G G G))<|qr 1 rfl<|qK ?_;clear H a;intro a H
  refine aJ H G G G G G ?_;clear H a;intro a H
  refine aJ H G G G G G ?_;clear H a;intro a H
  refine aJ H G G G G G ?_;clear H a;intro a H
  refine qF H<|qd rfl (fun _ S=>(aR G G G))<|qr 1 rfl<|qK ?_;clear H a;intro a H
  refine aJ H G G G G G ?_;clear H a;intro a H
  refine aJ H G G G G G ?_;clear H a;intro a H
  refine aJ H G G G G G ?_;clear H a;intro a H
  refine aJ H G G G G G ?_;clear H a;intro a H
  refine aJ H G G G G G ?_;clear H a;intro a H
  refine aJ H G G G G G ?_;clear H a;intro a H
  refine aJ H G G G G G ?_;clear H a;intro a H
  refine qF H<|qd rfl (fun _ S=>(aR G G G))<|qK ?_;clear H a;intro a H
  refine bM ?_
  refine k13 _ _ ?_
  clear k13 K13
  refine cond_ H rfl (fun hc5=>?_) (fun hc5=>?_)
  ·skip
   skip
   replace H:=H.keep [] rfl
   refine sS H fun K14 k14=>sr 1 rfl<|sE ?_;clear H a;intro a H
   refine k14 _ ?_;clear k14 K14
   refine wp_ret ?_
   refine ret1 (fn:=Try.f48) rfl H rfl ?_
   refine ⟨?_,(S.sel [] G G)⟩;unfold stopE;rw [if_pos hesc,if_neg (by unfold stpOk;simp only [decide_eq_true_eq];omega)]
  skip
  exact absurd hc5 (by decide)
 ·skip
  skip
  have hE:=cF hesc
  dsimp only at hE
  obtain ⟨hE1,hE2,hE3,hE4,hE5⟩:=hE
  replace H:=H.keep [2,3] rfl
  replace S:=S.drew
  refine seq_wq [(0,true),(1,true),(2,false),(3,false),(4,true),(5,true),(6,true),(7,true),(8,true),(9,true),(10,true),(11,true),(12,true),(13,true),(14,true),(15,true),(16,true),(17,true),(18,true),(19,true),(20,true),(21,true),(22,true),(23,true),(24,true),(25,true),(26,true),(27,true),(28,true),(29,true),(30,true),(31,true),(32,true),(33,true),(34,true),(35,true),(36,true),(37,true),(38,true),(39,true)] (by kernel_rfl) (by kernel_rfl) (S.sel [0,1] G G) fun K15 k15=>?_
  refine qF H<|qd rfl (fun _ S=>(aB fY rfl))<|qd rfl (fun _ S=>aF aE rfl (boxM.rd S (i:=0) G G))<|qK ?_;clear H a;intro a H
  refine aT rfl ?_
  refine aA H G G Try.func82 G G (cN _ _) ?_;clear H a
  rintro _ _ a ⟨rfl,S2⟩ H
  replace S:=S.call S2;clear S2
  refine wpList_nil (And.intro (S.sel [0,1] G G) ?_)
  refine aT rfl ?_
  refine aA H G G Try.func81 G G (bN (by omega)) ?_;clear H a
  rintro _ _ a ⟨rfl,S2⟩ H
  replace S:=S.call S2;clear S2
  refine wpList_nil (And.intro (S.sel [0,1] G G) ?_)
  refine qF H<|qr 2 rfl<|qK ?_;clear H a;intro a H
  refine aG H G G G G (fun _ S=>(aB bK rfl)) ?_;clear H a;intro a H
  refine aG H G G G G (fun _ S=>(aB cY rfl)) ?_;clear H a;intro a H
  refine aG H G G G G (fun _ S=>aF aE rfl (boxM.rd S (i:=0) G G)) ?_;clear H a;intro a H
  refine aG H G G G G (fun _ S=>Does.to (cD G G) (congrArg Value.bool (decide_eq_false (by omega)))) ?_;clear H a;intro a H
  refine qF H<|qd rfl (fun _ S=>(bD G G G))<|qr 1 rfl<|qK ?_;clear H a;intro a H
  refine aG H G G G G (fun _ S=>(aB bK rfl)) ?_;clear H a;intro a H
  refine aG H G G G G (fun _ S=>(aB cY rfl)) ?_;clear H a;intro a H
  refine aG H G G G G (fun _ S=>aF aE rfl (boxM.rd S (i:=0) G G)) ?_;clear H a;intro a H
  refine aG H G G G G (fun _ S=>(aB bK rfl)) ?_;clear H a;intro a H
  refine aG H G G G G (fun _ S=>(aB dM rfl)) ?_;clear H a;intro a H
  refine aG H G G G G (fun _ S=>aF aE rfl (boxM.rd S (i:=0) G G)) ?_;clear H a;intro a H
  refine aG H G G G G (fun _ S=>Does.to (bO G G) (congrArg Value.bool (decide_eq_false (by omega)))) ?_;clear H a;intro a H
  refine qF H<|qd rfl (fun _ S=>(bD G G G))<|qr 1 rfl<|qK ?_;clear H a;intro a H
  refine aG H G G G G (fun _ S=>(aB bK rfl)) ?_;clear H a;intro a H
  refine aG H G G G G (fun _ S=>(aB dM rfl)) ?_;clear H a;intro a H
  refine aG H G G G G (fun _ S=>aF aE rfl (boxM.rd S (i:=0) G G)) ?_;clear H a;intro a H
  refine aG H G G G G (fun _ S=>Does.to (bO G G) (congrArg Value.bool (decide_eq_true (by omega)))) ?_;clear H a;intro a H
  refine qF H<|qd rfl (fun _ S=>(bD G G G))<|qr 1 rfl<|qK ?_;clear H a;intro a H
  refine aJ H G G G G G ?_;clear H a;intro a H
  refine aJ H G G G G G ?_;clear H a;intro a H
  refine aJ H G G G G G ?_;clear H a;intro a H
  refine qF H<|qd rfl (fun _ S=>(aR G G G))<|qr 1 rfl<|qK ?_;clear H a;intro a H
  refine aJ H G G G G G ?_;clear H a;intro a H
  refine aJ H G G G G G ?_;clear H a;intro a H
  refine aJ H G G G G G ?_;clear H a;intro a H
  refine aJ H G G G G G ?_;clear H a;intro a H
  refine aJ H G G G G G ?_;clear H a;intro a H
  refine aJ H G G G G G ?_;clear H a;intro a H
  refine aJ H G G G G G ?_;clear H a;intro a H
  refine qF H<|qd rfl (fun _ S=>(aR G G G))<|qK ?_;clear H a;intro a H
  refine bM ?_
  refine k15 _ _ ?_
  clear k15 K15
  refine cond_ H rfl (fun hc6=>?_) (fun hc6=>?_)
  ·skip
   skip
   replace H:=H.keep [] rfl
   refine sS H fun K16 k16=>sr 1 rfl<|sE ?_;clear H a;intro a H
   refine k16 _ ?_;clear k16 K16
   refine wp_ret ?_
   refine ret1 (fn:=Try.f48) rfl H rfl ?_
   refine ⟨?_,(S.sel [] G G)⟩;unfold stopE;rw [if_pos hesc,if_neg (by unfold stpOk;simp only [decide_eq_true_eq];omega)]
  skip
  exact absurd hc6 (by decide)
 ·skip
  skip
  have hE:=cF hesc
  dsimp only at hE
  obtain ⟨hE1,hE2,hE3,hE4,hE5⟩:=hE
  replace H:=H.keep [2,3] rfl
  replace S:=S.drew
  refine seq_wq [(0,true),(1,true),(2,false),(3,false),(4,true),(5,true),(6,true),(7,true),(8,true),(9,true),(10,true),(11,true),(12,true),(13,true),(14,true),(15,true),(16,true),(17,true),(18,true),(19,true),(20,true),(21,true),(22,true),(23,true),(24,true),(25,true),(26,true),(27,true),(28,true),(29,true),(30,true),(31,true),(32,true),(33,true),(34,true),(35,true),(36,true),(37,true),(38,true),(39,true)] (by kernel_rfl) (by kernel_rfl) (S.sel [0,1] G G) fun K17 k17=>?_
  refine qF H<|qd rfl (fun _ S=>(aB fY rfl))<|qd rfl (fun _ S=>aF aE rfl (boxM.rd S (i:=0) G G))<|qK ?_;clear H a;intro a H
  refine aT rfl ?_
  refine aA H G G Try.func82 G G (cN _ _) ?_;clear H a
  rintro _ _ a ⟨rfl,S2⟩ H
  replace S:=S.call S2;clear S2
  refine wpList_nil (And.intro (S.sel [0,1] G G) ?_)
  refine aT rfl ?_
  refine aA H G G Try.func81 G G (bN (by omega)) ?_;clear H a
  rintro _ _ a ⟨rfl,S2⟩ H
  replace S:=S.call S2;clear S2
  refine wpList_nil (And.intro (S.sel [0,1] G G) ?_)
  refine qF H<|qr 2 rfl<|qK ?_;clear H a;intro a H
  refine aG H G G G G (fun _ S=>(aB bK rfl)) ?_;clear H a;intro a H
  refine aG H G G G G (fun _ S=>(aB cY rfl)) ?_;clear H a;intro a H
  refine aG H G G G G (fun _ S=>aF aE rfl (boxM.rd S (i:=0) G G)) ?_;clear H a;intro a H
  refine aG H G G G G (fun _ S=>Does.to (cD G G) (congrArg Value.bool (decide_eq_false (by omega)))) ?_;clear H a;intro a H
  refine qF H<|qd rfl (fun _ S=>(bD G G G))<|qr 1 rfl<|qK ?_;clear H a;intro a H
  refine aG H G G G G (fun _ S=>(aB bK rfl)) ?_;clear H a;intro a H
  refine aG H G G G G (fun _ S=>(aB cY rfl)) ?_;clear H a;intro a H
  refine aG H G G G G (fun _ S=>aF aE rfl (boxM.rd S (i:=0) G G)) ?_;clear H a;intro a H
  refine aG H G G G G (fun _ S=>(aB bK rfl)) ?_;clear H a;intro a H
  refine aG H G G G G (fun _ S=>(aB dM rfl)) ?_;clear H a;intro a H
  refine aG H G G G G (fun _ S=>aF aE rfl (boxM.rd S (i:=0) G G)) ?_;clear H a;intro a H
  refine aG H G G G G (fun _ S=>Does.to (bO G G) (congrArg Value.bool (decide_eq_false (by omega)))) ?_;clear H a;intro a H
  refine qF H<|qd rfl (fun _ S=>(bD G G G))<|qr 1 rfl<|qK ?_;clear H a;intro a H
  refine aG H G G G G (fun _ S=>(aB bK rfl)) ?_;clear H a;intro a H
  refine aG H G G G G (fun _ S=>(aB dM rfl)) ?_;clear H a;intro a H
  refine aG H G G G G (fun _ S=>aF aE rfl (boxM.rd S (i:=0) G G)) ?_;clear H a;intro a H
  refine aG H G G G G (fun _ S=>Does.to (bO G G) (congrArg Value.bool (decide_eq_false (by omega)))) ?_;clear H a;intro a H
  refine qF H<|qd rfl (fun _ S=>(bD G G G))<|qr 1 rfl<|qK ?_;clear H a;intro a H
  refine aG H G G G G (fun _ S=>(aB jM rfl)) ?_;clear H a;intro a H
  refine aG H G G G G (fun _ S=>aF aE rfl (boxM.rd S (i:=0) G G)) ?_;clear H a;intro a H
  refine aG H G G G G (fun _ S=>Does.to (cD G G) (congrArg Value.bool (decide_eq_true (by omega)))) ?_;clear H a;intro a H
  refine qF H<|qd rfl (fun _ S=>(bD G G G))<|qr 1 rfl<|qK ?_;clear H a;intro a H
  refine aJ H G G G G G ?_;clear H a;intro a H
  refine aJ H G G G G G ?_;clear H a;intro a H
  refine aJ H G G G G G ?_;clear H a;intro a H
  refine aJ H G G G G G ?_;clear H a;intro a H
  refine aJ H G G G G G ?_;clear H a;intro a H
  refine aJ H G G G G G ?_;clear H a;intro a H
  refine aJ H G G G G G ?_;clear H a;intro a H
  refine qF H<|qd rfl (fun _ S=>(aR G G G))<|qK ?_;clear H a;intro a H
  refine bM ?_
  refine k17 _ _ ?_
  clear k17 K17
  refine cond_ H rfl (fun hc7=>?_) (fun hc7=>?_)
  ·skip
   skip
   replace H:=H.keep [] rfl
   refine sS H fun K18 k18=>sr 1 rfl<|sE ?_;clear H a;intro a H
   refine k18 _ ?_;clear k18 K18
   refine wp_ret ?_
   refine ret1 (fn:=Try.f48) rfl H rfl ?_
   refine ⟨?_,(S.sel [] G G)⟩;unfold stopE;rw [if_pos hesc,if_neg (by unfold stpOk;simp only [decide_eq_true_eq];omega)]
  skip
  exact absurd hc7 (by decide)
 ·skip
  skip
  have hE:=cF hesc
  dsimp only at hE
  obtain ⟨hE1,hE2,hE3,hE4,hE5⟩:=hE
  replace H:=H.keep [2,3] rfl
  replace S:=S.drew
  refine seq_wq [(0,true),(1,true),(2,false),(3,false),(4,true),(5,true),(6,true),(7,true),(8,true),(9,true),(10,true),(11,true),(12,true),(13,true),(14,true),(15,true),(16,true),(17,true),(18,true),(19,true),(20,true),(21,true),(22,true),(23,true),(24,true),(25,true),(26,true),(27,true),(28,true),(29,true),(30,true),(31,true),(32,true),(33,true),(34,true),(35,true),(36,true),(37,true),(38,true),(39,true)] (by kernel_rfl) (by kernel_rfl) (S.sel [0,1] G G) fun K19 k19=>?_
  refine qF H<|qd rfl (fun _ S=>(aB fY rfl))<|qd rfl (fun _ S=>aF aE rfl (boxM.rd S (i:=0) G G))<|qK ?_;clear H a;intro a H
  refine aT rfl ?_
  refine aA H G G Try.func82 G G (cN _ _) ?_;clear H a
  rintro _ _ a ⟨rfl,S2⟩ H
  replace S:=S.call S2;clear S2
  refine wpList_nil (And.intro (S.sel [0,1] G G) ?_)
  refine aT rfl ?_
  refine aA H G G Try.func81 G G (bN (by omega)) ?_;clear H a
  rintro _ _ a ⟨rfl,S2⟩ H
  replace S:=S.call S2;clear S2
  refine wpList_nil (And.intro (S.sel [0,1] G G) ?_)
  refine qF H<|qr 2 rfl<|qK ?_;clear H a;intro a H
  refine aG H G G G G (fun _ S=>(aB bK rfl)) ?_;clear H a;intro a H
  refine aG H G G G G (fun _ S=>(aB cY rfl)) ?_;clear H a;intro a H
  refine aG H G G G G (fun _ S=>aF aE rfl (boxM.rd S (i:=0) G G)) ?_;clear H a;intro a H
  refine aG H G G G G (fun _ S=>Does.to (cD G G) (congrArg Value.bool (decide_eq_false (by omega)))) ?_;clear H a;intro a H
  refine qF H<|qd rfl (fun _ S=>(bD G G G))<|qr 1 rfl<|qK ?_;clear H a;intro a H
  refine aG H G G G G (fun _ S=>(aB bK rfl)) ?_;clear H a;intro a H
  refine aG H G G G G (fun _ S=>(aB cY rfl)) ?_;clear H a;intro a H
  refine aG H G G G G (fun _ S=>aF aE rfl (boxM.rd S (i:=0) G G)) ?_;clear H a;intro a H
  refine aG H G G G G (fun _ S=>(aB bK rfl)) ?_;clear H a;intro a H
  refine aG H G G G G (fun _ S=>(aB dM rfl)) ?_;clear H a;intro a H
  refine aG H G G G G (fun _ S=>aF aE rfl (boxM.rd S (i:=0) G G)) ?_;clear H a;intro a H
  refine aG H G G G G (fun _ S=>Does.to (bO G G) (congrArg Value.bool (decide_eq_false (by omega)))) ?_;clear H a;intro a H
  refine qF H<|qd rfl (fun _ S=>(bD G G G))<|qr 1 rfl<|qK ?_;clear H a;intro a H
  refine aG H G G G G (fun _ S=>(aB bK rfl)) ?_;clear H a;intro a H
  refine aG H G G G G (fun _ S=>(aB dM rfl)) ?_;clear H a;intro a H
  refine aG H G G G G (fun _ S=>aF aE rfl (boxM.rd S (i:=0) G G)) ?_;clear H a;intro a H
  refine aG H G G G G (fun _ S=>Does.to (bO G G) (congrArg Value.bool (decide_eq_false (by omega)))) ?_;clear H a;intro a H
  refine qF H<|qd rfl (fun _ S=>(bD G G G))<|qr 1 rfl<|qK ?_;clear H a;intro a H
  refine aG H G G G G (fun _ S=>(aB jM rfl)) ?_;clear H a;intro a H
  refine aG H G G G G (fun _ S=>aF aE rfl (boxM.rd S (i:=0) G G)) ?_;clear H a;intro a H
  refine aG H G G G G (fun _ S=>Does.to (cD G G) (congrArg Value.bool (decide_eq_false (by omega)))) ?_;clear H a;intro a H
  refine qF H<|qd rfl (fun _ S=>(bD G G G))<|qr 1 rfl<|qK ?_;clear H a;intro a H
  refine aG H G G G G (fun _ S=>(aB jM rfl)) ?_;clear H a;intro a H
  refine aG H G G G G (fun _ S=>aF aE rfl (boxM.rd S (i:=0) G G)) ?_;clear H a;intro a H
  refine aG H G G G G (fun _ S=>(aB jO rfl)) ?_;clear H a;intro a H
  refine aG H G G G G (fun _ S=>aF lL rfl (boxM.rd S (i:=1) G G)) ?_;clear H a;intro a H
  refine aG H G G G G (fun _ S=>dF kP rfl) ?_;clear H a;intro a H
  refine aG H G G G G (fun _ S=>eB G G (by omega) (by omega) (by unfold i64ok;omega)) ?_;clear H a;intro a H
  refine aG H G G G G (fun _ S=>Does.to (mM G G) (congrArg Value.bool (decide_eq_true (by omega)))) ?_;clear H a;intro a H
  refine qF H<|qd rfl (fun _ S=>(bD G G G))<|qK ?_;clear H a;intro a H
  refine bM ?_
  refine k19 _ _ ?_
  clear k19 K19
  refine cond_ H rfl (fun hc8=>?_) (fun hc8=>?_)
  ·skip
   skip
   replace H:=H.keep [] rfl
   refine sS H fun K20 k20=>sr 1 rfl<|sE ?_;clear H a;intro a H
   refine k20 _ ?_;clear k20 K20
   refine wp_ret ?_
   refine ret1 (fn:=Try.f48) rfl H rfl ?_
   refine ⟨?_,(S.sel [] G G)⟩;unfold stopE;rw [if_pos hesc,if_neg (by unfold stpOk;simp only [decide_eq_true_eq];omega)]
  skip
  exact absurd hc8 (by decide)
 skip
 have hE:=cF hesc
 dsimp only at hE
 obtain ⟨hE1,hE2,hE3,hE4,hE5⟩:=hE
 replace H:=H.keep [2,3] rfl
 replace S:=S.drew
 refine seq_wq [(0,true),(1,true),(2,false),(3,false),(4,true),(5,true),(6,true),(7,true),(8,true),(9,true),(10,true),(11,true),(12,true),(13,true),(14,true),(15,true),(16,true),(17,true),(18,true),(19,true),(20,true),(21,true),(22,true),(23,true),(24,true),(25,true),(26,true),(27,true),(28,true),(29,true),(30,true),(31,true),(32,true),(33,true),(34,true),(35,true),(36,true),(37,true),(38,true),(39,true)] (by kernel_rfl) (by kernel_rfl) (S.sel [0,1] G G) fun K21 k21=>?_
 refine qF H<|qd rfl (fun _ S=>(aB fY rfl))<|qd rfl (fun _ S=>aF aE rfl (boxM.rd S (i:=0) G G))<|qK ?_;clear H a;intro a H
 refine aT rfl ?_
 refine aA H G G Try.func82 G G (cN _ _) ?_;clear H a
 rintro _ _ a ⟨rfl,S2⟩ H
 replace S:=S.call S2;clear S2
 refine wpList_nil (And.intro (S.sel [0,1] G G) ?_)
 refine aT rfl ?_
 refine aA H G G Try.func81 G G (bN (by omega)) ?_;clear H a
 rintro _ _ a ⟨rfl,S2⟩ H
 replace S:=S.call S2;clear S2
 refine wpList_nil (And.intro (S.sel [0,1] G G) ?_)
 refine qF H<|qr 2 rfl<|qK ?_;clear H a;intro a H
 refine aG H G G G G (fun _ S=>(aB bK rfl)) ?_;clear H a;intro a H
 refine aG H G G G G (fun _ S=>(aB cY rfl)) ?_;clear H a;intro a H
 refine aG H G G G G (fun _ S=>aF aE rfl (boxM.rd S (i:=0) G G)) ?_;clear H a;intro a H
 refine aG H G G G G (fun _ S=>Does.to (cD G G) (congrArg Value.bool (decide_eq_false (by omega)))) ?_;clear H a;intro a H
 refine qF H<|qd rfl (fun _ S=>(bD G G G))<|qr 1 rfl<|qK ?_;clear H a;intro a H
 refine aG H G G G G (fun _ S=>(aB bK rfl)) ?_;clear H a;intro a H
 refine aG H G G G G (fun _ S=>(aB cY rfl)) ?_;clear H a;intro a H
 refine aG H G G G G (fun _ S=>aF aE rfl (boxM.rd S (i:=0) G G)) ?_;clear H a;intro a H
 refine aG H G G G G (fun _ S=>(aB bK rfl)) ?_;clear H a;intro a H
 refine aG H G G G G (fun _ S=>(aB dM rfl)) ?_;clear H a;intro a H
 refine aG H G G G G (fun _ S=>aF aE rfl (boxM.rd S (i:=0) G G)) ?_;clear H a;intro a H
 refine aG H G G G G (fun _ S=>Does.to (bO G G) (congrArg Value.bool (decide_eq_false (by omega)))) ?_;clear H a;intro a H
 refine qF H<|qd rfl (fun _ S=>(bD G G G))<|qr 1 rfl<|qK ?_;clear H a;intro a H
 refine aG H G G G G (fun _ S=>(aB bK rfl)) ?_;clear H a;intro a H
 refine aG H G G G G (fun _ S=>(aB dM rfl)) ?_;clear H a;intro a H
 refine aG H G G G G (fun _ S=>aF aE rfl (boxM.rd S (i:=0) G G)) ?_;clear H a;intro a H
 refine aG H G G G G (fun _ S=>Does.to (bO G G) (congrArg Value.bool (decide_eq_false (by omega)))) ?_;clear H a;intro a H
 refine qF H<|qd rfl (fun _ S=>(bD G G G))<|qr 1 rfl<|qK ?_;clear H a;intro a H
 refine aG H G G G G (fun _ S=>(aB jM rfl)) ?_;clear H a;intro a H
 refine aG H G G G G (fun _ S=>aF aE rfl (boxM.rd S (i:=0) G G)) ?_;clear H a;intro a H
 refine aG H G G G G (fun _ S=>Does.to (cD G G) (congrArg Value.bool (decide_eq_false (by omega)))) ?_;clear H a;intro a H
 refine qF H<|qd rfl (fun _ S=>(bD G G G))<|qr 1 rfl<|qK ?_;clear H a;intro a H
 refine aG H G G G G (fun _ S=>(aB jM rfl)) ?_;clear H a;intro a H
 refine aG H G G G G (fun _ S=>aF aE rfl (boxM.rd S (i:=0) G G)) ?_;clear H a;intro a H
 refine aG H G G G G (fun _ S=>(aB jO rfl)) ?_;clear H a;intro a H
 refine aG H G G G G (fun _ S=>aF lL rfl (boxM.rd S (i:=1) G G)) ?_;clear H a;intro a H
 refine aG H G G G G (fun _ S=>dF kP rfl) ?_;clear H a;intro a H
 refine aG H G G G G (fun _ S=>eB G G (by omega) (by omega) (by unfold i64ok;omega)) ?_;clear H a;intro a H
 refine aG H G G G G (fun _ S=>Does.to (mM G G) (congrArg Value.bool (decide_eq_false (by omega)))) ?_;clear H a;intro a H
 refine qF H<|qd rfl (fun _ S=>(bD G G G))<|qK ?_;clear H a;intro a H
 refine bM ?_
 refine k21 _ _ ?_
 clear k21 K21
 refine cond_ H rfl (fun hc9=>?_) (fun hc9=>?_)
 ·skip
  skip
  exact absurd hc9 (by decide)
 skip
 refine wp_skip ?_
 refine k8 _ _ ?_
 replace H:=H.keep [] rfl
 refine sS H fun K22 k22=>sr 1 rfl<|sE ?_;clear H a;intro a H
 refine k22 _ ?_;clear k22 K22
 refine wp_ret ?_
 refine ret1 (fn:=Try.f48) rfl H rfl ?_
 refine ⟨?_,(S.sel [] G G)⟩;unfold stopE;rw [if_pos hesc,if_pos (by unfold stpOk;simp only [decide_eq_true_eq];omega)]
theorem kV (up:Bool) (empty pull drag motor:Int) (br:List Brake) (BA:Option Addr) (bcp:Nat) (sp slo shi sfail:Int) (mb:Nat) (v:Int) (t:Nat) (x:Int) (w:World) (F:Nat→Prop) (S:St w F [boxM mb 163 [.bool up,.int .i64 empty,.int .i64 pull,.int .i64 drag,.int .i64 motor,.slice BA br.length bcp,.int .i64 sp,.int .i64 slo,.int .i64 shi,.int .i64 sfail,.int .i64 (v),.int .i64 (t:Int)]] w) (hb:InS w F 2 BA br.length (bcell br)) (hesc:escOk (⟨up,empty,pull,drag,motor,br⟩:Esc)=true) (hstp:stpOk (⟨up,empty,pull,drag,motor,br⟩:Esc) (⟨sp,slo,shi,sfail⟩:Stp)=true) (hx:slo≤x∧x≤shi) (ht:t≤1000) (hv : -900000000000≤v∧v≤900000000000) :
    Calls Try.prog 106 [.pointer (some ⟨mb,0,none⟩),.int .i64 x].toArray w (Ret (fun u w'=>u = .int .i64 (tickI (⟨up,empty,pull,drag,motor,br⟩:Esc) v x (gripI (⟨up,empty,pull,drag,motor,br⟩:Esc) (⟨sp,slo,shi,sfail⟩:Stp) (t:Int)))∧St w F [boxM mb 163 [.bool up,.int .i64 empty,.int .i64 pull,.int .i64 drag,.int .i64 motor,.slice BA br.length bcp,.int .i64 sp,.int .i64 slo,.int .i64 shi,.int .i64 sfail,.int .i64 (tickI (⟨up,empty,pull,drag,motor,br⟩:Esc) v x (gripI (⟨up,empty,pull,drag,motor,br⟩:Esc) (⟨sp,slo,shi,sfail⟩:Stp) (t:Int))),.int .i64 ((t:Int)+1)]] w')):=by
 have hE:=cF hesc
 dsimp only at hE
 obtain ⟨hE1,hE2,hE3,hE4,hE5⟩:=hE
 have hS1:=hstp;unfold stpOk at hS1;simp only [decide_eq_true_eq] at hS1
 have hgb:=pT (fail:=sfail) (t:=t) (l:=br) (by unfold escOk at hesc;simp only [Bool.and_eq_true] at hesc;exact hesc.2) br.length (Nat.le_refl _)
 have hgr:0≤gripI (⟨up,empty,pull,drag,motor,br⟩:Esc) (⟨sp,slo,shi,sfail⟩:Stp) (t:Int)∧gripI (⟨up,empty,pull,drag,motor,br⟩:Esc) (⟨sp,slo,shi,sfail⟩:Stp) (t:Int)≤30000000:=by unfold gripI;dsimp only;omega
 refine enter Try.func106 rfl Try.ntmps106 rfl (fun a H=>?_)
 skip
 refine sS H fun K1 k1=>sr 1 rfl<|sE ?_;clear H a;intro a H
 refine k1 _ ?_;clear k1 K1
 replace H:=H.keep [0,1] rfl
 replace S:=S.drew
 refine seq_wt 15 (.p 0 (.p 1 (.p 2 (.p 3 (.p 5 (.p 6 (.p 7 (.p 9 (.p 10 (.b3 4 (.b2 8 (.e 11 (.e 12 (.p 13 (.p 14 (.e 15 .nil))))) 11 (.e 8 (.e 12 (.p 13 (.p 14 (.e 15 .nil)))))) 8 (.b2 4 (.e 11 (.e 12 (.p 13 (.p 14 (.e 15 .nil))))) 11 (.e 4 (.e 12 (.p 13 (.p 14 (.e 15 .nil)))))) 11 (.b2 4 (.e 8 (.e 12 (.p 13 (.p 14 (.e 15 .nil))))) 8 (.e 4 (.e 12 (.p 13 (.p 14 (.e 15 .nil)))))))))))))))) (by kernel_rfl) (by kernel_rfl) (S.sel [0] G G) fun K2 k2=>?_
 refine aN H G G (fun _=>aP rfl) ?_;clear H a;intro a H
 refine aN H G G (fun _=>aP rfl) ?_;clear H a;intro a H
 refine aN H G G (fun _=>bE rfl) ?_;clear H a;intro a H
 refine aN H G G (fun _=>(aB rE rfl)) ?_;clear H a;intro a H
 refine aN H G G (fun _=>aP rfl) ?_;clear H a;intro a H
 refine aN H G G (fun _=>bE rfl) ?_;clear H a;intro a H
 refine aN H G G (fun _=>(aB bU rfl)) ?_;clear H a;intro a H
 refine aN H G G (fun _=>aP rfl) ?_;clear H a;intro a H
 refine aN H G G (fun _=>aP rfl) ?_;clear H a;intro a H
 refine qU G G G ?_ ?_ ?_
 ·skip
  refine ls 1 H<|sd ((aD fS hZ rfl S (i:=0) G G))<|sE ?_;clear H a;intro a H
  refine wpList_nil (And.intro (Or.inr (S.sel [0] G G)) ?_)
  refine dB G G ?_ ?_
  ·skip
   refine ls 1 H<|sl S 0 aE G G G<|sE ?_;clear H a;intro a H
   refine wpList_nil (And.intro (Or.inr (S.sel [0] G G)) ?_)
   refine aK rfl ?_
   have S1:=(S.sel [0] G G)
   refine aA H G G Try.func118 G G (jC up empty pull drag motor br BA bcp sp slo shi sfail mb v t _ _ S1.startR (hb.nowR S1) hesc hstp) ?_;clear H a
   rintro _ _ a ⟨rfl,S2⟩ H
   replace S:=(S.sel [0] G G).callR (M:=[_]) S2;clear S1 S2
   refine wpList_nil (And.intro (Or.inr (S.sel [0] G G)) ?_)
   refine aK rfl ?_
   refine aA H G G Try.func117 G G (iE up empty pull drag motor br BA bcp v x _ _ hesc (by omega) (by omega) (by omega)) ?_;clear H a
   rintro _ _ a ⟨rfl,S2⟩ H
   replace S:=S.call S2;clear S2
   refine wpList_nil (And.intro (Or.inr (S.sel [0] G G)) ?_)
   refine aN H G G (fun _=>bE rfl) ?_;clear H a;intro a H
   refine aN H G G (fun _=>(aB bU rfl)) ?_;clear H a;intro a H
   refine aK rfl ?_
   refine aC H S (i:=0) G G G G bC G G ?_
   clear H a S;intro _ a S H
   refine wpList_nil (And.intro (Or.inl rfl) ?_)
   refine bF ?_
   refine k2 _ _ ?_
   clear k2 K2
   replace H:=H.keep [0] rfl
   refine seq_list fun K3 k3=>?_
   refine ls 7 H<|sr 2 rfl<|sf cT rfl<|sl S 0 aE G G G<|sd (aH G G (by unfold i64ok;omega))<|sr 1 rfl<|sf cT rfl<|sE ?_;clear H a;intro a H
   refine aC H S (i:=0) G G G G bC G G ?_
   clear H a S;intro _ a S H
   refine k3 _ _ ?_;clear k3 K3
   replace H:=H.keep [0] rfl
   refine sS H fun K4 k4=>sr 2 rfl<|sf bU rfl<|sl S 0 aE G G G<|sr 1 rfl<|sE ?_;clear H a;intro a H
   refine k4 _ ?_;clear k4 K4
   refine wp_ret ?_
   refine ret1 (fn:=Try.f106) rfl H rfl ?_
   exact ⟨rfl,(S.sel [0] G G)⟩
  ·skip
   have S1:=(S.sel [0] G G)
   refine aA H G G Try.func118 G G (jC up empty pull drag motor br BA bcp sp slo shi sfail mb v t _ _ S1.startR (hb.nowR S1) hesc hstp) ?_;clear H a
   rintro _ _ a ⟨rfl,S2⟩ H
   replace S:=(S.sel [0] G G).callR (M:=[_]) S2;clear S1 S2
   refine wpList_nil (And.intro (Or.inr (S.sel [0] G G)) ?_)
   refine aK rfl ?_
   refine ls 1 H<|sl S 0 aE G G G<|sE ?_;clear H a;intro a H
   refine wpList_nil (And.intro (Or.inr (S.sel [0] G G)) ?_)
   refine aK rfl ?_
   refine aA H G G Try.func117 G G (iE up empty pull drag motor br BA bcp v x _ _ hesc (by omega) (by omega) (by omega)) ?_;clear H a
   rintro _ _ a ⟨rfl,S2⟩ H
   replace S:=S.call S2;clear S2
   refine wpList_nil (And.intro (Or.inr (S.sel [0] G G)) ?_)
   refine aN H G G (fun _=>bE rfl) ?_;clear H a;intro a H
   refine aN H G G (fun _=>(aB bU rfl)) ?_;clear H a;intro a H
   refine aK rfl ?_
   refine aC H S (i:=0) G G G G bC G G ?_
   clear H a S;intro _ a S H
   refine wpList_nil (And.intro (Or.inl rfl) ?_)
   refine bF ?_
   refine k2 _ _ ?_
   clear k2 K2
   replace H:=H.keep [0] rfl
   refine seq_list fun K5 k5=>?_
   refine ls 7 H<|sr 2 rfl<|sf cT rfl<|sl S 0 aE G G G<|sd (aH G G (by unfold i64ok;omega))<|sr 1 rfl<|sf cT rfl<|sE ?_;clear H a;intro a H
   refine aC H S (i:=0) G G G G bC G G ?_
   clear H a S;intro _ a S H
   refine k5 _ _ ?_;clear k5 K5
   replace H:=H.keep [0] rfl
   refine sS H fun K6 k6=>sr 2 rfl<|sf bU rfl<|sl S 0 aE G G G<|sr 1 rfl<|sE ?_;clear H a;intro a H
   refine k6 _ ?_;clear k6 K6
   refine wp_ret ?_
   refine ret1 (fn:=Try.f106) rfl H rfl ?_
   exact ⟨rfl,(S.sel [0] G G)⟩
 ·skip
  refine ls 1 H<|sl S 0 aE G G G<|sE ?_;clear H a;intro a H
  refine wpList_nil (And.intro (Or.inr (S.sel [0] G G)) ?_)
  refine dB G G ?_ ?_
  ·skip
   refine ls 1 H<|sd ((aD fS hZ rfl S (i:=0) G G))<|sE ?_;clear H a;intro a H
   refine wpList_nil (And.intro (Or.inr (S.sel [0] G G)) ?_)
   refine aK rfl ?_
   have S1:=(S.sel [0] G G)
   refine aA H G G Try.func118 G G (jC up empty pull drag motor br BA bcp sp slo shi sfail mb v t _ _ S1.startR (hb.nowR S1) hesc hstp) ?_;clear H a
   rintro _ _ a ⟨rfl,S2⟩ H
   replace S:=(S.sel [0] G G).callR (M:=[_]) S2;clear S1 S2
   refine wpList_nil (And.intro (Or.inr (S.sel [0] G G)) ?_)
   refine aK rfl ?_
   refine aA H G G Try.func117 G G (iE up empty pull drag motor br BA bcp v x _ _ hesc (by omega) (by omega) (by omega)) ?_;clear H a
   rintro _ _ a ⟨rfl,S2⟩ H
   replace S:=S.call S2;clear S2
   refine wpList_nil (And.intro (Or.inr (S.sel [0] G G)) ?_)
   refine aN H G G (fun _=>bE rfl) ?_;clear H a;intro a H
   refine aN H G G (fun _=>(aB bU rfl)) ?_;clear H a;intro a H
   refine aK rfl ?_
   refine aC H S (i:=0) G G G G bC G G ?_
   clear H a S;intro _ a S H
   refine wpList_nil (And.intro (Or.inl rfl) ?_)
   refine bF ?_
   refine k2 _ _ ?_
   clear k2 K2
   replace H:=H.keep [0] rfl
   refine seq_list fun K7 k7=>?_
   refine ls 7 H<|sr 2 rfl<|sf cT rfl<|sl S 0 aE G G G<|sd (aH G G (by unfold i64ok;omega))<|sr 1 rfl<|sf cT rfl<|sE ?_;clear H a;intro a H
   refine aC H S (i:=0) G G G G bC G G ?_
   clear H a S;intro _ a S H
   refine k7 _ _ ?_;clear k7 K7
   replace H:=H.keep [0] rfl
   refine sS H fun K8 k8=>sr 2 rfl<|sf bU rfl<|sl S 0 aE G G G<|sr 1 rfl<|sE ?_;clear H a;intro a H
   refine k8 _ ?_;clear k8 K8
   refine wp_ret ?_
   refine ret1 (fn:=Try.f106) rfl H rfl ?_
   exact ⟨rfl,(S.sel [0] G G)⟩
  ·skip
   have S1:=(S.sel [0] G G)
   refine aA H G G Try.func118 G G (jC up empty pull drag motor br BA bcp sp slo shi sfail mb v t _ _ S1.startR (hb.nowR S1) hesc hstp) ?_;clear H a
   rintro _ _ a ⟨rfl,S2⟩ H
   replace S:=(S.sel [0] G G).callR (M:=[_]) S2;clear S1 S2
   refine wpList_nil (And.intro (Or.inr (S.sel [0] G G)) ?_)
   refine aK rfl ?_
   refine ls 1 H<|sd ((aD fS hZ rfl S (i:=0) G G))<|sE ?_;clear H a;intro a H
   refine wpList_nil (And.intro (Or.inr (S.sel [0] G G)) ?_)
   refine aK rfl ?_
   refine aA H G G Try.func117 G G (iE up empty pull drag motor br BA bcp v x _ _ hesc (by omega) (by omega) (by omega)) ?_;clear H a
   rintro _ _ a ⟨rfl,S2⟩ H
   replace S:=S.call S2;clear S2
   refine wpList_nil (And.intro (Or.inr (S.sel [0] G G)) ?_)
   refine aN H G G (fun _=>bE rfl) ?_;clear H a;intro a H
   refine aN H G G (fun _=>(aB bU rfl)) ?_;clear H a;intro a H
   refine aK rfl ?_
   refine aC H S (i:=0) G G G G bC G G ?_
   clear H a S;intro _ a S H
   refine wpList_nil (And.intro (Or.inl rfl) ?_)
   refine bF ?_
   refine k2 _ _ ?_
   clear k2 K2
   replace H:=H.keep [0] rfl
   refine seq_list fun K9 k9=>?_
   refine ls 7 H<|sr 2 rfl<|sf cT rfl<|sl S 0 aE G G G<|sd (aH G G (by unfold i64ok;omega))<|sr 1 rfl<|sf cT rfl<|sE ?_;clear H a;intro a H
   refine aC H S (i:=0) G G G G bC G G ?_
   clear H a S;intro _ a S H
   refine k9 _ _ ?_;clear k9 K9
   replace H:=H.keep [0] rfl
   refine sS H fun K10 k10=>sr 2 rfl<|sf bU rfl<|sl S 0 aE G G G<|sr 1 rfl<|sE ?_;clear H a;intro a H
   refine k10 _ ?_;clear k10 K10
   refine wp_ret ?_
   refine ret1 (fn:=Try.f106) rfl H rfl ?_
   exact ⟨rfl,(S.sel [0] G G)⟩
 ·skip
  have S1:=(S.sel [0] G G)
  refine aA H G G Try.func118 G G (jC up empty pull drag motor br BA bcp sp slo shi sfail mb v t _ _ S1.startR (hb.nowR S1) hesc hstp) ?_;clear H a
  rintro _ _ a ⟨rfl,S2⟩ H
  replace S:=(S.sel [0] G G).callR (M:=[_]) S2;clear S1 S2
  refine wpList_nil (And.intro (Or.inr (S.sel [0] G G)) ?_)
  refine dB G G ?_ ?_
  ·skip
   refine ls 1 H<|sd ((aD fS hZ rfl S (i:=0) G G))<|sE ?_;clear H a;intro a H
   refine wpList_nil (And.intro (Or.inr (S.sel [0] G G)) ?_)
   refine aK rfl ?_
   refine ls 1 H<|sl S 0 aE G G G<|sE ?_;clear H a;intro a H
   refine wpList_nil (And.intro (Or.inr (S.sel [0] G G)) ?_)
   refine aK rfl ?_
   refine aA H G G Try.func117 G G (iE up empty pull drag motor br BA bcp v x _ _ hesc (by omega) (by omega) (by omega)) ?_;clear H a
   rintro _ _ a ⟨rfl,S2⟩ H
   replace S:=S.call S2;clear S2
   refine wpList_nil (And.intro (Or.inr (S.sel [0] G G)) ?_)
   refine aN H G G (fun _=>bE rfl) ?_;clear H a;intro a H
   refine aN H G G (fun _=>(aB bU rfl)) ?_;clear H a;intro a H
   refine aK rfl ?_
   refine aC H S (i:=0) G G G G bC G G ?_
   clear H a S;intro _ a S H
   refine wpList_nil (And.intro (Or.inl rfl) ?_)
   refine bF ?_
   refine k2 _ _ ?_
   clear k2 K2
   replace H:=H.keep [0] rfl
   refine seq_list fun K11 k11=>?_
   refine ls 7 H<|sr 2 rfl<|sf cT rfl<|sl S 0 aE G G G<|sd (aH G G (by unfold i64ok;omega))<|sr 1 rfl<|sf cT rfl<|sE ?_;clear H a;intro a H
   refine aC H S (i:=0) G G G G bC G G ?_
   clear H a S;intro _ a S H
   refine k11 _ _ ?_;clear k11 K11
   replace H:=H.keep [0] rfl
   refine sS H fun K12 k12=>sr 2 rfl<|sf bU rfl<|sl S 0 aE G G G<|sr 1 rfl<|sE ?_;clear H a;intro a H
   refine k12 _ ?_;clear k12 K12
   refine wp_ret ?_
   refine ret1 (fn:=Try.f106) rfl H rfl ?_
   exact ⟨rfl,(S.sel [0] G G)⟩
  ·skip
   refine ls 1 H<|sl S 0 aE G G G<|sE ?_;clear H a;intro a H
   refine wpList_nil (And.intro (Or.inr (S.sel [0] G G)) ?_)
   refine aK rfl ?_
   refine ls 1 H<|sd ((aD fS hZ rfl S (i:=0) G G))<|sE ?_;clear H a;intro a H
   refine wpList_nil (And.intro (Or.inr (S.sel [0] G G)) ?_)
   refine aK rfl ?_
   refine aA H G G Try.func117 G G (iE up empty pull drag motor br BA bcp v x _ _ hesc (by omega) (by omega) (by omega)) ?_;clear H a
   rintro _ _ a ⟨rfl,S2⟩ H
   replace S:=S.call S2;clear S2
   refine wpList_nil (And.intro (Or.inr (S.sel [0] G G)) ?_)
   refine aN H G G (fun _=>bE rfl) ?_;clear H a;intro a H
   refine aN H G G (fun _=>(aB bU rfl)) ?_;clear H a;intro a H
   refine aK rfl ?_
   refine aC H S (i:=0) G G G G bC G G ?_
   clear H a S;intro _ a S H
   refine wpList_nil (And.intro (Or.inl rfl) ?_)
   refine bF ?_
   refine k2 _ _ ?_
   clear k2 K2
   replace H:=H.keep [0] rfl
   refine seq_list fun K13 k13=>?_
   refine ls 7 H<|sr 2 rfl<|sf cT rfl<|sl S 0 aE G G G<|sd (aH G G (by unfold i64ok;omega))<|sr 1 rfl<|sf cT rfl<|sE ?_;clear H a;intro a H
   refine aC H S (i:=0) G G G G bC G G ?_
   clear H a S;intro _ a S H
   refine k13 _ _ ?_;clear k13 K13
   replace H:=H.keep [0] rfl
   refine sS H fun K14 k14=>sr 2 rfl<|sf bU rfl<|sl S 0 aE G G G<|sr 1 rfl<|sE ?_;clear H a;intro a H
   refine k14 _ ?_;clear k14 K14
   refine wp_ret ?_
   refine ret1 (fn:=Try.f106) rfl H rfl ?_
   exact ⟨rfl,(S.sel [0] G G)⟩
end
section
theorem lX (up:Bool) (empty pull drag motor:Int) (br:List Brake) (BA:Option Addr) (bcp:Nat) (sp slo shi sfail:Int) (mb:Nat) (v:Int) (t:Nat) (most:Bool) (w:World) (F:Nat→Prop) (S:St w F [boxM mb 163 [.bool up,.int .i64 empty,.int .i64 pull,.int .i64 drag,.int .i64 motor,.slice BA br.length bcp,.int .i64 sp,.int .i64 slo,.int .i64 shi,.int .i64 sfail,.int .i64 (v),.int .i64 (t:Int)]] w) (hb:InS w F 2 BA br.length (bcell br)) (hesc:escOk (⟨up,empty,pull,drag,motor,br⟩:Esc)=true) (hstp:stpOk (⟨up,empty,pull,drag,motor,br⟩:Esc) (⟨sp,slo,shi,sfail⟩:Stp)=true) (ht:t≤1000) (hv : -900000000000≤v∧v≤900000000000) :
    Calls Try.prog 83 [.pointer (some ⟨mb,0,none⟩),.bool most].toArray w (Ret (fun u w'=>∃ n:Int,u = .int .i64 n∧St w F [boxM mb 163 [.bool up,.int .i64 empty,.int .i64 pull,.int .i64 drag,.int .i64 motor,.slice BA br.length bcp,.int .i64 sp,.int .i64 slo,.int .i64 shi,.int .i64 sfail,.int .i64 (extI (⟨up,empty,pull,drag,motor,br⟩:Esc) (⟨sp,slo,shi,sfail⟩:Stp) most v (t:Int)),.int .i64 ((t:Int)+1)]] w')):=by
 have hE:=cF hesc
 dsimp only at hE
 obtain ⟨hE1,hE2,hE3,hE4,hE5⟩:=hE
 have hS1:=hstp;unfold stpOk at hS1;simp only [decide_eq_true_eq] at hS1
 refine enter Try.func83 rfl Try.ntmps83 rfl (fun a H=>?_)
 skip
 refine sS H fun K1 k1=>sr 1 rfl<|sE ?_;clear H a;intro a H
 refine k1 _ ?_;clear k1 K1
 replace H:=H.keep [0,1] rfl
 replace S:=S.drew
 refine seq_wt 999999 (.q 0 (.q 1 (.q 2 (.q 3 (.q 4 (.q 5 (.b2 6 (.e 7 (.e 8 (.e 9 .nil))) 7 (.e 6 (.e 8 (.e 9 .nil)))))))))) (by kernel_rfl) (by kernel_rfl) (S.sel [0] G G) fun K2 k2=>?_
 refine aL H G G (fun _ S=>aP rfl) ?_;clear H a;intro a H
 refine aL H G G (fun _ S=>bE rfl) ?_;clear H a;intro a H
 refine aL H G G (fun _ S=>(aD jK eK rfl S (i:=0) G G)) ?_;clear H a;intro a H
 refine aL H G G (fun _ S=>aP rfl) ?_;clear H a;intro a H
 refine aL H G G (fun _ S=>bE rfl) ?_;clear H a;intro a H
 refine aL H G G (fun _ S=>(aD jK eK rfl S (i:=0) G G)) ?_;clear H a;intro a H
 refine dB G G ?_ ?_
 ·skip
  refine aI H rfl S lM ?_;clear H a S;intro b5 _ a hb5 hbw5 S H
  refine wpList_nil (And.intro (Or.inr (S.sel [1] G G)) ?_)
  refine aK rfl ?_
  refine aI H rfl S lM ?_;clear H a S;intro b6 _ a hb6 hbw6 S H
  refine wpList_nil (And.intro (Or.inr (S.sel [2] G G)) ?_)
  refine aK rfl ?_
  refine aC H S (i:=1) G G G G eK G G ?_
  clear H a S;intro _ a S H
  refine wpList_nil (And.intro (Or.inr (S.sel [2] G G)) ?_)
  refine aK rfl ?_
  refine aC H S (i:=0) G G G G eK G G ?_
  clear H a S;intro _ a S H
  refine wpList_nil (And.intro (Or.inr (S.sel [2] G G)) ?_)
  refine bF ?_
  refine k2 _ _ ?_
  clear k2 K2
  replace H:=H.keep [0,1,5,6] rfl
  replace S:=S.drew
  refine seq_wq [(0,true),(1,true),(2,true),(3,true),(4,true),(5,true),(7,true),(8,true),(9,true),(10,true),(11,true),(12,true),(6,false),(13,false),(14,true),(15,true)] (by kernel_rfl) (by kernel_rfl) (S.sel [2] G G) fun K3 k3=>?_
  refine qF H<|qr 2 rfl<|qd rfl (fun _ S=>(aB eQ rfl))<|qd rfl (fun _ S=>(aB bK rfl))<|qd rfl (fun _ S=>(aB cY rfl))<|qd rfl (fun _ S=>aF aE rfl (boxM.rd S (i:=0) G G))<|qr 2 rfl<|qd rfl (fun _ S=>(aB eQ rfl))<|qd rfl (fun _ S=>(aB bK rfl))<|qd rfl (fun _ S=>(aB dM rfl))<|qd rfl (fun _ S=>aF aE rfl (boxM.rd S (i:=0) G G))<|qK ?_;clear H a;intro a H
  refine aT rfl ?_
  have S1:=(S.sel [1] G G)
  refine aA H G G Try.func106 G G (kV up empty pull drag motor br BA bcp sp slo shi sfail b5 v t slo _ _ S1.startR (hb.nowR S1) hesc hstp (by omega) (by omega) (by omega)) ?_;clear H a
  rintro _ _ a ⟨rfl,S2⟩ H
  replace S:=(S.sel [1,0,2] G G).callR (M:=[_]) S2;clear S1 S2
  refine wpList_nil (And.intro (S.sel [2] G G) ?_)
  refine aT rfl ?_
  have S1:=(S.sel [1] G G)
  refine aA H G G Try.func106 G G (kV up empty pull drag motor br BA bcp sp slo shi sfail b6 v t shi _ _ S1.startR (hb.nowR S1) hesc hstp (by omega) (by omega) (by omega)) ?_;clear H a
  rintro _ _ a ⟨rfl,S2⟩ H
  replace S:=(S.sel [1,0,2] G G).callR (M:=[_]) S2;clear S1 S2
  refine wpList_nil (And.intro (S.sel [2] G G) ?_)
  refine qF H<|qr 2 rfl<|qK ?_;clear H a;intro a H
  refine bM ?_
  refine k3 _ _ ?_
  clear k3 K3
  refine wp_seq_k fun K4 k4=>?_
  replace H:=H.keep [0,1,5,6,7,8] rfl
  refine sS H fun K5 k5=>sr 2 rfl<|sg 3 1 30 33 true G G (fun hg2=>sy hg2<|sr 1 rfl<|sy hg2<|sr 1 rfl<|sy hg2<|sr 1 rfl<|sz 3 G G G)<|sa G G G<|sr 1 rfl<|sg 7 6 35 42 false G G (fun hg7=>sy hg7<|sr 1 rfl<|sy hg7<|sr 1 rfl<|sy hg7<|sr 1 rfl<|sg 3 9 38 41 true G G (fun hg10=>sy hg10<|sr 1 rfl<|sy hg10<|sr 1 rfl<|sy hg10<|sr 1 rfl<|sz 3 G G G)<|sy hg7<|sa G G G<|sz 5 G G G)<|so G G G<|sE ?_;clear H a;intro a H
  refine k5 _ ?_;clear k5 K5
  refine cond_ H rfl (fun hc1=>?_) (fun hc1=>?_)
  ·skip
   try simp only [o1,o2,o3,o4,o5,o6,o7,o8,o9,oa] at hc1
   have hcx:=hc1
   replace H:=H.keep [0,6] rfl
   refine seq_list fun K6 k6=>?_
   refine ls 3 H<|sr 1 rfl<|sd ((aD jK eK rfl S (i:=0) G G))<|sr 1 rfl<|sE ?_;clear H a;intro a H
   refine aC H S (i:=2) G G G G eK G G ?_
   clear H a S;intro _ a S H
   refine k6 _ _ ?_;clear k6 K6
   replace H:=H.keep [0] rfl
   refine sS H fun K7 k7=>sr 2 rfl<|sf eQ rfl<|sf bK rfl<|sf dM rfl<|sl S 2 aE G G G<|sr 1 rfl<|sE ?_;clear H a;intro a H
   refine k7 _ ?_;clear k7 K7
   refine wp_ret ?_
   refine ret1 (fn:=Try.f83) rfl H rfl ?_
   first|(rw [pU (by cases most <;> simp at hcx ⊢ <;> omega)];exact ⟨_,rfl,(S.sel [2] G G)⟩)|(rw [pV (by cases most <;> simp at hcx ⊢ <;> omega)];exact ⟨_,rfl,(S.sel [2] G G)⟩)
  try simp only [o1,o2,o3,o4,o5,o6,o7,o8,o9,oa] at hc1
  have hcx:=hc1
  refine wp_skip ?_
  refine k4 _ _ ?_
  replace H:=H.keep [0,5] rfl
  refine seq_list fun K8 k8=>?_
  refine ls 3 H<|sr 1 rfl<|sd ((aD jK eK rfl S (i:=1) G G))<|sr 1 rfl<|sE ?_;clear H a;intro a H
  refine aC H S (i:=2) G G G G eK G G ?_
  clear H a S;intro _ a S H
  refine k8 _ _ ?_;clear k8 K8
  replace H:=H.keep [0] rfl
  refine sS H fun K9 k9=>sr 2 rfl<|sf eQ rfl<|sf bK rfl<|sf cY rfl<|sl S 2 aE G G G<|sr 1 rfl<|sE ?_;clear H a;intro a H
  refine k9 _ ?_;clear k9 K9
  refine wp_ret ?_
  refine ret1 (fn:=Try.f83) rfl H rfl ?_
  first|(rw [pU (by cases most <;> simp at hcx ⊢ <;> omega)];exact ⟨_,rfl,(S.sel [2] G G)⟩)|(rw [pV (by cases most <;> simp at hcx ⊢ <;> omega)];exact ⟨_,rfl,(S.sel [2] G G)⟩)
 ·skip
  refine aI H rfl S lM ?_;clear H a S;intro b6 _ a hb6 hbw6 S H
  refine wpList_nil (And.intro (Or.inr (S.sel [1] G G)) ?_)
  refine aK rfl ?_
  refine aI H rfl S lM ?_;clear H a S;intro b5 _ a hb5 hbw5 S H
  refine wpList_nil (And.intro (Or.inr (S.sel [2] G G)) ?_)
  refine aK rfl ?_
  refine aC H S (i:=0) G G G G eK G G ?_
  clear H a S;intro _ a S H
  refine wpList_nil (And.intro (Or.inr (S.sel [2] G G)) ?_)
  refine aK rfl ?_
  refine aC H S (i:=1) G G G G eK G G ?_
  clear H a S;intro _ a S H
  refine wpList_nil (And.intro (Or.inr (S.sel [2] G G)) ?_)
  refine bF ?_
  refine k2 _ _ ?_
  clear k2 K2
  replace H:=H.keep [0,1,5,6] rfl
  replace S:=S.drew
  refine seq_wq [(0,true),(1,true),(2,true),(3,true),(4,true),(5,true),(7,true),(8,true),(9,true),(10,true),(11,true),(12,true),(6,false),(13,false),(14,true),(15,true)] (by kernel_rfl) (by kernel_rfl) (S.sel [2] G G) fun K10 k10=>?_
  refine qF H<|qr 2 rfl<|qd rfl (fun _ S=>(aB eQ rfl))<|qd rfl (fun _ S=>(aB bK rfl))<|qd rfl (fun _ S=>(aB cY rfl))<|qd rfl (fun _ S=>aF aE rfl (boxM.rd S (i:=0) G G))<|qr 2 rfl<|qd rfl (fun _ S=>(aB eQ rfl))<|qd rfl (fun _ S=>(aB bK rfl))<|qd rfl (fun _ S=>(aB dM rfl))<|qd rfl (fun _ S=>aF aE rfl (boxM.rd S (i:=0) G G))<|qK ?_;clear H a;intro a H
  refine aT rfl ?_
  have S1:=(S.sel [0] G G)
  refine aA H G G Try.func106 G G (kV up empty pull drag motor br BA bcp sp slo shi sfail b5 v t slo _ _ S1.startR (hb.nowR S1) hesc hstp (by omega) (by omega) (by omega)) ?_;clear H a
  rintro _ _ a ⟨rfl,S2⟩ H
  replace S:=(S.sel [0,1,2] G G).callR (M:=[_]) S2;clear S1 S2
  refine wpList_nil (And.intro (S.sel [2] G G) ?_)
  refine aT rfl ?_
  have S1:=(S.sel [1] G G)
  refine aA H G G Try.func106 G G (kV up empty pull drag motor br BA bcp sp slo shi sfail b6 v t shi _ _ S1.startR (hb.nowR S1) hesc hstp (by omega) (by omega) (by omega)) ?_;clear H a
  rintro _ _ a ⟨rfl,S2⟩ H
  replace S:=(S.sel [1,0,2] G G).callR (M:=[_]) S2;clear S1 S2
  refine wpList_nil (And.intro (S.sel [2] G G) ?_)
  refine qF H<|qr 2 rfl<|qK ?_;clear H a;intro a H
  refine bM ?_
  refine k10 _ _ ?_
  clear k10 K10
  refine wp_seq_k fun K11 k11=>?_
  replace H:=H.keep [0,1,5,6,7,8] rfl
  refine sS H fun K12 k12=>sr 2 rfl<|sg 3 1 30 33 true G G (fun hg2=>sy hg2<|sr 1 rfl<|sy hg2<|sr 1 rfl<|sy hg2<|sr 1 rfl<|sz 3 G G G)<|sa G G G<|sr 1 rfl<|sg 7 6 35 42 false G G (fun hg7=>sy hg7<|sr 1 rfl<|sy hg7<|sr 1 rfl<|sy hg7<|sr 1 rfl<|sg 3 9 38 41 true G G (fun hg10=>sy hg10<|sr 1 rfl<|sy hg10<|sr 1 rfl<|sy hg10<|sr 1 rfl<|sz 3 G G G)<|sy hg7<|sa G G G<|sz 5 G G G)<|so G G G<|sE ?_;clear H a;intro a H
  refine k12 _ ?_;clear k12 K12
  refine cond_ H rfl (fun hc2=>?_) (fun hc2=>?_)
  ·skip
   try simp only [o1,o2,o3,o4,o5,o6,o7,o8,o9,oa] at hc2
   have hcx:=hc2
   replace H:=H.keep [0,6] rfl
   refine seq_list fun K13 k13=>?_
   refine ls 3 H<|sr 1 rfl<|sd ((aD jK eK rfl S (i:=0) G G))<|sr 1 rfl<|sE ?_;clear H a;intro a H
   refine aC H S (i:=2) G G G G eK G G ?_
   clear H a S;intro _ a S H
   refine k13 _ _ ?_;clear k13 K13
   replace H:=H.keep [0] rfl
   refine sS H fun K14 k14=>sr 2 rfl<|sf eQ rfl<|sf bK rfl<|sf dM rfl<|sl S 2 aE G G G<|sr 1 rfl<|sE ?_;clear H a;intro a H
   refine k14 _ ?_;clear k14 K14
   refine wp_ret ?_
   refine ret1 (fn:=Try.f83) rfl H rfl ?_
   first|(rw [pU (by cases most <;> simp at hcx ⊢ <;> omega)];exact ⟨_,rfl,(S.sel [2] G G)⟩)|(rw [pV (by cases most <;> simp at hcx ⊢ <;> omega)];exact ⟨_,rfl,(S.sel [2] G G)⟩)
  try simp only [o1,o2,o3,o4,o5,o6,o7,o8,o9,oa] at hc2
  have hcx:=hc2
  refine wp_skip ?_
  refine k11 _ _ ?_
  replace H:=H.keep [0,5] rfl
  refine seq_list fun K15 k15=>?_
  refine ls 3 H<|sr 1 rfl<|sd ((aD jK eK rfl S (i:=1) G G))<|sr 1 rfl<|sE ?_;clear H a;intro a H
  refine aC H S (i:=2) G G G G eK G G ?_
  clear H a S;intro _ a S H
  refine k15 _ _ ?_;clear k15 K15
  replace H:=H.keep [0] rfl
  refine sS H fun K16 k16=>sr 2 rfl<|sf eQ rfl<|sf bK rfl<|sf cY rfl<|sl S 2 aE G G G<|sr 1 rfl<|sE ?_;clear H a;intro a H
  refine k16 _ ?_;clear k16 K16
  refine wp_ret ?_
  refine ret1 (fn:=Try.f83) rfl H rfl ?_
  first|(rw [pU (by cases most <;> simp at hcx ⊢ <;> omega)];exact ⟨_,rfl,(S.sel [2] G G)⟩)|(rw [pV (by cases most <;> simp at hcx ⊢ <;> omega)];exact ⟨_,rfl,(S.sel [2] G G)⟩)
theorem pW {e:Esc} {s:Stp} {m:Bool} {g:Nat} {v t:Int} (hg:0<g) (hv:v≠0):goI e s m g v t=(extI e s m v t+(goI e s m (g-1) (extI e s m v t) (t+1)).1,(goI e s m (g-1) (extI e s m v t) (t+1)).2):=by
  obtain ⟨n,rfl⟩:∃ n,g=n+1:=⟨g-1,by omega⟩
  rw [goI,if_neg hv,Nat.add_sub_cancel]
theorem Bo {e:Esc} {s:Stp} {m:Bool} {g:Nat} {v t:Int} (h:v=0∨g=0):goI e s m g v t=(0,decide (v=0)):=by
  cases g with
  | zero=>rfl
  | succ n=>
    rcases h with h|h
    · rw [goI,if_pos h,decide_eq_true h]
    · cases h
theorem Dj {e:Esc} {s:Stp} {m:Bool} {v t B:Int} (he:escOk e=true) (hs:stpOk e s=true) (hv : -B≤v∧v≤B) : -(B+50000000)≤extI e s m v t∧extI e s m v t≤B+50000000:=by
  have hS:=hs;unfold stpOk at hS;simp only [decide_eq_true_eq] at hS
  have hq:e.br.all eV=true:=by unfold escOk at he;simp only [Bool.and_eq_true] at he;exact he.2
  have hgb:=pT (fail:=s.fail) (t:=t) hq e.br.length (Nat.le_refl _)
  have hE:=(cF he).1
  have hgr:0≤gripI e s t∧gripI e s t≤30000000:=by unfold gripI;omega
  rcases Di (e:=e) (s:=s) (m:=m) (v:=v) (t:=t) with h|h
  · rw [h];exact uT he (by omega) hgr hv
  · rw [h];exact uT he (by omega) hgr hv
theorem cZ (up:Bool) (empty pull drag motor:Int) (br:List Brake) (BA:Option Addr) (bcp:Nat) (sp slo shi sfail:Int) (most:Bool) (w:World) (hb:InS w noF 2 BA br.length (bcell br)) (hbn:br.length≤9223372036854775807) (hesc:escOk (⟨up,empty,pull,drag,motor,br⟩:Esc)=true) (hstp:stpOk (⟨up,empty,pull,drag,motor,br⟩:Esc) (⟨sp,slo,shi,sfail⟩:Stp)=true) :
    Calls Try.prog 49 [.agg [.bool up,.int .i64 empty,.int .i64 pull,.int .i64 drag,.int .i64 motor,.slice BA br.length bcp].toArray,.agg [.int .i64 sp,.int .i64 slo,.int .i64 shi,.int .i64 sfail].toArray,.bool most].toArray w (Ret (fun u w'=>∃ A' n c' f,u = .agg [.int .i64 (goI (⟨up,empty,pull,drag,motor,br⟩:Esc) (⟨sp,slo,shi,sfail⟩:Stp) most 100 sp 0).1,.slice A' n c',.bool (goI (⟨up,empty,pull,drag,motor,br⟩:Esc) (⟨sp,slo,shi,sfail⟩:Stp) most 100 sp 0).2].toArray∧St w noF [ownM 3 1 A' n c' f] w')):=by
 have hE:=cF hesc
 dsimp only at hE
 obtain ⟨hE1,hE2,hE3,hE4,hE5⟩:=hE
 have hS1:=hstp;unfold stpOk at hS1;simp only [decide_eq_true_eq] at hS1
 have hmx:maxLen=9223372036854775807:=rfl
 refine enter Try.func49 rfl Try.ntmps49 rfl (fun a H=>?_)
 have S:=St.start w
 refine seq_list fun K1 k1=>?_
 refine aV H rfl S G G ?_;clear H a S;intro b3 _ a hb3 hbw3 S H
 refine aV H rfl S G G ?_;clear H a S;intro b4 _ a hb4 hbw4 S H
 refine aI H rfl S cU ?_;clear H a S;intro b6 _ a hb6 hbw6 S H
 refine k1 _ _ ?_;clear k1 K1
 replace H:=H.keep [2,3,4,6] rfl
 refine seq_list fun K2 k2=>?_
 refine ls 5 H<|sd ((aD fS hZ rfl S (i:=2) G G))<|sd ((aD mZ oE rfl S (i:=1) G G))<|sf fY rfl<|sl S 1 aE G G G<|sd (aO Dc G G)<|sE ?_;clear H a;intro a H
 refine aI H rfl S lM ?_;clear H a S;intro b7 _ a hb7 hbw7 S H
 refine aC H S (i:=0) G G G G eK G G ?_
 clear H a S;intro _ a S H
 refine k2 _ _ ?_;clear k2 K2
 replace H:=H.keep [2,4,6,7] rfl
 refine seq_list fun K3 k3=>?_
 refine ls 4 H<|sf fY rfl<|sl S 2 aE G G G<|sr 1 rfl<|sd (aO Da G G)<|sE ?_;clear H a;intro a H
 refine aI H rfl S cU ?_;clear H a S;intro b8 _ a hb8 hbw8 S H
 refine aC H S (i:=0) G G G G cA G G ?_
 clear H a S;intro _ a S H
 refine k3 _ _ ?_;clear k3 K3
 refine wp_seq_k fun K4 k4=>?_
 refine wp_block ?_
 replace S:=S.newNil 3 1 (fun _ _=>undef)
 refine loop_st (X:=Int×Nat×Int×Option Addr×Nat×(Nat→Nat→Value)) (R0:=_) [2,6,7,8] H rfl (fun ⟨v,t,way,A',c',f'⟩=>[]) (fun ⟨v,t,way,A',c',f'⟩=>[boxM b7 163 [.bool up,.int .i64 empty,.int .i64 pull,.int .i64 drag,.int .i64 motor,.slice BA br.length bcp,.int .i64 sp,.int .i64 slo,.int .i64 shi,.int .i64 sfail,.int .i64 (v),.int .i64 (t:Int)],boxM b8 118 [.int .i64 way,.slice A' t c',.bool (decide (v=0))],ownM 3 1 A' t c' f']) (fun g ⟨v,t,way,A',c',f'⟩=>t≤100∧g+t=100∧(-(1000+50000000*(t:Int))≤v∧v≤1000+50000000*(t:Int))∧(-(6000000000*(t:Int))≤way∧way≤6000000000*(t:Int))∧way+(goI (⟨up,empty,pull,drag,motor,br⟩:Esc) (⟨sp,slo,shi,sfail⟩:Stp) most g v t).1=(goI (⟨up,empty,pull,drag,motor,br⟩:Esc) (⟨sp,slo,shi,sfail⟩:Stp) most 100 sp 0).1∧(goI (⟨up,empty,pull,drag,motor,br⟩:Esc) (⟨sp,slo,shi,sfail⟩:Stp) most g v t).2=(goI (⟨up,empty,pull,drag,motor,br⟩:Esc) (⟨sp,slo,shi,sfail⟩:Stp) most 100 sp 0).2) (100) (sp,0,0,none,0,fun _ _=>undef) ?_ (S.sel [2,1,0,3,4,5] G G) (H.keep [2,6,7,8] rfl) ?_
 · exact ⟨by omega,by omega,by omega,by omega,Int.zero_add _,rfl⟩
 clear H S a
 intro g1 x1 a w1 hp S H K5 k5
 obtain ⟨v,t,way,A',c',f'⟩:=x1
 dsimp only at hp S H
 refine wp_seq_k fun K6 k6=>?_
 refine sS H fun K7 k7=>sf jA rfl<|sl S 1 qZ G G G<|sr 2 rfl<|sg 3 3 21 24 true G G (fun hg4=>sy hg4<|sf cT rfl<|sy hg4<|sl S 0 aE G G G<|sy hg4<|sr 1 rfl<|sz 3 G G G)<|sa G G G<|sE ?_;clear H a;intro a H
 refine k7 _ ?_;clear k7 K7
 refine cond_ H rfl (fun hc1=>?_) (fun hc1=>?_)
 ·skip
  try simp only [o1,o2,o3,o4,o5,o6,o7,o8,o9,oa] at hc1
  refine wp_skip ?_
  refine k6 _ _ ?_
  refine wp_block ?_
  have hxb:=Dj (m:=most) (v:=v) (t:=(t:Int)) (B:=1000+50000000*t) hesc hstp (by omega)
  replace H:=H.keep [2,6,7,8] rfl
  replace S:=S.drew
  refine seq_wt 7 (.p 0 (.p 2 (.b2 1 (.e 3 (.e 4 (.e 5 (.p 6 (.e 7 .nil))))) 3 (.b2 1 (.e 4 (.e 5 (.p 6 (.e 7 .nil)))) 4 (.e 1 (.e 5 (.p 6 (.e 7 .nil)))))))) (by kernel_rfl) (by kernel_rfl) (S.sel [3,4,5] G G) fun K8 k8=>?_
  refine aN H G G (fun _=>(aB iA rfl)) ?_;clear H a;intro a H
  refine aN H G G (fun _=>aP rfl) ?_;clear H a;intro a H
  refine dB G G ?_ ?_
  ·skip
   refine ls 1 H<|sl S 1 aW G G G<|sE ?_;clear H a;intro a H
   refine wpList_nil (And.intro (Or.inr (S.sel [3,4,5] G G)) ?_)
   refine aK rfl ?_
   have S1:=(S.sel [0] G G)
   refine aA H G G Try.func83 G G (lX up empty pull drag motor br BA bcp sp slo shi sfail b7 v t most _ _ S1.startR (hb.nowR S1) hesc hstp (by omega) (by omega)) ?_;clear H a
   rintro _ _ a ⟨nl,rfl,S2⟩ H
   replace S:=(S.sel [0,1,2,3,4,5] G G).callR (M:=[_]) S2;clear S1 S2
   refine wpList_nil (And.intro (Or.inr (S.sel [3,4,5] G G)) ?_)
   refine aK rfl ?_
   refine bB H rfl S aM bC eZ G G G G G G G G G ?_;clear H a S;intro A1 _ a hA1 S H
   refine wpList_nil (And.intro (Or.inr (S.sel [4,5,6] G G)) ?_)
   refine aK rfl ?_
   refine cK H rfl S aM bC eZ mA G G (i:=3) G G G (ownM.inS S (i:=0) rfl) (lO (one rfl)) (by omega) (by omega) ?_;clear H a S;intro A2 c2 _ a S H
   refine wpList_nil (And.intro (Or.inr (S.sel [4,5,6] G G)) ?_)
   refine aN H G G (fun _=>(aB iA rfl)) ?_;clear H a;intro a H
   refine aK rfl ?_
   refine aC H S (i:=2) G G G G xX G G ?_
   clear H a S;intro _ a S H
   refine wpList_nil (And.intro (Or.inl rfl) ?_)
   refine bF ?_
   refine k8 _ _ ?_
   clear k8 K8
   replace H:=H.keep [2,6,7,8] rfl
   refine seq_list fun K9 k9=>?_
   refine ls 6 H<|sf fN rfl<|sl S 2 aE G G G<|sf bU rfl<|sl S 1 aE G G G<|sd (aH G G (by unfold i64ok;omega))<|sf fN rfl<|sE ?_;clear H a;intro a H
   refine aC H S (i:=2) G G G G bC G G ?_
   clear H a S;intro _ a S H
   refine k9 _ _ ?_;clear k9 K9
   replace H:=H.keep [2,6,7,8] rfl
   refine one_list ?_
   refine ls 4 H<|sf bU rfl<|sl S 1 aE G G G<|sr 1 rfl<|sf jA rfl<|sE ?_;clear H a;intro a H
   refine aC H S (i:=2) G G G G xW G G ?_
   clear H a S;intro _ a S H
   have hgs:=pW (e:=(⟨up,empty,pull,drag,motor,br⟩:Esc)) (s:=(⟨sp,slo,shi,sfail⟩:Stp)) (m:=most) (g:=g1) (v:=v) (t:=(t:Int)) (by omega) (by omega)
   exact k5 (g1-1) (extI (⟨up,empty,pull,drag,motor,br⟩:Esc) (⟨sp,slo,shi,sfail⟩:Stp) most v (t:Int),t+1,way+extI (⟨up,empty,pull,drag,motor,br⟩:Esc) (⟨sp,slo,shi,sfail⟩:Stp) most v (t:Int),_,_,_) a _ (by omega) (⟨by omega,by omega,by omega,by omega,by have h9:=hp.2.2.2.2.1;rw [hgs] at h9;(try dsimp only at h9 ⊢);push_cast;omega,by have h9:=hp.2.2.2.2.2;rw [hgs] at h9;exact h9⟩) (S.sel [1,2,3,4,5,6] G G) (H.keep [2,6,7,8] rfl)
  ·skip
   have S1:=(S.sel [0] G G)
   refine aA H G G Try.func83 G G (lX up empty pull drag motor br BA bcp sp slo shi sfail b7 v t most _ _ S1.startR (hb.nowR S1) hesc hstp (by omega) (by omega)) ?_;clear H a
   rintro _ _ a ⟨nl,rfl,S2⟩ H
   replace S:=(S.sel [0,1,2,3,4,5] G G).callR (M:=[_]) S2;clear S1 S2
   refine wpList_nil (And.intro (Or.inr (S.sel [3,4,5] G G)) ?_)
   refine dB G G ?_ ?_
   ·skip
    refine ls 1 H<|sl S 1 aW G G G<|sE ?_;clear H a;intro a H
    refine wpList_nil (And.intro (Or.inr (S.sel [3,4,5] G G)) ?_)
    refine aK rfl ?_
    refine bB H rfl S aM bC eZ G G G G G G G G G ?_;clear H a S;intro A3 _ a hA3 S H
    refine wpList_nil (And.intro (Or.inr (S.sel [4,5,6] G G)) ?_)
    refine aK rfl ?_
    refine cK H rfl S aM bC eZ mA G G (i:=3) G G G (ownM.inS S (i:=0) rfl) (lO (one rfl)) (by omega) (by omega) ?_;clear H a S;intro A4 c4 _ a S H
    refine wpList_nil (And.intro (Or.inr (S.sel [4,5,6] G G)) ?_)
    refine aN H G G (fun _=>(aB iA rfl)) ?_;clear H a;intro a H
    refine aK rfl ?_
    refine aC H S (i:=2) G G G G xX G G ?_
    clear H a S;intro _ a S H
    refine wpList_nil (And.intro (Or.inl rfl) ?_)
    refine bF ?_
    refine k8 _ _ ?_
    clear k8 K8
    replace H:=H.keep [2,6,7,8] rfl
    refine seq_list fun K11 k11=>?_
    refine ls 6 H<|sf fN rfl<|sl S 2 aE G G G<|sf bU rfl<|sl S 1 aE G G G<|sd (aH G G (by unfold i64ok;omega))<|sf fN rfl<|sE ?_;clear H a;intro a H
    refine aC H S (i:=2) G G G G bC G G ?_
    clear H a S;intro _ a S H
    refine k11 _ _ ?_;clear k11 K11
    replace H:=H.keep [2,6,7,8] rfl
    refine one_list ?_
    refine ls 4 H<|sf bU rfl<|sl S 1 aE G G G<|sr 1 rfl<|sf jA rfl<|sE ?_;clear H a;intro a H
    refine aC H S (i:=2) G G G G xW G G ?_
    clear H a S;intro _ a S H
    have hgs:=pW (e:=(⟨up,empty,pull,drag,motor,br⟩:Esc)) (s:=(⟨sp,slo,shi,sfail⟩:Stp)) (m:=most) (g:=g1) (v:=v) (t:=(t:Int)) (by omega) (by omega)
    exact k5 (g1-1) (extI (⟨up,empty,pull,drag,motor,br⟩:Esc) (⟨sp,slo,shi,sfail⟩:Stp) most v (t:Int),t+1,way+extI (⟨up,empty,pull,drag,motor,br⟩:Esc) (⟨sp,slo,shi,sfail⟩:Stp) most v (t:Int),_,_,_) a _ (by omega) (⟨by omega,by omega,by omega,by omega,by have h9:=hp.2.2.2.2.1;rw [hgs] at h9;(try dsimp only at h9 ⊢);push_cast;omega,by have h9:=hp.2.2.2.2.2;rw [hgs] at h9;exact h9⟩) (S.sel [1,2,3,4,5,6] G G) (H.keep [2,6,7,8] rfl)
   ·skip
    refine bB H rfl S aM bC eZ G G G G G G G G G ?_;clear H a S;intro A5 _ a hA5 S H
    refine wpList_nil (And.intro (Or.inr (S.sel [4,5,6] G G)) ?_)
    refine aK rfl ?_
    refine ls 1 H<|sl S 2 aW G G G<|sE ?_;clear H a;intro a H
    refine wpList_nil (And.intro (Or.inr (S.sel [4,5,6] G G)) ?_)
    refine aK rfl ?_
    refine cK H rfl S aM bC eZ mA G G (i:=3) G G G (ownM.inS S (i:=0) rfl) (lO (one rfl)) (by omega) (by omega) ?_;clear H a S;intro A6 c6 _ a S H
    refine wpList_nil (And.intro (Or.inr (S.sel [4,5,6] G G)) ?_)
    refine aN H G G (fun _=>(aB iA rfl)) ?_;clear H a;intro a H
    refine aK rfl ?_
    refine aC H S (i:=2) G G G G xX G G ?_
    clear H a S;intro _ a S H
    refine wpList_nil (And.intro (Or.inl rfl) ?_)
    refine bF ?_
    refine k8 _ _ ?_
    clear k8 K8
    replace H:=H.keep [2,6,7,8] rfl
    refine seq_list fun K13 k13=>?_
    refine ls 6 H<|sf fN rfl<|sl S 2 aE G G G<|sf bU rfl<|sl S 1 aE G G G<|sd (aH G G (by unfold i64ok;omega))<|sf fN rfl<|sE ?_;clear H a;intro a H
    refine aC H S (i:=2) G G G G bC G G ?_
    clear H a S;intro _ a S H
    refine k13 _ _ ?_;clear k13 K13
    replace H:=H.keep [2,6,7,8] rfl
    refine one_list ?_
    refine ls 4 H<|sf bU rfl<|sl S 1 aE G G G<|sr 1 rfl<|sf jA rfl<|sE ?_;clear H a;intro a H
    refine aC H S (i:=2) G G G G xW G G ?_
    clear H a S;intro _ a S H
    have hgs:=pW (e:=(⟨up,empty,pull,drag,motor,br⟩:Esc)) (s:=(⟨sp,slo,shi,sfail⟩:Stp)) (m:=most) (g:=g1) (v:=v) (t:=(t:Int)) (by omega) (by omega)
    exact k5 (g1-1) (extI (⟨up,empty,pull,drag,motor,br⟩:Esc) (⟨sp,slo,shi,sfail⟩:Stp) most v (t:Int),t+1,way+extI (⟨up,empty,pull,drag,motor,br⟩:Esc) (⟨sp,slo,shi,sfail⟩:Stp) most v (t:Int),_,_,_) a _ (by omega) (⟨by omega,by omega,by omega,by omega,by have h9:=hp.2.2.2.2.1;rw [hgs] at h9;(try dsimp only at h9 ⊢);push_cast;omega,by have h9:=hp.2.2.2.2.2;rw [hgs] at h9;exact h9⟩) (S.sel [1,2,3,4,5,6] G G) (H.keep [2,6,7,8] rfl)
 try simp only [o1,o2,o3,o4,o5,o6,o7,o8,o9,oa] at hc1
 refine wp_exit ?_
 refine k4 _ _ ?_
 refine seq_list fun K15 k15=>?_
 refine ls 1 H<|sd ((aD uM cA rfl S (i:=1) G G))<|sE ?_;clear H a;intro a H
 refine aC H S (i:=3) G G G G cA G G ?_
 clear H a S;intro _ a S H
 refine k15 _ _ ?_;clear k15 K15
 refine wp_ret ?_
 refine retA (fn:=Try.f49) rfl H rfl uM (by exact cA) (dL S (i:=3) rfl) ?_
 have hgs:=Bo (e:=(⟨up,empty,pull,drag,motor,br⟩:Esc)) (s:=(⟨sp,slo,shi,sfail⟩:Stp)) (m:=most) (g:=g1) (v:=v) (t:=(t:Int)) (by omega)
 rw [hgs] at hp
 have h8:=hp.2.2.2.2.1;have h9:=hp.2.2.2.2.2
 dsimp only at h8 h9
 rw [Int.add_zero] at h8
 rw [←h8,←h9]
 exact ⟨_,_,_,_,rfl,(S.sel [2] G G)⟩
end
section
theorem gK {e:Esc} {s:Stp} (h:¬ stopE e s=0):distI e s=(0,0,stopE e s):=by unfold distI;exact if_pos h
theorem fE {e:Esc} {s:Stp} (h:stopE e s=0) (h2:(goI e s true 100 s.speed 0).2=false):distI e s=(0,0,12):=by
  unfold distI
  rw [if_neg (by omega),if_neg (by rw [h2];simp)]
theorem iN {e:Esc} {s:Stp} (h:stopE e s=0) (h2:(goI e s true 100 s.speed 0).2=true):distI e s=((goI e s false 100 s.speed 0).1,(goI e s true 100 s.speed 0).1,0):=by
  unfold distI
  rw [if_neg (by omega),if_pos h2]
theorem bW (up:Bool) (empty pull drag motor:Int) (br:List Brake) (BA:Option Addr) (bcp:Nat) (sp slo shi sfail:Int) (w:World) (hb:InS w noF 2 BA br.length (bcell br)) (hbn:br.length≤9223372036854775807) :
    Calls Try.prog 23 [.agg [.bool up,.int .i64 empty,.int .i64 pull,.int .i64 drag,.int .i64 motor,.slice BA br.length bcp].toArray,.agg [.int .i64 sp,.int .i64 slo,.int .i64 shi,.int .i64 sfail].toArray].toArray w (Ret (fun u w'=>∃ tl th:Int,u = .tuple #[.agg [.int .i64 (distI (⟨up,empty,pull,drag,motor,br⟩:Esc) (⟨sp,slo,shi,sfail⟩:Stp)).1,.int .i64 (distI (⟨up,empty,pull,drag,motor,br⟩:Esc) (⟨sp,slo,shi,sfail⟩:Stp)).2.1].toArray,.agg [.int .i64 tl,.int .i64 th].toArray,.int .i64 (distI (⟨up,empty,pull,drag,motor,br⟩:Esc) (⟨sp,slo,shi,sfail⟩:Stp)).2.2]∧St w noF [] w')):=by
 refine enter Try.func23 rfl Try.ntmps23 rfl (fun a H=>?_)
 have S:=St.start w
 refine seq_list fun K1 k1=>?_
 refine aV H rfl S G G ?_;clear H a S;intro b2 _ a hb2 hbw2 S H
 refine aV H rfl S G G ?_;clear H a S;intro b3 _ a hb3 hbw3 S H
 refine aI H rfl S dY ?_;clear H a S;intro b4 _ a hb4 hbw4 S H
 refine aI H rfl S dY ?_;clear H a S;intro b5 _ a hb5 hbw5 S H
 refine ls 1 H<|sr 1 rfl<|sE ?_;clear H a;intro a H
 refine k1 _ _ ?_;clear k1 K1
 refine wp_seq_k fun K2 k2=>?_
 refine seq_list fun K3 k3=>?_
 refine ls 2 H<|sd ((aD fS hZ rfl S (i:=3) G G))<|sd ((aD mZ oE rfl S (i:=2) G G))<|sE ?_;clear H a;intro a H
 refine aA H G G Try.func48 G G (nX up empty pull drag motor br BA bcp sp slo shi sfail _ (hb.now S) hbn) ?_;clear H a
 rintro _ _ a ⟨rfl,S2⟩ H
 replace S:=S.call S2;clear S2
 refine ls 1 H<|sr 1 rfl<|sE ?_;clear H a;intro a H
 refine k3 _ _ ?_;clear k3 K3
 replace H:=H.keep [2,3,4,5,6] rfl
 refine sS H fun K4 k4=>sr 2 rfl<|sE ?_;clear H a;intro a H
 refine k4 _ ?_;clear k4 K4
 refine condN H rfl (fun hc1=>?_) (fun hc1=>?_)
 ·skip
  have hce:=hc1
  replace S:=S.drew
  refine seq_wt 999999 (.p 2 (.b2 0 (.b2 1 (.e 3 (.e 4 (.p 5 .nil))) 3 (.e 1 (.e 4 (.p 5 .nil)))) 1 (.e 0 (.e 3 (.e 4 (.p 5 .nil)))))) (by kernel_rfl) (by kernel_rfl) (S.sel [2,3] G G) fun K5 k5=>?_
  refine aN H G G (fun _=>aP rfl) ?_;clear H a;intro a H
  refine dB G G ?_ ?_
  ·skip
   refine ls 1 H<|sd ((aD bJ aY rfl S (i:=1) G G))<|sE ?_;clear H a;intro a H
   refine wpList_nil (And.intro (Or.inr (S.sel [2,3] G G)) ?_)
   refine dB G G ?_ ?_
   ·skip
    refine ls 1 H<|sd ((aD bJ aY rfl S (i:=0) G G))<|sE ?_;clear H a;intro a H
    refine wpList_nil (And.intro (Or.inr (S.sel [2,3] G G)) ?_)
    refine aK rfl ?_
    refine aC H S (i:=1) G G G G aY G G ?_
    clear H a S;intro _ a S H
    refine wpList_nil (And.intro (Or.inr (S.sel [2,3] G G)) ?_)
    refine aK rfl ?_
    refine aC H S (i:=0) G G G G aY G G ?_
    clear H a S;intro _ a S H
    refine wpList_nil (And.intro (Or.inr (S.sel [2,3] G G)) ?_)
    refine aN H G G (fun _=>bG rfl) ?_;clear H a;intro a H
    refine bF ?_
    refine k5 _ _ ?_
    clear k5 K5
    refine wp_ret ?_
    refine jX (fn:=Try.f23) rfl H G G bJ (by exact aY) (dL S (i:=1) rfl) bJ (by exact aY) (dL S (i:=0) rfl) rfl ?_
    first|(rw [gK hce];exact ⟨_,_,rfl,(S.sel [] G G)⟩)|(rw [fE hce (by simpa using hcf)];exact ⟨_,_,rfl,(S.sel [] G G)⟩)|(rw [iN hce (by simpa using hcf)];exact ⟨_,_,rfl,(S.sel [] G G)⟩)
   ·skip
    refine aC H S (i:=1) G G G G aY G G ?_
    clear H a S;intro _ a S H
    refine wpList_nil (And.intro (Or.inr (S.sel [2,3] G G)) ?_)
    refine aK rfl ?_
    refine ls 1 H<|sd ((aD bJ aY rfl S (i:=0) G G))<|sE ?_;clear H a;intro a H
    refine wpList_nil (And.intro (Or.inr (S.sel [2,3] G G)) ?_)
    refine aK rfl ?_
    refine aC H S (i:=0) G G G G aY G G ?_
    clear H a S;intro _ a S H
    refine wpList_nil (And.intro (Or.inr (S.sel [2,3] G G)) ?_)
    refine aN H G G (fun _=>bG rfl) ?_;clear H a;intro a H
    refine bF ?_
    refine k5 _ _ ?_
    clear k5 K5
    refine wp_ret ?_
    refine jX (fn:=Try.f23) rfl H G G bJ (by exact aY) (dL S (i:=1) rfl) bJ (by exact aY) (dL S (i:=0) rfl) rfl ?_
    first|(rw [gK hce];exact ⟨_,_,rfl,(S.sel [] G G)⟩)|(rw [fE hce (by simpa using hcf)];exact ⟨_,_,rfl,(S.sel [] G G)⟩)|(rw [iN hce (by simpa using hcf)];exact ⟨_,_,rfl,(S.sel [] G G)⟩)
  ·skip
   refine ls 1 H<|sd ((aD bJ aY rfl S (i:=0) G G))<|sE ?_;clear H a;intro a H
   refine wpList_nil (And.intro (Or.inr (S.sel [2,3] G G)) ?_)
   refine aK rfl ?_
   refine ls 1 H<|sd ((aD bJ aY rfl S (i:=1) G G))<|sE ?_;clear H a;intro a H
   refine wpList_nil (And.intro (Or.inr (S.sel [2,3] G G)) ?_)
   refine aK rfl ?_
   refine aC H S (i:=1) G G G G aY G G ?_
   clear H a S;intro _ a S H
   refine wpList_nil (And.intro (Or.inr (S.sel [2,3] G G)) ?_)
   refine aK rfl ?_
   refine aC H S (i:=0) G G G G aY G G ?_
   clear H a S;intro _ a S H
   refine wpList_nil (And.intro (Or.inr (S.sel [2,3] G G)) ?_)
   refine aN H G G (fun _=>bG rfl) ?_;clear H a;intro a H
   refine bF ?_
   refine k5 _ _ ?_
   clear k5 K5
   refine wp_ret ?_
   refine jX (fn:=Try.f23) rfl H G G bJ (by exact aY) (dL S (i:=1) rfl) bJ (by exact aY) (dL S (i:=0) rfl) rfl ?_
   first|(rw [gK hce];exact ⟨_,_,rfl,(S.sel [] G G)⟩)|(rw [fE hce (by simpa using hcf)];exact ⟨_,_,rfl,(S.sel [] G G)⟩)|(rw [iN hce (by simpa using hcf)];exact ⟨_,_,rfl,(S.sel [] G G)⟩)
 have hce:=hc1
 refine wp_skip ?_
 refine k2 _ _ ?_
 have SR:=(S.sel [0,1,2,3] G G)
 refine meet_sr (X:=(Nat×Nat)×(Option Addr×Nat×Nat)×(Option Addr×Nat×Nat)) [4,5] H rfl (fun ⟨⟨b7,b8⟩,⟨A7,n7,c7⟩,A8,n8,c8⟩=>[(7,.pointer (some ⟨b7,0,none⟩)),(8,.pointer (some ⟨b8,0,none⟩))]) (fun ⟨⟨b7,b8⟩,⟨A7,n7,c7⟩,A8,n8,c8⟩=>[boxM b7 118 [.int .i64 (goI (⟨up,empty,pull,drag,motor,br⟩:Esc) (⟨sp,slo,shi,sfail⟩:Stp) true 100 sp 0).1,.slice A7 n7 c7,.bool (goI (⟨up,empty,pull,drag,motor,br⟩:Esc) (⟨sp,slo,shi,sfail⟩:Stp) true 100 sp 0).2],boxM b8 118 [.int .i64 (goI (⟨up,empty,pull,drag,motor,br⟩:Esc) (⟨sp,slo,shi,sfail⟩:Stp) false 100 sp 0).1,.slice A8 n8 c8,.bool (goI (⟨up,empty,pull,drag,motor,br⟩:Esc) (⟨sp,slo,shi,sfail⟩:Stp) false 100 sp 0).2]]) (fun ⟨⟨b7,b8⟩,⟨A7,n7,c7⟩,A8,n8,c8⟩=>True) SR (fun K6 k6=>?_) ?_
 ·skip
  obtain ⟨hesc,hstp⟩:=Bn hce
  replace H:=H.keep [2,3,4,5] rfl
  replace S:=S.drew
  refine one_wt 999999 (.q 0 (.q 1 (.q 3 (.q 4 (.b3 2 (.b3 5 (.b2 6 (.e 7 (.e 8 (.e 9 .nil))) 7 (.e 6 (.e 8 (.e 9 .nil)))) 6 (.b2 5 (.e 7 (.e 8 (.e 9 .nil))) 7 (.e 5 (.e 8 (.e 9 .nil)))) 7 (.b2 5 (.e 6 (.e 8 (.e 9 .nil))) 6 (.e 5 (.e 8 (.e 9 .nil))))) 6 (.b2 2 (.b2 5 (.e 7 (.e 8 (.e 9 .nil))) 7 (.e 5 (.e 8 (.e 9 .nil)))) 7 (.e 2 (.e 5 (.e 8 (.e 9 .nil))))) 7 (.b2 2 (.b2 5 (.e 6 (.e 8 (.e 9 .nil))) 6 (.e 5 (.e 8 (.e 9 .nil)))) 6 (.e 2 (.e 5 (.e 8 (.e 9 .nil)))))))))) (by kernel_rfl) (by kernel_rfl) (S.sel [0,1,2,3] G G) ?_
  refine aL H G G (fun _ S=>(aD fS hZ rfl S (i:=3) G G)) ?_;clear H a;intro a H
  refine aL H G G (fun _ S=>(aD mZ oE rfl S (i:=2) G G)) ?_;clear H a;intro a H
  refine aL H G G (fun _ S=>(aD fS hZ rfl S (i:=3) G G)) ?_;clear H a;intro a H
  refine aL H G G (fun _ S=>(aD mZ oE rfl S (i:=2) G G)) ?_;clear H a;intro a H
  refine qU G G G ?_ ?_ ?_
  ·skip
   refine aA H G G Try.func49 G G (cZ up empty pull drag motor br BA bcp sp slo shi sfail true _ (hb.now S) hbn hesc hstp) ?_;clear H a
   rintro _ _ a ⟨A7,n7,c7,f7,rfl,S2⟩ H
   replace S:=S.call S2;clear S2
   refine wpList_nil (And.intro (Or.inr (S.sel [1,2,3,4] G G)) ?_)
   refine qU G G G ?_ ?_ ?_
   ·skip
    refine aA H G G Try.func49 G G (cZ up empty pull drag motor br BA bcp sp slo shi sfail false _ (hb.now S) hbn hesc hstp) ?_;clear H a
    rintro _ _ a ⟨A8,n8,c8,f8,rfl,S2⟩ H
    replace S:=S.call S2;clear S2
    refine wpList_nil (And.intro (Or.inr (S.sel [2,3,4,5] G G)) ?_)
    refine dB G G ?_ ?_
    ·skip
     refine aI H rfl S cU ?_;clear H a S;intro b7 _ a hb7 hbw7 S H
     refine wpList_nil (And.intro (Or.inr (S.sel [3,4,5,6] G G)) ?_)
     refine aK rfl ?_
     refine aI H rfl S cU ?_;clear H a S;intro b8 _ a hb8 hbw8 S H
     refine wpList_nil (And.intro (Or.inr (S.sel [4,5,6,7] G G)) ?_)
     refine aK rfl ?_
     refine aC H S (i:=1) G G G G cA G G ?_
     clear H a S;intro _ a S H
     refine wpList_nil (And.intro (Or.inr (S.sel [4,5,6,7] G G)) ?_)
     refine aK rfl ?_
     refine aC H S (i:=0) G G G G cA G G ?_
     clear H a S;intro _ a S H
     refine wpList_nil (And.intro (Or.inr (S.sel [4,5,6,7] G G)) ?_)
     refine bF ?_
     exact k6 ((b7,b8),(_,_,_),_,_,_) a _ (trivial) (S.sel [1,0,4,5,6,7] G G) (H.keep [7,8,4,5] rfl)
    ·skip
     refine aI H rfl S cU ?_;clear H a S;intro b8 _ a hb8 hbw8 S H
     refine wpList_nil (And.intro (Or.inr (S.sel [3,4,5,6] G G)) ?_)
     refine aK rfl ?_
     refine aI H rfl S cU ?_;clear H a S;intro b7 _ a hb7 hbw7 S H
     refine wpList_nil (And.intro (Or.inr (S.sel [4,5,6,7] G G)) ?_)
     refine aK rfl ?_
     refine aC H S (i:=0) G G G G cA G G ?_
     clear H a S;intro _ a S H
     refine wpList_nil (And.intro (Or.inr (S.sel [4,5,6,7] G G)) ?_)
     refine aK rfl ?_
     refine aC H S (i:=1) G G G G cA G G ?_
     clear H a S;intro _ a S H
     refine wpList_nil (And.intro (Or.inr (S.sel [4,5,6,7] G G)) ?_)
     refine bF ?_
     exact k6 ((b7,b8),(_,_,_),_,_,_) a _ (trivial) (S.sel [0,1,4,5,6,7] G G) (H.keep [7,8,4,5] rfl)
   ·skip
    refine aI H rfl S cU ?_;clear H a S;intro b7 _ a hb7 hbw7 S H
    refine wpList_nil (And.intro (Or.inr (S.sel [2,3,4,5] G G)) ?_)
    refine dB G G ?_ ?_
    ·skip
     refine aA H G G Try.func49 G G (cZ up empty pull drag motor br BA bcp sp slo shi sfail false _ (hb.now S) hbn hesc hstp) ?_;clear H a
     rintro _ _ a ⟨A8,n8,c8,f8,rfl,S2⟩ H
     replace S:=S.call S2;clear S2
     refine wpList_nil (And.intro (Or.inr (S.sel [3,4,5,6] G G)) ?_)
     refine aK rfl ?_
     refine aI H rfl S cU ?_;clear H a S;intro b8 _ a hb8 hbw8 S H
     refine wpList_nil (And.intro (Or.inr (S.sel [4,5,6,7] G G)) ?_)
     refine aK rfl ?_
     refine aC H S (i:=2) G G G G cA G G ?_
     clear H a S;intro _ a S H
     refine wpList_nil (And.intro (Or.inr (S.sel [4,5,6,7] G G)) ?_)
     refine aK rfl ?_
     refine aC H S (i:=0) G G G G cA G G ?_
     clear H a S;intro _ a S H
     refine wpList_nil (And.intro (Or.inr (S.sel [4,5,6,7] G G)) ?_)
     refine bF ?_
     exact k6 ((b7,b8),(_,_,_),_,_,_) a _ (trivial) (S.sel [2,0,4,5,6,7] G G) (H.keep [7,8,4,5] rfl)
    ·skip
     refine aI H rfl S cU ?_;clear H a S;intro b8 _ a hb8 hbw8 S H
     refine wpList_nil (And.intro (Or.inr (S.sel [3,4,5,6] G G)) ?_)
     refine aK rfl ?_
     refine aA H G G Try.func49 G G (cZ up empty pull drag motor br BA bcp sp slo shi sfail false _ (hb.now S) hbn hesc hstp) ?_;clear H a
     rintro _ _ a ⟨A8,n8,c8,f8,rfl,S2⟩ H
     replace S:=S.call S2;clear S2
     refine wpList_nil (And.intro (Or.inr (S.sel [4,5,6,7] G G)) ?_)
     refine aK rfl ?_
     refine aC H S (i:=2) G G G G cA G G ?_
     clear H a S;intro _ a S H
     refine wpList_nil (And.intro (Or.inr (S.sel [4,5,6,7] G G)) ?_)
     refine aK rfl ?_
     refine aC H S (i:=1) G G G G cA G G ?_
     clear H a S;intro _ a S H
     refine wpList_nil (And.intro (Or.inr (S.sel [4,5,6,7] G G)) ?_)
     refine bF ?_
     exact k6 ((b7,b8),(_,_,_),_,_,_) a _ (trivial) (S.sel [2,1,4,5,6,7] G G) (H.keep [7,8,4,5] rfl)
   ·skip
    refine aI H rfl S cU ?_;clear H a S;intro b8 _ a hb8 hbw8 S H
    refine wpList_nil (And.intro (Or.inr (S.sel [2,3,4,5] G G)) ?_)
    refine dB G G ?_ ?_
    ·skip
     refine aA H G G Try.func49 G G (cZ up empty pull drag motor br BA bcp sp slo shi sfail false _ (hb.now S) hbn hesc hstp) ?_;clear H a
     rintro _ _ a ⟨A8,n8,c8,f8,rfl,S2⟩ H
     replace S:=S.call S2;clear S2
     refine wpList_nil (And.intro (Or.inr (S.sel [3,4,5,6] G G)) ?_)
     refine aK rfl ?_
     refine aI H rfl S cU ?_;clear H a S;intro b7 _ a hb7 hbw7 S H
     refine wpList_nil (And.intro (Or.inr (S.sel [4,5,6,7] G G)) ?_)
     refine aK rfl ?_
     refine aC H S (i:=0) G G G G cA G G ?_
     clear H a S;intro _ a S H
     refine wpList_nil (And.intro (Or.inr (S.sel [4,5,6,7] G G)) ?_)
     refine aK rfl ?_
     refine aC H S (i:=2) G G G G cA G G ?_
     clear H a S;intro _ a S H
     refine wpList_nil (And.intro (Or.inr (S.sel [4,5,6,7] G G)) ?_)
     refine bF ?_
     exact k6 ((b7,b8),(_,_,_),_,_,_) a _ (trivial) (S.sel [0,2,4,5,6,7] G G) (H.keep [7,8,4,5] rfl)
    ·skip
     refine aI H rfl S cU ?_;clear H a S;intro b7 _ a hb7 hbw7 S H
     refine wpList_nil (And.intro (Or.inr (S.sel [3,4,5,6] G G)) ?_)
     refine aK rfl ?_
     refine aA H G G Try.func49 G G (cZ up empty pull drag motor br BA bcp sp slo shi sfail false _ (hb.now S) hbn hesc hstp) ?_;clear H a
     rintro _ _ a ⟨A8,n8,c8,f8,rfl,S2⟩ H
     replace S:=S.call S2;clear S2
     refine wpList_nil (And.intro (Or.inr (S.sel [4,5,6,7] G G)) ?_)
     refine aK rfl ?_
     refine aC H S (i:=1) G G G G cA G G ?_
     clear H a S;intro _ a S H
     refine wpList_nil (And.intro (Or.inr (S.sel [4,5,6,7] G G)) ?_)
     refine aK rfl ?_
     refine aC H S (i:=2) G G G G cA G G ?_
     clear H a S;intro _ a S H
     refine wpList_nil (And.intro (Or.inr (S.sel [4,5,6,7] G G)) ?_)
     refine bF ?_
     exact k6 ((b7,b8),(_,_,_),_,_,_) a _ (trivial) (S.sel [1,2,4,5,6,7] G G) (H.keep [7,8,4,5] rfl)
  ·skip
   refine aI H rfl S cU ?_;clear H a S;intro b7 _ a hb7 hbw7 S H
   refine wpList_nil (And.intro (Or.inr (S.sel [1,2,3,4] G G)) ?_)
   refine dB G G ?_ ?_
   ·skip
    refine aA H G G Try.func49 G G (cZ up empty pull drag motor br BA bcp sp slo shi sfail true _ (hb.now S) hbn hesc hstp) ?_;clear H a
    rintro _ _ a ⟨A7,n7,c7,f7,rfl,S2⟩ H
    replace S:=S.call S2;clear S2
    refine wpList_nil (And.intro (Or.inr (S.sel [2,3,4,5] G G)) ?_)
    refine dB G G ?_ ?_
    ·skip
     refine aA H G G Try.func49 G G (cZ up empty pull drag motor br BA bcp sp slo shi sfail false _ (hb.now S) hbn hesc hstp) ?_;clear H a
     rintro _ _ a ⟨A8,n8,c8,f8,rfl,S2⟩ H
     replace S:=S.call S2;clear S2
     refine wpList_nil (And.intro (Or.inr (S.sel [3,4,5,6] G G)) ?_)
     refine aK rfl ?_
     refine aI H rfl S cU ?_;clear H a S;intro b8 _ a hb8 hbw8 S H
     refine wpList_nil (And.intro (Or.inr (S.sel [4,5,6,7] G G)) ?_)
     refine aK rfl ?_
     refine aC H S (i:=3) G G G G cA G G ?_
     clear H a S;intro _ a S H
     refine wpList_nil (And.intro (Or.inr (S.sel [4,5,6,7] G G)) ?_)
     refine aK rfl ?_
     refine aC H S (i:=0) G G G G cA G G ?_
     clear H a S;intro _ a S H
     refine wpList_nil (And.intro (Or.inr (S.sel [4,5,6,7] G G)) ?_)
     refine bF ?_
     exact k6 ((b7,b8),(_,_,_),_,_,_) a _ (trivial) (S.sel [3,0,4,5,6,7] G G) (H.keep [7,8,4,5] rfl)
    ·skip
     refine aI H rfl S cU ?_;clear H a S;intro b8 _ a hb8 hbw8 S H
     refine wpList_nil (And.intro (Or.inr (S.sel [3,4,5,6] G G)) ?_)
     refine aK rfl ?_
     refine aA H G G Try.func49 G G (cZ up empty pull drag motor br BA bcp sp slo shi sfail false _ (hb.now S) hbn hesc hstp) ?_;clear H a
     rintro _ _ a ⟨A8,n8,c8,f8,rfl,S2⟩ H
     replace S:=S.call S2;clear S2
     refine wpList_nil (And.intro (Or.inr (S.sel [4,5,6,7] G G)) ?_)
     refine aK rfl ?_
     refine aC H S (i:=3) G G G G cA G G ?_
     clear H a S;intro _ a S H
     refine wpList_nil (And.intro (Or.inr (S.sel [4,5,6,7] G G)) ?_)
     refine aK rfl ?_
     refine aC H S (i:=1) G G G G cA G G ?_
     clear H a S;intro _ a S H
     refine wpList_nil (And.intro (Or.inr (S.sel [4,5,6,7] G G)) ?_)
     refine bF ?_
     exact k6 ((b7,b8),(_,_,_),_,_,_) a _ (trivial) (S.sel [3,1,4,5,6,7] G G) (H.keep [7,8,4,5] rfl)
   ·skip
    refine aI H rfl S cU ?_;clear H a S;intro b8 _ a hb8 hbw8 S H
    refine wpList_nil (And.intro (Or.inr (S.sel [2,3,4,5] G G)) ?_)
    refine aK rfl ?_
    refine aA H G G Try.func49 G G (cZ up empty pull drag motor br BA bcp sp slo shi sfail true _ (hb.now S) hbn hesc hstp) ?_;clear H a
    rintro _ _ a ⟨A7,n7,c7,f7,rfl,S2⟩ H
    replace S:=S.call S2;clear S2
    refine wpList_nil (And.intro (Or.inr (S.sel [3,4,5,6] G G)) ?_)
    refine aK rfl ?_
    refine aA H G G Try.func49 G G (cZ up empty pull drag motor br BA bcp sp slo shi sfail false _ (hb.now S) hbn hesc hstp) ?_;clear H a
    rintro _ _ a ⟨A8,n8,c8,f8,rfl,S2⟩ H
    replace S:=S.call S2;clear S2
    refine wpList_nil (And.intro (Or.inr (S.sel [4,5,6,7] G G)) ?_)
    refine aK rfl ?_
    refine aC H S (i:=3) G G G G cA G G ?_
    clear H a S;intro _ a S H
    refine wpList_nil (And.intro (Or.inr (S.sel [4,5,6,7] G G)) ?_)
    refine aK rfl ?_
    refine aC H S (i:=2) G G G G cA G G ?_
    clear H a S;intro _ a S H
    refine wpList_nil (And.intro (Or.inr (S.sel [4,5,6,7] G G)) ?_)
    refine bF ?_
    exact k6 ((b7,b8),(_,_,_),_,_,_) a _ (trivial) (S.sel [3,2,4,5,6,7] G G) (H.keep [7,8,4,5] rfl)
  ·skip
   refine aI H rfl S cU ?_;clear H a S;intro b8 _ a hb8 hbw8 S H
   refine wpList_nil (And.intro (Or.inr (S.sel [1,2,3,4] G G)) ?_)
   refine dB G G ?_ ?_
   ·skip
    refine aA H G G Try.func49 G G (cZ up empty pull drag motor br BA bcp sp slo shi sfail true _ (hb.now S) hbn hesc hstp) ?_;clear H a
    rintro _ _ a ⟨A7,n7,c7,f7,rfl,S2⟩ H
    replace S:=S.call S2;clear S2
    refine wpList_nil (And.intro (Or.inr (S.sel [2,3,4,5] G G)) ?_)
    refine dB G G ?_ ?_
    ·skip
     refine aA H G G Try.func49 G G (cZ up empty pull drag motor br BA bcp sp slo shi sfail false _ (hb.now S) hbn hesc hstp) ?_;clear H a
     rintro _ _ a ⟨A8,n8,c8,f8,rfl,S2⟩ H
     replace S:=S.call S2;clear S2
     refine wpList_nil (And.intro (Or.inr (S.sel [3,4,5,6] G G)) ?_)
     refine aK rfl ?_
     refine aI H rfl S cU ?_;clear H a S;intro b7 _ a hb7 hbw7 S H
     refine wpList_nil (And.intro (Or.inr (S.sel [4,5,6,7] G G)) ?_)
     refine aK rfl ?_
     refine aC H S (i:=0) G G G G cA G G ?_
     clear H a S;intro _ a S H
     refine wpList_nil (And.intro (Or.inr (S.sel [4,5,6,7] G G)) ?_)
     refine aK rfl ?_
     refine aC H S (i:=3) G G G G cA G G ?_
     clear H a S;intro _ a S H
     refine wpList_nil (And.intro (Or.inr (S.sel [4,5,6,7] G G)) ?_)
     refine bF ?_
     exact k6 ((b7,b8),(_,_,_),_,_,_) a _ (trivial) (S.sel [0,3,4,5,6,7] G G) (H.keep [7,8,4,5] rfl)
    ·skip
     refine aI H rfl S cU ?_;clear H a S;intro b7 _ a hb7 hbw7 S H
     refine wpList_nil (And.intro (Or.inr (S.sel [3,4,5,6] G G)) ?_)
     refine aK rfl ?_
     refine aA H G G Try.func49 G G (cZ up empty pull drag motor br BA bcp sp slo shi sfail false _ (hb.now S) hbn hesc hstp) ?_;clear H a
     rintro _ _ a ⟨A8,n8,c8,f8,rfl,S2⟩ H
     replace S:=S.call S2;clear S2
     refine wpList_nil (And.intro (Or.inr (S.sel [4,5,6,7] G G)) ?_)
     refine aK rfl ?_
     refine aC H S (i:=1) G G G G cA G G ?_
     clear H a S;intro _ a S H
     refine wpList_nil (And.intro (Or.inr (S.sel [4,5,6,7] G G)) ?_)
     refine aK rfl ?_
     refine aC H S (i:=3) G G G G cA G G ?_
     clear H a S;intro _ a S H
     refine wpList_nil (And.intro (Or.inr (S.sel [4,5,6,7] G G)) ?_)
     refine bF ?_
     exact k6 ((b7,b8),(_,_,_),_,_,_) a _ (trivial) (S.sel [1,3,4,5,6,7] G G) (H.keep [7,8,4,5] rfl)
   ·skip
    refine aI H rfl S cU ?_;clear H a S;intro b7 _ a hb7 hbw7 S H
    refine wpList_nil (And.intro (Or.inr (S.sel [2,3,4,5] G G)) ?_)
    refine aK rfl ?_
    refine aA H G G Try.func49 G G (cZ up empty pull drag motor br BA bcp sp slo shi sfail true _ (hb.now S) hbn hesc hstp) ?_;clear H a
    rintro _ _ a ⟨A7,n7,c7,f7,rfl,S2⟩ H
    replace S:=S.call S2;clear S2
    refine wpList_nil (And.intro (Or.inr (S.sel [3,4,5,6] G G)) ?_)
    refine aK rfl ?_
    refine aA H G G Try.func49 G G (cZ up empty pull drag motor br BA bcp sp slo shi sfail false _ (hb.now S) hbn hesc hstp) ?_;clear H a
    rintro _ _ a ⟨A8,n8,c8,f8,rfl,S2⟩ H
    replace S:=S.call S2;clear S2
    refine wpList_nil (And.intro (Or.inr (S.sel [4,5,6,7] G G)) ?_)
    refine aK rfl ?_
    refine aC H S (i:=2) G G G G cA G G ?_
    clear H a S;intro _ a S H
    refine wpList_nil (And.intro (Or.inr (S.sel [4,5,6,7] G G)) ?_)
    refine aK rfl ?_
    refine aC H S (i:=3) G G G G cA G G ?_
    clear H a S;intro _ a S H
    refine wpList_nil (And.intro (Or.inr (S.sel [4,5,6,7] G G)) ?_)
    refine bF ?_
    exact k6 ((b7,b8),(_,_,_),_,_,_) a _ (trivial) (S.sel [2,3,4,5,6,7] G G) (H.keep [7,8,4,5] rfl)
 clear SR H S a
 intro xm a wm hp S H
 obtain ⟨⟨b7,b8⟩,⟨A7,n7,c7⟩,A8,n8,c8⟩:=xm
 refine wp_seq_k fun K8 k8=>?_
 replace H:=H.keep [4,5,7,8] rfl
 refine sS H fun K9 k9=>sf jA rfl<|sl S 0 qZ G G G<|sr 1 rfl<|sE ?_;clear H a;intro a H
 refine k9 _ ?_;clear k9 K9
 refine cond_ H rfl (fun hc2=>?_) (fun hc2=>?_)
 ·skip
  try simp only [o1,o2,o3,o4,o5,o6,o7,o8,o9,oa] at hc2
  have hcf:=hc2
  replace S:=S.drew
  refine seq_wt 999999 (.b2 0 (.b2 1 (.e 2 (.e 3 (.p 4 .nil))) 2 (.e 1 (.e 3 (.p 4 .nil)))) 1 (.e 0 (.e 2 (.e 3 (.p 4 .nil))))) (by kernel_rfl) (by kernel_rfl) (S.sel [0,1,4,5] G G) fun K10 k10=>?_
  refine dB G G ?_ ?_
  ·skip
   refine ls 1 H<|sd ((aD bJ aY rfl S (i:=3) G G))<|sE ?_;clear H a;intro a H
   refine wpList_nil (And.intro (Or.inr (S.sel [0,1,4,5] G G)) ?_)
   refine dB G G ?_ ?_
   ·skip
    refine ls 1 H<|sd ((aD bJ aY rfl S (i:=2) G G))<|sE ?_;clear H a;intro a H
    refine wpList_nil (And.intro (Or.inr (S.sel [0,1,4,5] G G)) ?_)
    refine aK rfl ?_
    refine aC H S (i:=3) G G G G aY G G ?_
    clear H a S;intro _ a S H
    refine wpList_nil (And.intro (Or.inr (S.sel [0,1,4,5] G G)) ?_)
    refine aK rfl ?_
    refine aC H S (i:=2) G G G G aY G G ?_
    clear H a S;intro _ a S H
    refine wpList_nil (And.intro (Or.inr (S.sel [0,1,4,5] G G)) ?_)
    refine aN H G G (fun _=>bG rfl) ?_;clear H a;intro a H
    refine bF ?_
    refine k10 _ _ ?_
    clear k10 K10
    refine wp_ret ?_
    refine jX (fn:=Try.f23) rfl H G G bJ (by exact aY) (dL S (i:=3) rfl) bJ (by exact aY) (dL S (i:=2) rfl) rfl ?_
    first|(rw [gK hce];exact ⟨_,_,rfl,(S.sel [] G G)⟩)|(rw [fE hce (by simpa using hcf)];exact ⟨_,_,rfl,(S.sel [] G G)⟩)|(rw [iN hce (by simpa using hcf)];exact ⟨_,_,rfl,(S.sel [] G G)⟩)
   ·skip
    refine aC H S (i:=3) G G G G aY G G ?_
    clear H a S;intro _ a S H
    refine wpList_nil (And.intro (Or.inr (S.sel [0,1,4,5] G G)) ?_)
    refine aK rfl ?_
    refine ls 1 H<|sd ((aD bJ aY rfl S (i:=2) G G))<|sE ?_;clear H a;intro a H
    refine wpList_nil (And.intro (Or.inr (S.sel [0,1,4,5] G G)) ?_)
    refine aK rfl ?_
    refine aC H S (i:=2) G G G G aY G G ?_
    clear H a S;intro _ a S H
    refine wpList_nil (And.intro (Or.inr (S.sel [0,1,4,5] G G)) ?_)
    refine aN H G G (fun _=>bG rfl) ?_;clear H a;intro a H
    refine bF ?_
    refine k10 _ _ ?_
    clear k10 K10
    refine wp_ret ?_
    refine jX (fn:=Try.f23) rfl H G G bJ (by exact aY) (dL S (i:=3) rfl) bJ (by exact aY) (dL S (i:=2) rfl) rfl ?_
    first|(rw [gK hce];exact ⟨_,_,rfl,(S.sel [] G G)⟩)|(rw [fE hce (by simpa using hcf)];exact ⟨_,_,rfl,(S.sel [] G G)⟩)|(rw [iN hce (by simpa using hcf)];exact ⟨_,_,rfl,(S.sel [] G G)⟩)
  ·skip
   refine ls 1 H<|sd ((aD bJ aY rfl S (i:=2) G G))<|sE ?_;clear H a;intro a H
   refine wpList_nil (And.intro (Or.inr (S.sel [0,1,4,5] G G)) ?_)
   refine aK rfl ?_
   refine ls 1 H<|sd ((aD bJ aY rfl S (i:=3) G G))<|sE ?_;clear H a;intro a H
   refine wpList_nil (And.intro (Or.inr (S.sel [0,1,4,5] G G)) ?_)
   refine aK rfl ?_
   refine aC H S (i:=3) G G G G aY G G ?_
   clear H a S;intro _ a S H
   refine wpList_nil (And.intro (Or.inr (S.sel [0,1,4,5] G G)) ?_)
   refine aK rfl ?_
   refine aC H S (i:=2) G G G G aY G G ?_
   clear H a S;intro _ a S H
   refine wpList_nil (And.intro (Or.inr (S.sel [0,1,4,5] G G)) ?_)
   refine aN H G G (fun _=>bG rfl) ?_;clear H a;intro a H
   refine bF ?_
   refine k10 _ _ ?_
   clear k10 K10
   refine wp_ret ?_
   refine jX (fn:=Try.f23) rfl H G G bJ (by exact aY) (dL S (i:=3) rfl) bJ (by exact aY) (dL S (i:=2) rfl) rfl ?_
   first|(rw [gK hce];exact ⟨_,_,rfl,(S.sel [] G G)⟩)|(rw [fE hce (by simpa using hcf)];exact ⟨_,_,rfl,(S.sel [] G G)⟩)|(rw [iN hce (by simpa using hcf)];exact ⟨_,_,rfl,(S.sel [] G G)⟩)
 try simp only [o1,o2,o3,o4,o5,o6,o7,o8,o9,oa] at hc2
 have hcf:=hc2
 refine wp_skip ?_
 refine k8 _ _ ?_
 replace H:=H.keep [4,5,7,8] rfl
 replace S:=S.drew
 refine seq_wt 999999 (.q 0 (.q 1 (.q 2 (.q 3 (.q 4 (.q 5 (.q 6 (.q 7 (.q 8 (.q 9 (.q 10 (.q 11 (.e 12 (.e 13 (.q 14 .nil))))))))))))))) (by kernel_rfl) (by kernel_rfl) (S.sel [0,1,4,5] G G) fun K11 k11=>?_
 refine aL H G G (fun _ S=>(aB fN rfl)) ?_;clear H a;intro a H
 refine aL H G G (fun _ S=>aF aE rfl (boxM.rd S (i:=1) G G)) ?_;clear H a;intro a H
 refine aL H G G (fun _ S=>(aB fN rfl)) ?_;clear H a;intro a H
 refine aL H G G (fun _ S=>aF aE rfl (boxM.rd S (i:=0) G G)) ?_;clear H a;intro a H
 refine aL H G G (fun _ S=>aO fV G G) ?_;clear H a;intro a H
 refine aL H G G (fun _ S=>(aB iA rfl)) ?_;clear H a;intro a H
 refine aL H G G (fun _ S=>aF aW rfl (boxM.rd S (i:=1) G G)) ?_;clear H a;intro a H
 refine aL H G G (fun _ S=>dF aM rfl) ?_;clear H a;intro a H
 refine aL H G G (fun _ S=>(aB iA rfl)) ?_;clear H a;intro a H
 refine aL H G G (fun _ S=>aF aW rfl (boxM.rd S (i:=0) G G)) ?_;clear H a;intro a H
 refine aL H G G (fun _ S=>dF aM rfl) ?_;clear H a;intro a H
 refine aL H G G (fun _ S=>aO fV G G) ?_;clear H a;intro a H
 refine aK rfl ?_
 refine aC H S (i:=3) G G G G aY G G ?_
 clear H a S;intro _ a S H
 refine wpList_nil (And.intro (Or.inr (S.sel [0,1,4,5] G G)) ?_)
 refine aK rfl ?_
 refine aC H S (i:=2) G G G G aY G G ?_
 clear H a S;intro _ a S H
 refine wpList_nil (And.intro (Or.inr (S.sel [0,1,4,5] G G)) ?_)
 refine aL H G G (fun _ S=>bG rfl) ?_;clear H a;intro a H
 refine bF ?_
 refine k11 _ _ ?_
 clear k11 K11
 refine wp_ret ?_
 refine jX (fn:=Try.f23) rfl H G G bJ (by exact aY) (dL S (i:=3) rfl) bJ (by exact aY) (dL S (i:=2) rfl) rfl ?_
 first|(rw [gK hce];exact ⟨_,_,rfl,(S.sel [] G G)⟩)|(rw [fE hce (by simpa using hcf)];exact ⟨_,_,rfl,(S.sel [] G G)⟩)|(rw [iN hce (by simpa using hcf)];exact ⟨_,_,rfl,(S.sel [] G G)⟩)
end
end Go.Proofs.Ytoekeohiokcefaa
