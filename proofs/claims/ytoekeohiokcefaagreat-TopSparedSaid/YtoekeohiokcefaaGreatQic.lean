/- Part 3 of the proof. -/
import Derived.Test.YtoekeohiokcefaaGreatQib
namespace Go.Proofs.YtoekeohiokcefaaGreat
open Go.RowKit
set_option linter.unusedVariables false
set_option linter.unusedSimpArgs false
set_option maxRecDepth 100000
set_option maxHeartbeats 4000000
section
theorem rI (rates:List (Int×Int)) (pwn ptn pag:Int) (RA:Option Addr) (rcp:Nat) (l:List Use) (A:Option Addr) (cp:Nat) (w:World) (hr:InS w noF 2 RA rates.length (scell rates)) (hrn:rates.length≤9223372036854775807) (hl:InS w noF 6 A l.length (ucell l)) (hn:l.length≤9223372036854775807) (hok:PartOk (⟨rates,pwn,ptn,pag⟩:Part) l) :
    Calls Tryz.prog 127 [.agg [.slice RA rates.length rcp,.int .i64 pwn,.int .i64 ptn,.int .i64 pag].toArray,.slice A l.length cp].toArray w (Ret (fun v w'=>∃ n A' c',IsAt (⟨rates,pwn,ptn,pag⟩:Part) l n∧v = .tuple #[.slice A' n c',.int .i64 (n:Int)]∧St w noF [ownM 58 2 A' n c' (fcell (fun q=>fwd (⟨rates,pwn,ptn,pag⟩:Part) l (q+1)))] w')):=by
 refine enter Tryz.func127 rfl Tryz.ntmps127 rfl (fun a H=>?_)
 have S:=St.start w
 refine seq_list fun K1 k1=>?_
 refine aO H rfl S G G ?_;clear H a S;intro b2 _ a hb2 hbw2 S H
 refine ls 2 H<|sr 2 rfl<|sE ?_;clear H a;intro a H
 refine k1 _ _ ?_;clear k1 K1
 refine seq_list fun K2 k2=>?_
 refine aI H rfl S cC ?_;clear H a S;intro b6 _ a hb6 hbw6 S H
 refine k2 _ _ ?_;clear k2 K2
 refine wp_seq_k fun K3 k3=>?_
 refine sS H fun K4 k4=>sr 1 rfl<|sL dJ rfl<|sr 1 rfl<|sE ?_;clear H a;intro a H
 refine k4 _ ?_;clear k4 K4
 refine wp_block ?_
 replace S:=S.newNil 58 2 (fcell (fun q=>fwd (⟨rates,pwn,ptn,pag⟩:Part) l (q+1)))
 refine loop_st (X:=Nat×Option Addr×Nat) (R0:=_) [1,2,6,11,12] H rfl (fun ⟨k,A',c'⟩=>[(4,.slice A' k c'),(13,.int .i64 (k:Int))]) (fun ⟨k,A',c'⟩=>[boxM b6 58 [.int .i64 (fwd (⟨rates,pwn,ptn,pag⟩:Part) l k).1,.int .i64 (fwd (⟨rates,pwn,ptn,pag⟩:Part) l k).2],ownM 58 2 A' k c' (fcell (fun q=>fwd (⟨rates,pwn,ptn,pag⟩:Part) l (q+1)))]) (fun g ⟨k,A',c'⟩=>k≤l.length∧g+k=l.length∧∀ q,q<k→fits (⟨rates,pwn,ptn,pag⟩:Part) l q) (l.length) (0,none,0) ?_ (S.sel [1,0,2] G G) (H.keep [4,13,1,2,6,11,12] rfl) ?_
 · exact ⟨by omega,by omega,fun q hq=>by omega⟩
 clear H S a
 intro g1 x1 a w1 hp S H K5 k5
 obtain ⟨k,A',c'⟩:=x1
 dsimp only at hp S H
 refine sS H fun K6 k6=>sr 1 rfl<|sE ?_;clear H a;intro a H
 refine k6 _ ?_;clear k6 K6
 refine wp_seq_k fun K7 k7=>?_
 refine condL H rfl (fun hc1=>?_) (fun hc1=>?_)
 ·skip
  refine wp_skip ?_
  refine k7 _ _ ?_
  refine wp_seq_k fun K8 k8=>?_
  refine wp_block ?_
  have hu:=hok.use (k:=k) (by omega);unfold useOk at hu;simp only [decide_eq_true_eq] at hu
  have hgb:=mF hok (k:=k) (by omega)
  have hcls:0≤(l.getD k Use.zero).cls∧(l.getD k Use.zero).cls<rates.length:=by
    have:((⟨rates,pwn,ptn,pag⟩:Part).rates.length:Int)=rates.length:=rfl
    omega
  have hll:=hok.len
  have hfb:=yK hok k (by omega)
  refine seq_list fun K9 k9=>?_
  refine ls 3 H<|sr 1 rfl<|si dJ cY G G (hl.adr (by omega)) (by omega)<|sd ((aW jW cY rfl S hl (by omega) (by omega)))<|sE ?_;clear H a;intro a H
  refine aI H rfl S kI ?_;clear H a S;intro b8 _ a hb8 hbw8 S H
  refine ls 1 H<|sr 1 rfl<|sE ?_;clear H a;intro a H
  refine aF H S (i:=0) G G G G cY G G ?_
  clear H a S;intro _ a S H
  refine k9 _ _ ?_;clear k9 K9
  replace H:=H.keep [1,2,4,6,7,8,11,12,13] rfl
  refine seq_list fun K10 k10=>?_
  refine ls 2 H<|sd ((aC fB hZ rfl S (i:=3) G G))<|sd ((aC jW cY rfl S (i:=0) G G))<|sE ?_;clear H a;intro a H
  refine aA H G G Tryz.func128 G G (gI rates pwn ptn pag RA rcp (l.getD k Use.zero) _ (hr.now S) hrn hcls (by unfold i64ok;omega) (by unfold i64ok;omega)) ?_;clear H a
  rintro _ _ a ⟨rfl,S2⟩ H
  replace S:=S.call S2;clear S2
  refine aI H rfl S cC ?_;clear H a S;intro b9 _ a hb9 hbw9 S H
  refine aF H S (i:=0) G G G G aQ G G ?_
  clear H a S;intro _ a S H
  refine k10 _ _ ?_;clear k10 K10
  replace H:=H.keep [1,2,4,6,7,8,9,11,12,13] rfl
  refine seq_list fun K11 k11=>?_
  refine ls 11 H<|sf bH rfl<|sl S 2 aD G G G<|sf bH rfl<|sl S 0 aD G G G<|sd (aK G G (by unfold i64ok;omega))<|sf bG rfl<|sl S 2 aD G G G<|sf bG rfl<|sl S 0 aD G G G<|sd (aK G G (by unfold i64ok;omega))<|sd (aN dV G G)<|sE ?_;clear H a;intro a H
  refine aF H S (i:=2) G G G G aQ G G ?_
  clear H a S;intro _ a S H
  refine k11 _ _ ?_;clear k11 K11
  refine wp_seq_k fun K12 k12=>?_
  replace H:=H.keep [1,2,4,6,7,8,11,12,13] rfl
  refine sS H fun K13 k13=>sf lZ rfl<|sl S 1 iY G G G<|sE ?_;clear H a;intro a H
  refine k13 _ ?_;clear k13 K13
  refine cond_ H rfl (fun hc2=>?_) (fun hc2=>?_)
  ·skip
   try simp only [o1,o2,o3,o4,o5,o6,o7,o8,o9,oa] at hc2
   refine sS H fun K14 k14=>sr 1 rfl<|sE ?_;clear H a;intro a H
   refine k14 _ ?_;clear k14 K14
   replace H:=H.keep [1,2,4,6,7,8,11,12,13] rfl
   refine seq_list fun K15 k15=>?_
   refine ls 3 H<|sd ((aC bD aQ rfl S (i:=2) G G))<|sf eS rfl<|sd ((aC bD aQ rfl S (i:=1) G G))<|sE ?_;clear H a;intro a H
   refine aA H G G Tryz.func129 G G (gE _ _ _ _ _) ?_;clear H a
   rintro _ _ a ⟨rfl,S2⟩ H
   replace S:=S.call S2;clear S2
   refine ls 3 H<|sr 3 rfl<|sE ?_;clear H a;intro a H
   refine aF H S (i:=2) G G G G aQ G G ?_
   clear H a S;intro _ a S H
   refine ls 1 H<|sr 1 rfl<|sE ?_;clear H a;intro a H
   refine k15 _ _ ?_;clear k15 K15
   replace H:=H.keep [1,2,4,6,7,10,11,12,13] rfl
   refine sS H fun K16 k16=>sr 2 rfl<|sE ?_;clear H a;intro a H
   refine k16 _ ?_;clear k16 K16
   refine cond_ H rfl (fun hc3=>?_) (fun hc3=>?_)
   ·skip
    try simp only [o1,o2,o3,o4,o5,o6,o7,o8,o9,oa] at hc3
    refine sS H fun K17 k17=>sr 4 rfl<|sE ?_;clear H a;intro a H
    refine k17 _ ?_;clear k17 K17
    refine wp_ret ?_
    refine ret2 (fn:=Tryz.f127) rfl H G G ?_
    refine ⟨k,A',c',⟨by omega,hp.2.2,fun _ hf=>?_⟩,rfl,(S.sel [3] G G)⟩
    have h9:=hf hc2
    rw [uK hc2] at h9
    exact absurd h9 (Int.not_le.2 hc3)
   try simp only [o1,o2,o3,o4,o5,o6,o7,o8,o9,oa] at hc3
   refine wp_skip ?_
   refine k12 _ _ ?_
   have e9:=(by first|exact uK (p:=(⟨rates,pwn,ptn,pag⟩:Part)) hc2|exact Fw (p:=(⟨rates,pwn,ptn,pag⟩:Part)) hc2:fwd (⟨rates,pwn,ptn,pag⟩:Part) l (k+1)=_)
   replace H:=H.keep [1,2,4,6,11,12,13] rfl
   refine one_list ?_
   refine ls 2 H<|sr 1 rfl<|sd ((aC bD aQ rfl S (i:=2) G G))<|sE ?_;clear H a;intro a H
   refine aZ H rfl S dM aQ cC G G G G G G G G G ?_;clear H a S;intro A1 _ a hA1 S H
   refine bW H rfl S dM aQ cC Lx G G (i:=4) G G G (ownM.inS S (i:=0) rfl) (jS (two G G)) (by omega) (by omega) ?_;clear H a S;intro A2 c2 _ a S H
   replace S:=S.recell (i:=4) rfl (cell':=fcell (fun q=>fwd (⟨rates,pwn,ptn,pag⟩:Part) l (q+1))) (uL (two (by show _=Value.int .i64 (fwd (⟨rates,pwn,ptn,pag⟩:Part) l (k+1)).1;rw [e9];rfl) (by show _=Value.int .i64 (fwd (⟨rates,pwn,ptn,pag⟩:Part) l (k+1)).2;rw [e9];rfl)))
   refine ls 1 H<|sr 1 rfl<|sE ?_;clear H a;intro a H
   refine k8 _ _ ?_
   refine sO H<|sd (aK G G (by unfold i64ok;omega))<|sr 1 rfl<|sE ?_;clear H a;intro a H
   replace S:=boxM.same S (i:=3) (cs':=[.int .i64 (fwd (⟨rates,pwn,ptn,pag⟩:Part) l (k+1)).1,.int .i64 (fwd (⟨rates,pwn,ptn,pag⟩:Part) l (k+1)).2]) rfl (by rw [e9];rfl)
   exact k5 (g1-1) (k+1,_,_) a _ (by omega) (⟨by omega,by omega,fun q hq=>by
     by_cases h:q=k
     · subst h;first|exact Az hc2|(intro _;rw [e9];exact hc3)
     · exact hp.2.2 q (by omega)⟩) (S.sel [3,4,5] G G) (H.keep [4,13,1,2,6,11,12] rfl)
  try simp only [o1,o2,o3,o4,o5,o6,o7,o8,o9,oa] at hc2
  refine wp_skip ?_
  refine k12 _ _ ?_
  have e9:=(by first|exact uK (p:=(⟨rates,pwn,ptn,pag⟩:Part)) hc2|exact Fw (p:=(⟨rates,pwn,ptn,pag⟩:Part)) hc2:fwd (⟨rates,pwn,ptn,pag⟩:Part) l (k+1)=_)
  replace H:=H.keep [1,2,4,6,11,12,13] rfl
  refine one_list ?_
  refine ls 2 H<|sr 1 rfl<|sd ((aC bD aQ rfl S (i:=2) G G))<|sE ?_;clear H a;intro a H
  refine aZ H rfl S dM aQ cC G G G G G G G G G ?_;clear H a S;intro A3 _ a hA3 S H
  refine bW H rfl S dM aQ cC Lx G G (i:=4) G G G (ownM.inS S (i:=0) rfl) (jS (two G G)) (by omega) (by omega) ?_;clear H a S;intro A4 c4 _ a S H
  replace S:=S.recell (i:=4) rfl (cell':=fcell (fun q=>fwd (⟨rates,pwn,ptn,pag⟩:Part) l (q+1))) (uL (two (by show _=Value.int .i64 (fwd (⟨rates,pwn,ptn,pag⟩:Part) l (k+1)).1;rw [e9];rfl) (by show _=Value.int .i64 (fwd (⟨rates,pwn,ptn,pag⟩:Part) l (k+1)).2;rw [e9];rfl)))
  refine ls 1 H<|sr 1 rfl<|sE ?_;clear H a;intro a H
  refine k8 _ _ ?_
  refine sO H<|sd (aK G G (by unfold i64ok;omega))<|sr 1 rfl<|sE ?_;clear H a;intro a H
  replace S:=boxM.same S (i:=3) (cs':=[.int .i64 (fwd (⟨rates,pwn,ptn,pag⟩:Part) l (k+1)).1,.int .i64 (fwd (⟨rates,pwn,ptn,pag⟩:Part) l (k+1)).2]) rfl (by rw [e9];rfl)
  exact k5 (g1-1) (k+1,_,_) a _ (by omega) (⟨by omega,by omega,fun q hq=>by
    by_cases h:q=k
    · subst h;first|exact Az hc2|(intro _;rw [e9];exact hc3)
    · exact hp.2.2 q (by omega)⟩) (S.sel [3,4,5] G G) (H.keep [4,13,1,2,6,11,12] rfl)
 refine wp_exit ?_
 refine k3 _ _ ?_
 replace H:=H.keep [1,4] rfl
 refine sS H fun K22 k22=>sr 2 rfl<|sL dJ rfl<|sr 2 rfl<|sE ?_;clear H a;intro a H
 refine k22 _ ?_;clear k22 K22
 refine wp_ret ?_
 refine ret2 (fn:=Tryz.f127) rfl H G G ?_
 have hk9:k=l.length:=by omega
 subst hk9
 exact ⟨_,A',c',⟨Nat.le_refl _,hp.2.2,fun h=>absurd h (Nat.lt_irrefl _)⟩,rfl,(S.sel [1] G G)⟩
end
section
def Worn (w:World) (p:Part) (l:List Use) (v:Value) (w':World):Prop:=
  (IsAt p l l.length∧∃ A' c',v = .tuple #[.slice A' l.length c',.bool true]∧St w noF [ownM 58 2 A' l.length c' (fcell (cE p l))] w')∨(¬ IsAt p l l.length∧v = .tuple #[.slice none 0 0,.bool false]∧St w noF [] w')
theorem uN (rates:List (Int×Int)) (pwn ptn pag:Int) (RA:Option Addr) (rcp:Nat) (l:List Use) (A:Option Addr) (cp:Nat) (w:World) (hr:InS w noF 2 RA rates.length (scell rates)) (hrn:rates.length≤9223372036854775807) (hl:InS w noF 6 A l.length (ucell l)) (hn:l.length≤9223372036854775807) (hok:PartOk (⟨rates,pwn,ptn,pag⟩:Part) l) :
    Calls Tryz.prog 121 [.agg [.slice RA rates.length rcp,.int .i64 pwn,.int .i64 ptn,.int .i64 pag].toArray,.slice A l.length cp].toArray w (Ret (Worn w (⟨rates,pwn,ptn,pag⟩:Part) l)):=by
 refine enter Tryz.func121 rfl Tryz.ntmps121 rfl (fun a H=>?_)
 have S:=St.start w
 refine seq_list fun K1 k1=>?_
 refine aO H rfl S G G ?_;clear H a S;intro b2 _ a hb2 hbw2 S H
 refine ls 2 H<|sr 2 rfl<|sE ?_;clear H a;intro a H
 refine k1 _ _ ?_;clear k1 K1
 by_cases hA:IsAt (⟨rates,pwn,ptn,pag⟩:Part) l l.length
 ·skip
  replace H:=H.keep [1,2] rfl
  refine seq_list fun K2 k2=>?_
  refine ls 2 H<|sd ((aC fB hZ rfl S (i:=0) G G))<|sr 1 rfl<|sE ?_;clear H a;intro a H
  refine aA H G G Tryz.func127 G G (eD (rI rates pwn ptn pag RA rcp l A cp _ (hr.now S) hrn (hl.now S) hn hok) (fun _ _ ⟨n,A',c',h1,h2,h3⟩=>(⟨A',c',by rw [h1.same hA] at h2;exact h2,by rw [h1.same hA] at h3;exact h3⟩:∃ A' c',_∧_))) ?_;clear H a
  rintro _ _ a ⟨A',c',rfl,S2⟩ H
  replace S:=S.call S2;clear S2
  refine ls 5 H<|sr 5 rfl<|sE ?_;clear H a;intro a H
  refine k2 _ _ ?_;clear k2 K2
  refine wp_seq_k fun K3 k3=>?_
  try have hnl:=hn1.le
  replace H:=H.keep [1,2,6,7] rfl
  refine sS H fun K4 k4=>sr 2 rfl<|sL dJ rfl<|sr 1 rfl<|sE ?_;clear H a;intro a H
  refine k4 _ ?_;clear k4 K4
  refine condL H rfl (fun hc1=>?_) (fun hc1=>?_)
  ·skip
   all_goals (exfalso;omega)
  refine wp_skip ?_
  refine k3 _ _ ?_
  refine wp_seq_k fun K5 k5=>?_
  refine sS H fun K6 k6=>sr 1 rfl<|sL dJ rfl<|sd (aU G G (by unfold i64ok;omega))<|sr 1 rfl<|sE ?_;clear H a;intro a H
  refine k6 _ ?_;clear k6 K6
  refine wp_block ?_
  have hll:=hok.len
  replace S:=S.recell (i:=0) rfl (cell':=fcell (fun q=>if (l.length:Int)-2<((q:Nat):Int) then cE (⟨rates,pwn,ptn,pag⟩:Part) l q else fwd (⟨rates,pwn,ptn,pag⟩:Part) l (q+1))) (fun q j hq hj=>by
    unfold fcell;congr 1;(try dsimp only);by_cases h1:(l.length:Int)-2<((q:Nat):Int)
    · rw [if_pos h1,Ba (show q+1=l.length by omega),show q+1=l.length by omega]
    · rw [if_neg h1])
  refine loop_st (X:=Int) (R0:=_) [1,2,6] H rfl (fun i=>[(8,.int .i64 i)]) (fun i=>[ownM 58 2 A' l.length c' (fcell (fun q=>if i<((q:Nat):Int) then cE (⟨rates,pwn,ptn,pag⟩:Part) l q else fwd (⟨rates,pwn,ptn,pag⟩:Part) l (q+1)))]) (fun g i => -2≤i∧i≤(l.length:Int)-2∧g=(i+2).toNat) (l.length) ((l.length:Int)-2) ?_ (S.sel [0,1] G G) (H.keep [8,1,2,6] rfl) ?_
  · exact ⟨by omega,by omega,by omega⟩
  clear H S a
  intro g1 x1 a w1 hp S H K7 k7
  obtain ⟨i,rfl⟩:∃ y,y=x1:=⟨_,rfl⟩
  refine wp_seq_k fun K8 k8=>?_
  refine sS H fun K9 k9=>sr 2 rfl<|sE ?_;clear H a;intro a H
  refine k9 _ ?_;clear k9 K9
  refine condG H rfl (fun hc2=>?_) (fun hc2=>?_)
  ·skip
   refine wp_skip ?_
   refine k8 _ _ ?_
   refine wp_seq_k fun K10 k10=>?_
   refine wp_block ?_
   have hu:=hok.use (k:=(i+1).toNat) (by omega);unfold useOk at hu;simp only [decide_eq_true_eq] at hu
   have hgb:=mF hok (k:=(i+1).toNat) (by omega)
   have hcls:0≤(l.getD (i+1).toNat Use.zero).cls∧(l.getD (i+1).toNat Use.zero).cls<rates.length:=by
     have:((⟨rates,pwn,ptn,pag⟩:Part).rates.length:Int)=rates.length:=rfl
     omega
   have hll:=hok.len
   replace H:=H.keep [1,2,6,8] rfl
   replace S:=S.drew
   refine seq_wt 999999 (.q 0 (.q 1 (.q 2 (.q 3 (.q 4 (.q 5 (.q 7 (.q 8 (.q 9 (.q 10 (.q 11 (.b3 6 (.b2 12 (.e 13 (.e 14 (.e 15 .nil))) 13 (.e 12 (.e 14 (.e 15 .nil)))) 12 (.b2 6 (.e 13 (.e 14 (.e 15 .nil))) 13 (.e 6 (.e 14 (.e 15 .nil)))) 13 (.b2 6 (.e 12 (.e 14 (.e 15 .nil))) 12 (.e 6 (.e 14 (.e 15 .nil)))))))))))))))) (by kernel_rfl) (by kernel_rfl) (S.sel [0,1] G G) fun K11 k11=>?_
   refine aH H G G (fun _ S=>(aC fB hZ rfl S (i:=1) G G)) ?_;clear H a;intro a H
   refine aH H G G (fun _ S=>aL rfl) ?_;clear H a;intro a H
   refine aH H G G (fun _ S=>aL rfl) ?_;clear H a;intro a H
   refine aH H G G (fun _ S=>aK G G (by unfold i64ok;omega)) ?_;clear H a;intro a H
   refine aH H G G (fun _ S=>bY dJ cY G G (hl.adr (by omega)) (by omega) (by omega)) ?_;clear H a;intro a H
   refine aH H G G (fun _ S=>(aW jW cY rfl S hl (by omega) (by omega))) ?_;clear H a;intro a H
   refine aH H G G (fun _ S=>aL rfl) ?_;clear H a;intro a H
   refine aH H G G (fun _ S=>aL rfl) ?_;clear H a;intro a H
   refine aH H G G (fun _ S=>aK G G (by unfold i64ok;omega)) ?_;clear H a;intro a H
   refine aH H G G (fun _ S=>bY dM aQ G G (ownM.adr S (i:=0) rfl (by omega)) (by omega) (by omega)) ?_;clear H a;intro a H
   refine aH H G G (fun _ S=>dF (vs:=[.int .i64 (cE (⟨rates,pwn,ptn,pag⟩:Part) l (i+1).toNat).1,.int .i64 (cE (⟨rates,pwn,ptn,pag⟩:Part) l (i+1).toNat).2]) bD aQ rfl (lG S (i:=0) rfl (by omega) (if_pos (by omega)))) ?_;clear H a;intro a H
   refine vT G G G ?_ ?_ ?_
   ·skip
    refine aA H G G Tryz.func128 G G (gI rates pwn ptn pag RA rcp (l.getD (i+1).toNat Use.zero) _ (hr.now S) hrn hcls (by unfold i64ok;omega) (by unfold i64ok;omega)) ?_;clear H a
    rintro _ _ a ⟨rfl,S2⟩ H
    replace S:=S.call S2;clear S2
    refine wpList_nil (And.intro (Or.inr (S.sel [0,1] G G)) ?_)
    refine eA G G ?_ ?_
    ·skip
     refine aI H rfl S cC ?_;clear H a S;intro b9 _ a hb9 hbw9 S H
     refine wpList_nil (And.intro (Or.inr (S.sel [1,2] G G)) ?_)
     refine aM rfl ?_
     refine aI H rfl S cC ?_;clear H a S;intro b10 _ a hb10 hbw10 S H
     refine wpList_nil (And.intro (Or.inr (S.sel [2,3] G G)) ?_)
     refine aM rfl ?_
     refine aF H S (i:=1) G G G G aQ G G ?_
     clear H a S;intro _ a S H
     refine wpList_nil (And.intro (Or.inr (S.sel [2,3] G G)) ?_)
     refine aM rfl ?_
     refine aF H S (i:=0) G G G G aQ G G ?_
     clear H a S;intro _ a S H
     refine wpList_nil (And.intro (Or.inr (S.sel [2,3] G G)) ?_)
     refine bE ?_
     refine k11 _ _ ?_
     clear k11 K11
     have hbw:=jI hok (k:=(i+1).toNat) (by omega)
     replace H:=H.keep [1,2,6,8,9,10] rfl
     replace S:=S.drew
     refine one_wt 22 (.q 0 (.q 1 (.q 2 (.q 3 (.q 4 (.q 5 (.q 6 (.q 7 (.q 8 (.q 9 (.q 10 (.q 11 (.q 12 (.q 13 (.q 14 (.q 15 (.q 16 (.e 17 (.q 18 (.q 19 (.p 20 (.q 21 (.e 22 .nil))))))))))))))))))))))) (by kernel_rfl) (by kernel_rfl) (S.sel [0,1,2,3] G G) ?_
     refine aH H G G (fun _ S=>aL rfl) ?_;clear H a;intro a H
     refine aH H G G (fun _ S=>aL rfl) ?_;clear H a;intro a H
     refine aH H G G (fun _ S=>aL rfl) ?_;clear H a;intro a H
     refine aH H G G (fun _ S=>aL rfl) ?_;clear H a;intro a H
     refine aH H G G (fun _ S=>bY dM aQ G G (ownM.adr S (i:=2) rfl (by omega)) (by omega) (by omega)) ?_;clear H a;intro a H
     refine aH H G G (fun _ S=>dF (vs:=[.int .i64 (fwd (⟨rates,pwn,ptn,pag⟩:Part) l (i.toNat+1)).1,.int .i64 (fwd (⟨rates,pwn,ptn,pag⟩:Part) l (i.toNat+1)).2]) bD aQ rfl (lG S (i:=2) rfl (by omega) (if_neg (by omega)))) ?_;clear H a;intro a H
     refine aH H G G (fun _ S=>(aB bH rfl)) ?_;clear H a;intro a H
     refine aH H G G (fun _ S=>aE aD rfl (boxM.rd S (i:=0) G G)) ?_;clear H a;intro a H
     refine aH H G G (fun _ S=>(aB bG rfl)) ?_;clear H a;intro a H
     refine aH H G G (fun _ S=>aE aD rfl (boxM.rd S (i:=1) G G)) ?_;clear H a;intro a H
     refine aH H G G (fun _ S=>aU G G (by unfold i64ok;omega)) ?_;clear H a;intro a H
     refine aH H G G (fun _ S=>(aB bG rfl)) ?_;clear H a;intro a H
     refine aH H G G (fun _ S=>aE aD rfl (boxM.rd S (i:=0) G G)) ?_;clear H a;intro a H
     refine aH H G G (fun _ S=>(aB bH rfl)) ?_;clear H a;intro a H
     refine aH H G G (fun _ S=>aE aD rfl (boxM.rd S (i:=1) G G)) ?_;clear H a;intro a H
     refine aH H G G (fun _ S=>aU G G (by unfold i64ok;omega)) ?_;clear H a;intro a H
     refine aH H G G (fun _ S=>aN dV G G) ?_;clear H a;intro a H
     refine aM rfl ?_
     refine aA H G G Tryz.func129 G G (gE (fwd (⟨rates,pwn,ptn,pag⟩:Part) l (i.toNat+1)).1 (fwd (⟨rates,pwn,ptn,pag⟩:Part) l (i.toNat+1)).2 _ _ _) ?_;clear H a
     rintro _ _ a ⟨rfl,S2⟩ H
     replace S:=S.call S2;clear S2
     refine wpList_nil (And.intro (Or.inr (S.sel [0,1,2,3] G G)) ?_)
     refine aH H G G (fun _ S=>aL rfl) ?_;clear H a;intro a H
     refine aH H G G (fun _ S=>aP G G) ?_;clear H a;intro a H
     refine aV H G G (fun _=>aP G G) ?_;clear H a;intro a H
     refine aH H G G (fun _ S=>bY dM aQ G G (ownM.adr S (i:=2) rfl (by omega)) (by omega) (by omega)) ?_;clear H a;intro a H
     refine aM rfl ?_
     refine dY H S (i:=2) (kk:=i.toNat) G G G (by omega) aQ ?_
     clear H a S;intro _ a S H
     have e9:=gH (p:=(⟨rates,pwn,ptn,pag⟩:Part)) (l:=l) (k:=i.toNat) (by omega)
     have e8:i.toNat+1=(i+1).toNat:=by omega
     rw [e8] at e9
     replace S:=S.recell (i:=2) rfl (cell':=fcell (fun q=>if i-1<((q:Nat):Int) then cE (⟨rates,pwn,ptn,pag⟩:Part) l q else fwd (⟨rates,pwn,ptn,pag⟩:Part) l (q+1))) (fun q j hq hj=>by
       unfold fcell;congr 1;(try dsimp only);by_cases h1:q=i.toNat
       · subst h1;rw [if_pos rfl,if_pos (by omega),e9,e8]
       · rw [if_neg h1];by_cases h2:i<(q:Int)
         · rw [if_pos h2,if_pos (by omega)]
         · rw [if_neg h2,if_neg (by omega)])
     refine wpList_nil (And.intro (Or.inl rfl) ?_)
     refine bE ?_
     refine k10 _ _ ?_
     replace H:=H.keep [1,2,6,8] rfl
     refine sO H<|sr 1 rfl<|sd (aU G G (by unfold i64ok;omega))<|sr 1 rfl<|sE ?_;clear H a;intro a H
     exact k7 (g1-1) (i-1) a _ (by omega) (⟨by omega,by omega,by omega⟩) (S.sel [2,3] G G) (H.keep [8,1,2,6] rfl)
    ·skip
     refine aI H rfl S cC ?_;clear H a S;intro b10 _ a hb10 hbw10 S H
     refine wpList_nil (And.intro (Or.inr (S.sel [1,2] G G)) ?_)
     refine aM rfl ?_
     refine aI H rfl S cC ?_;clear H a S;intro b9 _ a hb9 hbw9 S H
     refine wpList_nil (And.intro (Or.inr (S.sel [2,3] G G)) ?_)
     refine aM rfl ?_
     refine aF H S (i:=0) G G G G aQ G G ?_
     clear H a S;intro _ a S H
     refine wpList_nil (And.intro (Or.inr (S.sel [2,3] G G)) ?_)
     refine aM rfl ?_
     refine aF H S (i:=1) G G G G aQ G G ?_
     clear H a S;intro _ a S H
     refine wpList_nil (And.intro (Or.inr (S.sel [2,3] G G)) ?_)
     refine bE ?_
     refine k11 _ _ ?_
     clear k11 K11
     have hbw:=jI hok (k:=(i+1).toNat) (by omega)
     replace H:=H.keep [1,2,6,8,9,10] rfl
     replace S:=S.drew
     refine one_wt 22 (.q 0 (.q 1 (.q 2 (.q 3 (.q 4 (.q 5 (.q 6 (.q 7 (.q 8 (.q 9 (.q 10 (.q 11 (.q 12 (.q 13 (.q 14 (.q 15 (.q 16 (.e 17 (.q 18 (.q 19 (.p 20 (.q 21 (.e 22 .nil))))))))))))))))))))))) (by kernel_rfl) (by kernel_rfl) (S.sel [0,1,2,3] G G) ?_
     refine aH H G G (fun _ S=>aL rfl) ?_;clear H a;intro a H
     refine aH H G G (fun _ S=>aL rfl) ?_;clear H a;intro a H
     refine aH H G G (fun _ S=>aL rfl) ?_;clear H a;intro a H
     refine aH H G G (fun _ S=>aL rfl) ?_;clear H a;intro a H
     refine aH H G G (fun _ S=>bY dM aQ G G (ownM.adr S (i:=2) rfl (by omega)) (by omega) (by omega)) ?_;clear H a;intro a H
     refine aH H G G (fun _ S=>dF (vs:=[.int .i64 (fwd (⟨rates,pwn,ptn,pag⟩:Part) l (i.toNat+1)).1,.int .i64 (fwd (⟨rates,pwn,ptn,pag⟩:Part) l (i.toNat+1)).2]) bD aQ rfl (lG S (i:=2) rfl (by omega) (if_neg (by omega)))) ?_;clear H a;intro a H
     refine aH H G G (fun _ S=>(aB bH rfl)) ?_;clear H a;intro a H
     refine aH H G G (fun _ S=>aE aD rfl (boxM.rd S (i:=1) G G)) ?_;clear H a;intro a H
     refine aH H G G (fun _ S=>(aB bG rfl)) ?_;clear H a;intro a H
     refine aH H G G (fun _ S=>aE aD rfl (boxM.rd S (i:=0) G G)) ?_;clear H a;intro a H
     refine aH H G G (fun _ S=>aU G G (by unfold i64ok;omega)) ?_;clear H a;intro a H
     refine aH H G G (fun _ S=>(aB bG rfl)) ?_;clear H a;intro a H
     refine aH H G G (fun _ S=>aE aD rfl (boxM.rd S (i:=1) G G)) ?_;clear H a;intro a H
     refine aH H G G (fun _ S=>(aB bH rfl)) ?_;clear H a;intro a H
     refine aH H G G (fun _ S=>aE aD rfl (boxM.rd S (i:=0) G G)) ?_;clear H a;intro a H
     refine aH H G G (fun _ S=>aU G G (by unfold i64ok;omega)) ?_;clear H a;intro a H
     refine aH H G G (fun _ S=>aN dV G G) ?_;clear H a;intro a H
     refine aM rfl ?_
     refine aA H G G Tryz.func129 G G (gE (fwd (⟨rates,pwn,ptn,pag⟩:Part) l (i.toNat+1)).1 (fwd (⟨rates,pwn,ptn,pag⟩:Part) l (i.toNat+1)).2 _ _ _) ?_;clear H a
     rintro _ _ a ⟨rfl,S2⟩ H
     replace S:=S.call S2;clear S2
     refine wpList_nil (And.intro (Or.inr (S.sel [0,1,2,3] G G)) ?_)
     refine aH H G G (fun _ S=>aL rfl) ?_;clear H a;intro a H
     refine aH H G G (fun _ S=>aP G G) ?_;clear H a;intro a H
     refine aV H G G (fun _=>aP G G) ?_;clear H a;intro a H
     refine aH H G G (fun _ S=>bY dM aQ G G (ownM.adr S (i:=2) rfl (by omega)) (by omega) (by omega)) ?_;clear H a;intro a H
     refine aM rfl ?_
     refine dY H S (i:=2) (kk:=i.toNat) G G G (by omega) aQ ?_
     clear H a S;intro _ a S H
     have e9:=gH (p:=(⟨rates,pwn,ptn,pag⟩:Part)) (l:=l) (k:=i.toNat) (by omega)
     have e8:i.toNat+1=(i+1).toNat:=by omega
     rw [e8] at e9
     replace S:=S.recell (i:=2) rfl (cell':=fcell (fun q=>if i-1<((q:Nat):Int) then cE (⟨rates,pwn,ptn,pag⟩:Part) l q else fwd (⟨rates,pwn,ptn,pag⟩:Part) l (q+1))) (fun q j hq hj=>by
       unfold fcell;congr 1;(try dsimp only);by_cases h1:q=i.toNat
       · subst h1;rw [if_pos rfl,if_pos (by omega),e9,e8]
       · rw [if_neg h1];by_cases h2:i<(q:Int)
         · rw [if_pos h2,if_pos (by omega)]
         · rw [if_neg h2,if_neg (by omega)])
     refine wpList_nil (And.intro (Or.inl rfl) ?_)
     refine bE ?_
     refine k10 _ _ ?_
     replace H:=H.keep [1,2,6,8] rfl
     refine sO H<|sr 1 rfl<|sd (aU G G (by unfold i64ok;omega))<|sr 1 rfl<|sE ?_;clear H a;intro a H
     exact k7 (g1-1) (i-1) a _ (by omega) (⟨by omega,by omega,by omega⟩) (S.sel [2,3] G G) (H.keep [8,1,2,6] rfl)
   ·skip
    refine aI H rfl S cC ?_;clear H a S;intro b9 _ a hb9 hbw9 S H
    refine wpList_nil (And.intro (Or.inr (S.sel [1,2] G G)) ?_)
    refine eA G G ?_ ?_
    ·skip
     refine aA H G G Tryz.func128 G G (gI rates pwn ptn pag RA rcp (l.getD (i+1).toNat Use.zero) _ (hr.now S) hrn hcls (by unfold i64ok;omega) (by unfold i64ok;omega)) ?_;clear H a
     rintro _ _ a ⟨rfl,S2⟩ H
     replace S:=S.call S2;clear S2
     refine wpList_nil (And.intro (Or.inr (S.sel [1,2] G G)) ?_)
     refine aM rfl ?_
     refine aI H rfl S cC ?_;clear H a S;intro b10 _ a hb10 hbw10 S H
     refine wpList_nil (And.intro (Or.inr (S.sel [2,3] G G)) ?_)
     refine aM rfl ?_
     refine aF H S (i:=1) G G G G aQ G G ?_
     clear H a S;intro _ a S H
     refine wpList_nil (And.intro (Or.inr (S.sel [2,3] G G)) ?_)
     refine aM rfl ?_
     refine aF H S (i:=0) G G G G aQ G G ?_
     clear H a S;intro _ a S H
     refine wpList_nil (And.intro (Or.inr (S.sel [2,3] G G)) ?_)
     refine bE ?_
     refine k11 _ _ ?_
     clear k11 K11
     have hbw:=jI hok (k:=(i+1).toNat) (by omega)
     replace H:=H.keep [1,2,6,8,9,10] rfl
     replace S:=S.drew
     refine one_wt 22 (.q 0 (.q 1 (.q 2 (.q 3 (.q 4 (.q 5 (.q 6 (.q 7 (.q 8 (.q 9 (.q 10 (.q 11 (.q 12 (.q 13 (.q 14 (.q 15 (.q 16 (.e 17 (.q 18 (.q 19 (.p 20 (.q 21 (.e 22 .nil))))))))))))))))))))))) (by kernel_rfl) (by kernel_rfl) (S.sel [0,1,2,3] G G) ?_
     refine aH H G G (fun _ S=>aL rfl) ?_;clear H a;intro a H
     refine aH H G G (fun _ S=>aL rfl) ?_;clear H a;intro a H
     refine aH H G G (fun _ S=>aL rfl) ?_;clear H a;intro a H
     refine aH H G G (fun _ S=>aL rfl) ?_;clear H a;intro a H
     refine aH H G G (fun _ S=>bY dM aQ G G (ownM.adr S (i:=2) rfl (by omega)) (by omega) (by omega)) ?_;clear H a;intro a H
     refine aH H G G (fun _ S=>dF (vs:=[.int .i64 (fwd (⟨rates,pwn,ptn,pag⟩:Part) l (i.toNat+1)).1,.int .i64 (fwd (⟨rates,pwn,ptn,pag⟩:Part) l (i.toNat+1)).2]) bD aQ rfl (lG S (i:=2) rfl (by omega) (if_neg (by omega)))) ?_;clear H a;intro a H
     refine aH H G G (fun _ S=>(aB bH rfl)) ?_;clear H a;intro a H
     refine aH H G G (fun _ S=>aE aD rfl (boxM.rd S (i:=0) G G)) ?_;clear H a;intro a H
     refine aH H G G (fun _ S=>(aB bG rfl)) ?_;clear H a;intro a H
     refine aH H G G (fun _ S=>aE aD rfl (boxM.rd S (i:=1) G G)) ?_;clear H a;intro a H
     refine aH H G G (fun _ S=>aU G G (by unfold i64ok;omega)) ?_;clear H a;intro a H
     refine aH H G G (fun _ S=>(aB bG rfl)) ?_;clear H a;intro a H
     refine aH H G G (fun _ S=>aE aD rfl (boxM.rd S (i:=0) G G)) ?_;clear H a;intro a H
     refine aH H G G (fun _ S=>(aB bH rfl)) ?_;clear H a;intro a H
     refine aH H G G (fun _ S=>aE aD rfl (boxM.rd S (i:=1) G G)) ?_;clear H a;intro a H
     refine aH H G G (fun _ S=>aU G G (by unfold i64ok;omega)) ?_;clear H a;intro a H
     refine aH H G G (fun _ S=>aN dV G G) ?_;clear H a;intro a H
     refine aM rfl ?_
     refine aA H G G Tryz.func129 G G (gE (fwd (⟨rates,pwn,ptn,pag⟩:Part) l (i.toNat+1)).1 (fwd (⟨rates,pwn,ptn,pag⟩:Part) l (i.toNat+1)).2 _ _ _) ?_;clear H a
     rintro _ _ a ⟨rfl,S2⟩ H
     replace S:=S.call S2;clear S2
     refine wpList_nil (And.intro (Or.inr (S.sel [0,1,2,3] G G)) ?_)
     refine aH H G G (fun _ S=>aL rfl) ?_;clear H a;intro a H
     refine aH H G G (fun _ S=>aP G G) ?_;clear H a;intro a H
     refine aV H G G (fun _=>aP G G) ?_;clear H a;intro a H
     refine aH H G G (fun _ S=>bY dM aQ G G (ownM.adr S (i:=2) rfl (by omega)) (by omega) (by omega)) ?_;clear H a;intro a H
     refine aM rfl ?_
     refine dY H S (i:=2) (kk:=i.toNat) G G G (by omega) aQ ?_
     clear H a S;intro _ a S H
     have e9:=gH (p:=(⟨rates,pwn,ptn,pag⟩:Part)) (l:=l) (k:=i.toNat) (by omega)
     have e8:i.toNat+1=(i+1).toNat:=by omega
     rw [e8] at e9
     replace S:=S.recell (i:=2) rfl (cell':=fcell (fun q=>if i-1<((q:Nat):Int) then cE (⟨rates,pwn,ptn,pag⟩:Part) l q else fwd (⟨rates,pwn,ptn,pag⟩:Part) l (q+1))) (fun q j hq hj=>by
       unfold fcell;congr 1;(try dsimp only);by_cases h1:q=i.toNat
       · subst h1;rw [if_pos rfl,if_pos (by omega),e9,e8]
       · rw [if_neg h1];by_cases h2:i<(q:Int)
         · rw [if_pos h2,if_pos (by omega)]
         · rw [if_neg h2,if_neg (by omega)])
     refine wpList_nil (And.intro (Or.inl rfl) ?_)
     refine bE ?_
     refine k10 _ _ ?_
     replace H:=H.keep [1,2,6,8] rfl
     refine sO H<|sr 1 rfl<|sd (aU G G (by unfold i64ok;omega))<|sr 1 rfl<|sE ?_;clear H a;intro a H
     exact k7 (g1-1) (i-1) a _ (by omega) (⟨by omega,by omega,by omega⟩) (S.sel [2,3] G G) (H.keep [8,1,2,6] rfl)
    ·skip
     refine aI H rfl S cC ?_;clear H a S;intro b10 _ a hb10 hbw10 S H
     refine wpList_nil (And.intro (Or.inr (S.sel [2,3] G G)) ?_)
     refine aM rfl ?_
     refine aA H G G Tryz.func128 G G (gI rates pwn ptn pag RA rcp (l.getD (i+1).toNat Use.zero) _ (hr.now S) hrn hcls (by unfold i64ok;omega) (by unfold i64ok;omega)) ?_;clear H a
     rintro _ _ a ⟨rfl,S2⟩ H
     replace S:=S.call S2;clear S2
     refine wpList_nil (And.intro (Or.inr (S.sel [2,3] G G)) ?_)
     refine aM rfl ?_
     refine aF H S (i:=1) G G G G aQ G G ?_
     clear H a S;intro _ a S H
     refine wpList_nil (And.intro (Or.inr (S.sel [2,3] G G)) ?_)
     refine aM rfl ?_
     refine aF H S (i:=0) G G G G aQ G G ?_
     clear H a S;intro _ a S H
     refine wpList_nil (And.intro (Or.inr (S.sel [2,3] G G)) ?_)
     refine bE ?_
     refine k11 _ _ ?_
     clear k11 K11
     have hbw:=jI hok (k:=(i+1).toNat) (by omega)
     replace H:=H.keep [1,2,6,8,9,10] rfl
     replace S:=S.drew
     refine one_wt 22 (.q 0 (.q 1 (.q 2 (.q 3 (.q 4 (.q 5 (.q 6 (.q 7 (.q 8 (.q 9 (.q 10 (.q 11 (.q 12 (.q 13 (.q 14 (.q 15 (.q 16 (.e 17 (.q 18 (.q 19 (.p 20 (.q 21 (.e 22 .nil))))))))))))))))))))))) (by kernel_rfl) (by kernel_rfl) (S.sel [0,1,2,3] G G) ?_
     refine aH H G G (fun _ S=>aL rfl) ?_;clear H a;intro a H
     refine aH H G G (fun _ S=>aL rfl) ?_;clear H a;intro a H
     refine aH H G G (fun _ S=>aL rfl) ?_;clear H a;intro a H
     refine aH H G G (fun _ S=>aL rfl) ?_;clear H a;intro a H
     refine aH H G G (fun _ S=>bY dM aQ G G (ownM.adr S (i:=2) rfl (by omega)) (by omega) (by omega)) ?_;clear H a;intro a H
     refine aH H G G (fun _ S=>dF (vs:=[.int .i64 (fwd (⟨rates,pwn,ptn,pag⟩:Part) l (i.toNat+1)).1,.int .i64 (fwd (⟨rates,pwn,ptn,pag⟩:Part) l (i.toNat+1)).2]) bD aQ rfl (lG S (i:=2) rfl (by omega) (if_neg (by omega)))) ?_;clear H a;intro a H
     refine aH H G G (fun _ S=>(aB bH rfl)) ?_;clear H a;intro a H
     refine aH H G G (fun _ S=>aE aD rfl (boxM.rd S (i:=0) G G)) ?_;clear H a;intro a H
     refine aH H G G (fun _ S=>(aB bG rfl)) ?_;clear H a;intro a H
     refine aH H G G (fun _ S=>aE aD rfl (boxM.rd S (i:=1) G G)) ?_;clear H a;intro a H
     refine aH H G G (fun _ S=>aU G G (by unfold i64ok;omega)) ?_;clear H a;intro a H
     refine aH H G G (fun _ S=>(aB bG rfl)) ?_;clear H a;intro a H
     refine aH H G G (fun _ S=>aE aD rfl (boxM.rd S (i:=0) G G)) ?_;clear H a;intro a H
     refine aH H G G (fun _ S=>(aB bH rfl)) ?_;clear H a;intro a H
     refine aH H G G (fun _ S=>aE aD rfl (boxM.rd S (i:=1) G G)) ?_;clear H a;intro a H
     refine aH H G G (fun _ S=>aU G G (by unfold i64ok;omega)) ?_;clear H a;intro a H
     refine aH H G G (fun _ S=>aN dV G G) ?_;clear H a;intro a H
     refine aM rfl ?_
     refine aA H G G Tryz.func129 G G (gE (fwd (⟨rates,pwn,ptn,pag⟩:Part) l (i.toNat+1)).1 (fwd (⟨rates,pwn,ptn,pag⟩:Part) l (i.toNat+1)).2 _ _ _) ?_;clear H a
     rintro _ _ a ⟨rfl,S2⟩ H
     replace S:=S.call S2;clear S2
     refine wpList_nil (And.intro (Or.inr (S.sel [0,1,2,3] G G)) ?_)
     refine aH H G G (fun _ S=>aL rfl) ?_;clear H a;intro a H
     refine aH H G G (fun _ S=>aP G G) ?_;clear H a;intro a H
     refine aV H G G (fun _=>aP G G) ?_;clear H a;intro a H
     refine aH H G G (fun _ S=>bY dM aQ G G (ownM.adr S (i:=2) rfl (by omega)) (by omega) (by omega)) ?_;clear H a;intro a H
     refine aM rfl ?_
     refine dY H S (i:=2) (kk:=i.toNat) G G G (by omega) aQ ?_
     clear H a S;intro _ a S H
     have e9:=gH (p:=(⟨rates,pwn,ptn,pag⟩:Part)) (l:=l) (k:=i.toNat) (by omega)
     have e8:i.toNat+1=(i+1).toNat:=by omega
     rw [e8] at e9
     replace S:=S.recell (i:=2) rfl (cell':=fcell (fun q=>if i-1<((q:Nat):Int) then cE (⟨rates,pwn,ptn,pag⟩:Part) l q else fwd (⟨rates,pwn,ptn,pag⟩:Part) l (q+1))) (fun q j hq hj=>by
       unfold fcell;congr 1;(try dsimp only);by_cases h1:q=i.toNat
       · subst h1;rw [if_pos rfl,if_pos (by omega),e9,e8]
       · rw [if_neg h1];by_cases h2:i<(q:Int)
         · rw [if_pos h2,if_pos (by omega)]
         · rw [if_neg h2,if_neg (by omega)])
     refine wpList_nil (And.intro (Or.inl rfl) ?_)
     refine bE ?_
     refine k10 _ _ ?_
     replace H:=H.keep [1,2,6,8] rfl
     refine sO H<|sr 1 rfl<|sd (aU G G (by unfold i64ok;omega))<|sr 1 rfl<|sE ?_;clear H a;intro a H
     exact k7 (g1-1) (i-1) a _ (by omega) (⟨by omega,by omega,by omega⟩) (S.sel [2,3] G G) (H.keep [8,1,2,6] rfl)
   ·skip
    refine aI H rfl S cC ?_;clear H a S;intro b10 _ a hb10 hbw10 S H
    refine wpList_nil (And.intro (Or.inr (S.sel [1,2] G G)) ?_)
    refine eA G G ?_ ?_
    ·skip
     refine aA H G G Tryz.func128 G G (gI rates pwn ptn pag RA rcp (l.getD (i+1).toNat Use.zero) _ (hr.now S) hrn hcls (by unfold i64ok;omega) (by unfold i64ok;omega)) ?_;clear H a
     rintro _ _ a ⟨rfl,S2⟩ H
     replace S:=S.call S2;clear S2
     refine wpList_nil (And.intro (Or.inr (S.sel [1,2] G G)) ?_)
     refine aM rfl ?_
     refine aI H rfl S cC ?_;clear H a S;intro b9 _ a hb9 hbw9 S H
     refine wpList_nil (And.intro (Or.inr (S.sel [2,3] G G)) ?_)
     refine aM rfl ?_
     refine aF H S (i:=0) G G G G aQ G G ?_
     clear H a S;intro _ a S H
     refine wpList_nil (And.intro (Or.inr (S.sel [2,3] G G)) ?_)
     refine aM rfl ?_
     refine aF H S (i:=1) G G G G aQ G G ?_
     clear H a S;intro _ a S H
     refine wpList_nil (And.intro (Or.inr (S.sel [2,3] G G)) ?_)
     refine bE ?_
     refine k11 _ _ ?_
     clear k11 K11
     have hbw:=jI hok (k:=(i+1).toNat) (by omega)
     replace H:=H.keep [1,2,6,8,9,10] rfl
     replace S:=S.drew
     refine one_wt 22 (.q 0 (.q 1 (.q 2 (.q 3 (.q 4 (.q 5 (.q 6 (.q 7 (.q 8 (.q 9 (.q 10 (.q 11 (.q 12 (.q 13 (.q 14 (.q 15 (.q 16 (.e 17 (.q 18 (.q 19 (.p 20 (.q 21 (.e 22 .nil))))))))))))))))))))))) (by kernel_rfl) (by kernel_rfl) (S.sel [0,1,2,3] G G) ?_
     refine aH H G G (fun _ S=>aL rfl) ?_;clear H a;intro a H
     refine aH H G G (fun _ S=>aL rfl) ?_;clear H a;intro a H
     refine aH H G G (fun _ S=>aL rfl) ?_;clear H a;intro a H
     refine aH H G G (fun _ S=>aL rfl) ?_;clear H a;intro a H
     refine aH H G G (fun _ S=>bY dM aQ G G (ownM.adr S (i:=2) rfl (by omega)) (by omega) (by omega)) ?_;clear H a;intro a H
     refine aH H G G (fun _ S=>dF (vs:=[.int .i64 (fwd (⟨rates,pwn,ptn,pag⟩:Part) l (i.toNat+1)).1,.int .i64 (fwd (⟨rates,pwn,ptn,pag⟩:Part) l (i.toNat+1)).2]) bD aQ rfl (lG S (i:=2) rfl (by omega) (if_neg (by omega)))) ?_;clear H a;intro a H
     refine aH H G G (fun _ S=>(aB bH rfl)) ?_;clear H a;intro a H
     refine aH H G G (fun _ S=>aE aD rfl (boxM.rd S (i:=1) G G)) ?_;clear H a;intro a H
     refine aH H G G (fun _ S=>(aB bG rfl)) ?_;clear H a;intro a H
     refine aH H G G (fun _ S=>aE aD rfl (boxM.rd S (i:=0) G G)) ?_;clear H a;intro a H
     refine aH H G G (fun _ S=>aU G G (by unfold i64ok;omega)) ?_;clear H a;intro a H
     refine aH H G G (fun _ S=>(aB bG rfl)) ?_;clear H a;intro a H
     refine aH H G G (fun _ S=>aE aD rfl (boxM.rd S (i:=1) G G)) ?_;clear H a;intro a H
     refine aH H G G (fun _ S=>(aB bH rfl)) ?_;clear H a;intro a H
     refine aH H G G (fun _ S=>aE aD rfl (boxM.rd S (i:=0) G G)) ?_;clear H a;intro a H
     refine aH H G G (fun _ S=>aU G G (by unfold i64ok;omega)) ?_;clear H a;intro a H
     refine aH H G G (fun _ S=>aN dV G G) ?_;clear H a;intro a H
     refine aM rfl ?_
     refine aA H G G Tryz.func129 G G (gE (fwd (⟨rates,pwn,ptn,pag⟩:Part) l (i.toNat+1)).1 (fwd (⟨rates,pwn,ptn,pag⟩:Part) l (i.toNat+1)).2 _ _ _) ?_;clear H a
     rintro _ _ a ⟨rfl,S2⟩ H
     replace S:=S.call S2;clear S2
     refine wpList_nil (And.intro (Or.inr (S.sel [0,1,2,3] G G)) ?_)
     refine aH H G G (fun _ S=>aL rfl) ?_;clear H a;intro a H
     refine aH H G G (fun _ S=>aP G G) ?_;clear H a;intro a H
     refine aV H G G (fun _=>aP G G) ?_;clear H a;intro a H
     refine aH H G G (fun _ S=>bY dM aQ G G (ownM.adr S (i:=2) rfl (by omega)) (by omega) (by omega)) ?_;clear H a;intro a H
     refine aM rfl ?_
     refine dY H S (i:=2) (kk:=i.toNat) G G G (by omega) aQ ?_
     clear H a S;intro _ a S H
     have e9:=gH (p:=(⟨rates,pwn,ptn,pag⟩:Part)) (l:=l) (k:=i.toNat) (by omega)
     have e8:i.toNat+1=(i+1).toNat:=by omega
     rw [e8] at e9
     replace S:=S.recell (i:=2) rfl (cell':=fcell (fun q=>if i-1<((q:Nat):Int) then cE (⟨rates,pwn,ptn,pag⟩:Part) l q else fwd (⟨rates,pwn,ptn,pag⟩:Part) l (q+1))) (fun q j hq hj=>by
       unfold fcell;congr 1;(try dsimp only);by_cases h1:q=i.toNat
       · subst h1;rw [if_pos rfl,if_pos (by omega),e9,e8]
       · rw [if_neg h1];by_cases h2:i<(q:Int)
         · rw [if_pos h2,if_pos (by omega)]
         · rw [if_neg h2,if_neg (by omega)])
     refine wpList_nil (And.intro (Or.inl rfl) ?_)
     refine bE ?_
     refine k10 _ _ ?_
     replace H:=H.keep [1,2,6,8] rfl
     refine sO H<|sr 1 rfl<|sd (aU G G (by unfold i64ok;omega))<|sr 1 rfl<|sE ?_;clear H a;intro a H
     exact k7 (g1-1) (i-1) a _ (by omega) (⟨by omega,by omega,by omega⟩) (S.sel [2,3] G G) (H.keep [8,1,2,6] rfl)
    ·skip
     refine aI H rfl S cC ?_;clear H a S;intro b9 _ a hb9 hbw9 S H
     refine wpList_nil (And.intro (Or.inr (S.sel [2,3] G G)) ?_)
     refine aM rfl ?_
     refine aA H G G Tryz.func128 G G (gI rates pwn ptn pag RA rcp (l.getD (i+1).toNat Use.zero) _ (hr.now S) hrn hcls (by unfold i64ok;omega) (by unfold i64ok;omega)) ?_;clear H a
     rintro _ _ a ⟨rfl,S2⟩ H
     replace S:=S.call S2;clear S2
     refine wpList_nil (And.intro (Or.inr (S.sel [2,3] G G)) ?_)
     refine aM rfl ?_
     refine aF H S (i:=0) G G G G aQ G G ?_
     clear H a S;intro _ a S H
     refine wpList_nil (And.intro (Or.inr (S.sel [2,3] G G)) ?_)
     refine aM rfl ?_
     refine aF H S (i:=1) G G G G aQ G G ?_
     clear H a S;intro _ a S H
     refine wpList_nil (And.intro (Or.inr (S.sel [2,3] G G)) ?_)
     refine bE ?_
     refine k11 _ _ ?_
     clear k11 K11
     have hbw:=jI hok (k:=(i+1).toNat) (by omega)
     replace H:=H.keep [1,2,6,8,9,10] rfl
     replace S:=S.drew
     refine one_wt 22 (.q 0 (.q 1 (.q 2 (.q 3 (.q 4 (.q 5 (.q 6 (.q 7 (.q 8 (.q 9 (.q 10 (.q 11 (.q 12 (.q 13 (.q 14 (.q 15 (.q 16 (.e 17 (.q 18 (.q 19 (.p 20 (.q 21 (.e 22 .nil))))))))))))))))))))))) (by kernel_rfl) (by kernel_rfl) (S.sel [0,1,2,3] G G) ?_
     refine aH H G G (fun _ S=>aL rfl) ?_;clear H a;intro a H
     refine aH H G G (fun _ S=>aL rfl) ?_;clear H a;intro a H
     refine aH H G G (fun _ S=>aL rfl) ?_;clear H a;intro a H
     refine aH H G G (fun _ S=>aL rfl) ?_;clear H a;intro a H
     refine aH H G G (fun _ S=>bY dM aQ G G (ownM.adr S (i:=2) rfl (by omega)) (by omega) (by omega)) ?_;clear H a;intro a H
     refine aH H G G (fun _ S=>dF (vs:=[.int .i64 (fwd (⟨rates,pwn,ptn,pag⟩:Part) l (i.toNat+1)).1,.int .i64 (fwd (⟨rates,pwn,ptn,pag⟩:Part) l (i.toNat+1)).2]) bD aQ rfl (lG S (i:=2) rfl (by omega) (if_neg (by omega)))) ?_;clear H a;intro a H
     refine aH H G G (fun _ S=>(aB bH rfl)) ?_;clear H a;intro a H
     refine aH H G G (fun _ S=>aE aD rfl (boxM.rd S (i:=1) G G)) ?_;clear H a;intro a H
     refine aH H G G (fun _ S=>(aB bG rfl)) ?_;clear H a;intro a H
     refine aH H G G (fun _ S=>aE aD rfl (boxM.rd S (i:=0) G G)) ?_;clear H a;intro a H
     refine aH H G G (fun _ S=>aU G G (by unfold i64ok;omega)) ?_;clear H a;intro a H
     refine aH H G G (fun _ S=>(aB bG rfl)) ?_;clear H a;intro a H
     refine aH H G G (fun _ S=>aE aD rfl (boxM.rd S (i:=1) G G)) ?_;clear H a;intro a H
     refine aH H G G (fun _ S=>(aB bH rfl)) ?_;clear H a;intro a H
     refine aH H G G (fun _ S=>aE aD rfl (boxM.rd S (i:=0) G G)) ?_;clear H a;intro a H
     refine aH H G G (fun _ S=>aU G G (by unfold i64ok;omega)) ?_;clear H a;intro a H
     refine aH H G G (fun _ S=>aN dV G G) ?_;clear H a;intro a H
     refine aM rfl ?_
     refine aA H G G Tryz.func129 G G (gE (fwd (⟨rates,pwn,ptn,pag⟩:Part) l (i.toNat+1)).1 (fwd (⟨rates,pwn,ptn,pag⟩:Part) l (i.toNat+1)).2 _ _ _) ?_;clear H a
     rintro _ _ a ⟨rfl,S2⟩ H
     replace S:=S.call S2;clear S2
     refine wpList_nil (And.intro (Or.inr (S.sel [0,1,2,3] G G)) ?_)
     refine aH H G G (fun _ S=>aL rfl) ?_;clear H a;intro a H
     refine aH H G G (fun _ S=>aP G G) ?_;clear H a;intro a H
     refine aV H G G (fun _=>aP G G) ?_;clear H a;intro a H
     refine aH H G G (fun _ S=>bY dM aQ G G (ownM.adr S (i:=2) rfl (by omega)) (by omega) (by omega)) ?_;clear H a;intro a H
     refine aM rfl ?_
     refine dY H S (i:=2) (kk:=i.toNat) G G G (by omega) aQ ?_
     clear H a S;intro _ a S H
     have e9:=gH (p:=(⟨rates,pwn,ptn,pag⟩:Part)) (l:=l) (k:=i.toNat) (by omega)
     have e8:i.toNat+1=(i+1).toNat:=by omega
     rw [e8] at e9
     replace S:=S.recell (i:=2) rfl (cell':=fcell (fun q=>if i-1<((q:Nat):Int) then cE (⟨rates,pwn,ptn,pag⟩:Part) l q else fwd (⟨rates,pwn,ptn,pag⟩:Part) l (q+1))) (fun q j hq hj=>by
       unfold fcell;congr 1;(try dsimp only);by_cases h1:q=i.toNat
       · subst h1;rw [if_pos rfl,if_pos (by omega),e9,e8]
       · rw [if_neg h1];by_cases h2:i<(q:Int)
         · rw [if_pos h2,if_pos (by omega)]
         · rw [if_neg h2,if_neg (by omega)])
     refine wpList_nil (And.intro (Or.inl rfl) ?_)
     refine bE ?_
     refine k10 _ _ ?_
     replace H:=H.keep [1,2,6,8] rfl
     refine sO H<|sr 1 rfl<|sd (aU G G (by unfold i64ok;omega))<|sr 1 rfl<|sE ?_;clear H a;intro a H
     exact k7 (g1-1) (i-1) a _ (by omega) (⟨by omega,by omega,by omega⟩) (S.sel [2,3] G G) (H.keep [8,1,2,6] rfl)
  refine wp_exit ?_
  refine k5 _ _ ?_
  refine sS H fun K24 k24=>sr 3 rfl<|sE ?_;clear H a;intro a H
  refine k24 _ ?_;clear k24 K24
  refine wp_ret ?_
  refine ret2 (fn:=Tryz.f121) rfl H G G ?_
  refine .inl ⟨hA,A',c',rfl,?_⟩
  replace S:=S.recell (i:=0) rfl (cell':=fcell (cE (⟨rates,pwn,ptn,pag⟩:Part) l)) (fun q j hq hj=>by unfold fcell;congr 1;exact if_pos (by omega))
  exact (S.sel [0] G G)
 replace H:=H.keep [1,2] rfl
 refine seq_list fun K25 k25=>?_
 refine ls 2 H<|sd ((aC fB hZ rfl S (i:=0) G G))<|sr 1 rfl<|sE ?_;clear H a;intro a H
 refine aA H G G Tryz.func127 G G (rI rates pwn ptn pag RA rcp l A cp _ (hr.now S) hrn (hl.now S) hn hok) ?_;clear H a
 rintro _ _ a ⟨n,A',c',hn1,rfl,S2⟩ H
 replace S:=S.call S2;clear S2
 refine ls 5 H<|sr 5 rfl<|sE ?_;clear H a;intro a H
 refine k25 _ _ ?_;clear k25 K25
 refine wp_seq_k fun K26 k26=>?_
 try have hnl:=hn1.le
 replace H:=H.keep [1,2,6,7] rfl
 refine sS H fun K27 k27=>sr 2 rfl<|sL dJ rfl<|sr 1 rfl<|sE ?_;clear H a;intro a H
 refine k27 _ ?_;clear k27 K27
 refine condL H rfl (fun hc3=>?_) (fun hc3=>?_)
 ·skip
  refine sS H fun K28 k28=>sr 2 rfl<|sE ?_;clear H a;intro a H
  refine k28 _ ?_;clear k28 K28
  refine wp_ret ?_
  refine ret2 (fn:=Tryz.f121) rfl H G G ?_
  exact .inr ⟨hA,rfl,(S.sel [] G G)⟩
 exfalso
 have hnn:n=l.length:=by omega
 exact hA (hnn ▸ hn1)
end
section
theorem Nt {w:World} {p:Part} {l:List Use} {v:Value} {w':World} (hA:IsAt p l l.length) (h:Worn w p l v w'):∃ A' c',v = .tuple #[.slice A' l.length c',.bool true]∧St w noF [ownM 58 2 A' l.length c' (fcell (cE p l))] w':=by
  rcases h with ⟨_,h⟩|⟨h,_⟩
  · exact h
  · exact absurd hA h
theorem Si {w:World} {p:Part} {l:List Use} {v:Value} {w':World} (hA:¬ IsAt p l l.length) (h:Worn w p l v w'):v = .tuple #[.slice none 0 0,.bool false]∧St w noF [] w':=by
  rcases h with ⟨h,_⟩|⟨_,h⟩
  · exact absurd h hA
  · exact h
end
section
def mG (b:Nat→Bool) (n:Nat):Int:=match (List.range n).find? b with
  | some k=>(k:Int)
  | none => -1
theorem qQ {b:Nat→Bool} {n k:Nat} (hk:k<n) (hb:b k=true) (h:∀ q,q<k→b q=false):mG b n=k:=by
  unfold mG
  have e:(List.range n).find? b=some k:=by
    rw [List.find?_eq_some_iff_append]
    refine ⟨hb,List.range k,(List.range (n-k-1)).map (k+1+·),?_,fun a ha=>?_⟩
    · have e1:n=k+((n-k-1)+1):=by omega
      conv=>lhs;rw [e1,List.range_add]
      rw [List.range_succ_eq_map]
      simp only [List.map_cons,Nat.add_zero,List.map_map]
      congr 2
      refine List.map_congr_left fun a _=>?_
      simp only [Function.comp]
      omega
    · rw [h a (List.mem_range.1 ha)];rfl
  rw [e]
theorem Bb {b:Nat→Bool} {n:Nat} (h:∀ q,q<n→b q=false):mG b n = -1:=by
  unfold mG
  have e:(List.range n).find? b=none:=by
    rw [List.find?_eq_none]
    intro a ha
    rw [h a (List.mem_range.1 ha)];simp
  rw [e]
theorem Io {p:Part} {l:List Use}:∀ m,m≤l.length→(∀ k,k<m→fits p l k)∨∃ n,n<m∧IsAt p l n:=by
  classical
  intro m
  induction m with
  | zero=>intro _;exact .inl fun k hk=>absurd hk (Nat.not_lt_zero _)
  | succ m ih=>
    intro hm
    rcases ih (by omega) with h|⟨n,hn,h⟩
    · by_cases hf:fits p l m
      · refine .inl fun k hk=>?_
        by_cases e:k=m
        · subst e;exact hf
        · exact h k (by omega)
      · exact .inr ⟨m,by omega,by omega,h,fun _=>hf⟩
    · exact .inr ⟨n,by omega,h⟩
theorem Vi (p:Part) (l:List Use):∃ n,IsAt p l n:=by
  rcases Io (p:=p) l.length (Nat.le_refl _) with h|⟨n,_,h⟩
  · exact ⟨l.length,Nat.le_refl _,h,fun h=>absurd h (Nat.lt_irrefl _)⟩
  · exact ⟨n,h⟩
noncomputable def atN (p:Part) (l:List Use):Nat:=Classical.choose (Vi p l)
theorem yL (p:Part) (l:List Use):IsAt p l (atN p l):=Classical.choose_spec (Vi p l)
theorem yM {p:Part} {l:List Use} {n:Nat} (h:IsAt p l n):atN p l=n:=(yL p l).same h
theorem Sj {p:Part} {l:List Use}:IsAt p l l.length↔atN p l=l.length:=⟨yM,fun h=>by have:=yL p l;rw [h] at this;exact this⟩
theorem Wj {p:Part} {l:List Use} (h:PartOk p l):∀ k,k≤l.length→(∀ q,q<k→fits p l q)→(fwd p l k).1≤(fwd p l k).2:=by
  intro k
  induction k with
  | zero=>intro _ _;exact Int.le_refl _
  | succ k ih=>
    intro hk hf
    have h1:=ih (by omega) fun q hq=>hf q (by omega)
    by_cases hm:(l.getD k Use.zero).meas=true
    · exact hf k (by omega) hm
    · have hu:=h.use (show k<l.length by omega)
      unfold useOk at hu
      simp only [decide_eq_true_eq] at hu
      have hr:=h.rate (k:=(l.getD k Use.zero).cls.toNat) (by omega)
      unfold iF at hr
      simp only [decide_eq_true_eq] at hr
      rw [fwd,if_neg hm]
      unfold addS dL
      have:=Int.mul_le_mul_of_nonneg_left hr.2.1 (show 0≤(l.getD k Use.zero).turns by omega)
      dsimp only
      omega
def fstep (p:Part) (s:Int×Int) (u:Use):Int×Int:=if u.meas then meetS (addS s (dL p u)) (u.lo,u.hi) else addS s (dL p u)
theorem Bc {p:Part} {l:List Use} (h:PartOk p l) {k:Nat} (hk:k<l.length) (hf:∀ q,q<k→fits p l q):fits p l k↔(fwd p l (k+1)).1≤(fwd p l (k+1)).2:=
  ⟨fun h'=>Wj h (k+1) (by omega) fun q hq=>by
    by_cases e:q=k
    · subst e;exact h'
    · exact hf q (by omega),fun h' _=>h'⟩
open Classical in
noncomputable def wearE (p:Part) (l:List Use):Int:=if cO p l≠0 then cO p l else if IsAt p l l.length then 0 else 3
theorem Ip {p:Part} {l:List Use} (h:cO p l≠0):wearE p l=cO p l:=by unfold wearE;rw [if_pos h]
theorem Eb {p:Part} {l:List Use} (h:cO p l=0) (h':¬ IsAt p l l.length):wearE p l=3:=by unfold wearE;rw [if_neg (by omega),if_neg h']
theorem Bd {p:Part} {l:List Use} (h:cO p l=0) (h':IsAt p l l.length):wearE p l=0:=by unfold wearE;rw [if_neg (by omega),if_pos h']
theorem lH {p:Part} {l:List Use} (h:wearE p l=0):cO p l=0∧IsAt p l l.length:=by
  unfold wearE at h
  split at h
  · exact absurd h (by assumption)
  · split at h
    · exact ⟨by omega,by assumption⟩
    · omega
noncomputable def refO (p:Part) (l:List Use):Int×Bool×Int:=if cO p l≠0 then (0,false,cO p l) else if atN p l<l.length then ((atN p l:Int),true,0) else (0,false,0)
def wornB (p:Part) (l:List Use) (k:Nat) (wr:Int):Bool:=(decide (p.turns<sumT l (k+1))||decide (p.age<(l.getD k Use.zero).day))||decide (p.worn*1000000<wr)
noncomputable def fM (p:Part) (l:List Use) (e:Int×Int→Int):Int×Int:=if wearE p l≠0 then (0,wearE p l) else (mG (fun k=>wornB p l k (e (cE p l k))) l.length,0)
end
section
theorem pI {n:Nat} {l:List Use}:∀ {k:Nat},gD n l k=true→0≤prevD l k:=by
  intro k
  induction k with
  | zero=>intro _;exact Int.le_refl _
  | succ k ih=>
    intro h
    unfold gD at h
    rw [jR (n:=0),Bool.and_eq_true] at h
    have h1:=ih h.1
    have h2:=h.2
    unfold useOk at h2
    simp only [decide_eq_true_eq] at h2
    show 0≤(l.getD k Use.zero).day
    omega
def FwdR (w:World) (p:Part) (l:List Use) (v:Value) (w':World):Prop:=
  (atN p l=l.length∧∃ A' c',v = .tuple #[.slice A' l.length c',.int .i64 (-1)]∧St w noF [ownM 58 2 A' l.length c' (fcell fun q=>fwd p l (q+1))] w')∨(atN p l<l.length∧v = .tuple #[.slice none 0 0,.int .i64 (atN p l:Int)]∧St w noF [] w')
theorem Nu {w:World} {p:Part} {l:List Use} {v:Value} {w':World} (hA:atN p l=l.length) (h:FwdR w p l v w'):∃ A' c',v = .tuple #[.slice A' l.length c',.int .i64 (-1)]∧St w noF [ownM 58 2 A' l.length c' (fcell fun q=>fwd p l (q+1))] w':=by
  rcases h with ⟨_,h⟩|⟨h,_⟩
  · exact h
  · omega
theorem Sk {w:World} {p:Part} {l:List Use} {v:Value} {w':World} (hA:atN p l<l.length) (h:FwdR w p l v w'):v = .tuple #[.slice none 0 0,.int .i64 (atN p l:Int)]∧St w noF [] w':=by
  rcases h with ⟨h,_⟩|⟨_,h⟩
  · omega
  · exact h
def WearR (w:World) (p:Part) (l:List Use) (v:Value) (w':World):Prop:=
  (wearE p l=0∧∃ A' c',v = .tuple #[.slice A' l.length c',.int .i64 0]∧St w noF [ownM 58 2 A' l.length c' (fcell (cE p l))] w')∨(wearE p l≠0∧v = .tuple #[.slice none 0 0,.int .i64 (wearE p l)]∧St w noF [] w')
theorem Iq {w:World} {p:Part} {l:List Use} {v:Value} {w':World} (hA:wearE p l=0) (h:WearR w p l v w'):∃ A' c',v = .tuple #[.slice A' l.length c',.int .i64 0]∧St w noF [ownM 58 2 A' l.length c' (fcell (cE p l))] w':=by
  rcases h with ⟨_,h⟩|⟨h,_⟩
  · exact h
  · exact absurd hA h
theorem Nv {w:World} {p:Part} {l:List Use} {v:Value} {w':World} (hA:wearE p l≠0) (h:WearR w p l v w'):v = .tuple #[.slice none 0 0,.int .i64 (wearE p l)]∧St w noF [] w':=by
  rcases h with ⟨h,_⟩|⟨_,h⟩
  · exact absurd h hA
  · exact h
theorem nJ (rates:List (Int×Int)) (pwn ptn pag:Int) (RA:Option Addr) (rcp:Nat) (l:List Use) (A:Option Addr) (cp:Nat) (w:World) (hr:InS w noF 2 RA rates.length (scell rates)) (hrn:rates.length≤9223372036854775807) (hl:InS w noF 6 A l.length (ucell l)) (hn:l.length≤9223372036854775807) :
    Calls Tryz.prog 54 [.agg [.slice RA rates.length rcp,.int .i64 pwn,.int .i64 ptn,.int .i64 pag].toArray,.slice A l.length cp].toArray w (Ret (fun v w'=>v = .int .i64 (cO (⟨rates,pwn,ptn,pag⟩:Part) l)∧St w noF [] w')):=by
 refine enter Tryz.func54 rfl Tryz.ntmps54 rfl (fun a H=>?_)
 have S:=St.start w
 refine seq_list fun K1 k1=>?_
 refine aO H rfl S G G ?_;clear H a S;intro b2 _ a hb2 hbw2 S H
 refine ls 1 H<|sr 1 rfl<|sE ?_;clear H a;intro a H
 refine k1 _ _ ?_;clear k1 K1
 refine wp_seq_k fun K2 k2=>?_
 replace H:=H.keep [1,2] rfl
 refine sS H fun K3 k3=>sf fJ rfl<|sl S 0 iD G G G<|sL dM rfl<|sc rfl Tryz.func87 G G (gW _ _ _ _)<|sr 2 rfl<|sg 4 5 13 17 false G G (fun hg6=>by
     have hq6:=hg6;try simp only [o1,o2,o3,o4,o5,o6,o7,o8,o9,oa] at hq6
     exact sy hg6<|sf xU rfl<|sy hg6<|sl S 0 aD G G G<|sy hg6<|sc rfl Tryz.func87 G G (gW _ _ _ _)<|sy hg6<|sr 1 rfl<|sz 4 G G G)<|so G G G<|sr 1 rfl<|sg 4 11 19 23 false G G (fun hg12=>by
     have hq12:=hg12;try simp only [o1,o2,o3,o4,o5,o6,o7,o8,o9,oa] at hq12
     exact sy hg12<|sf oR rfl<|sy hg12<|sl S 0 aD G G G<|sy hg12<|sc rfl Tryz.func87 G G (gW _ _ _ _)<|sy hg12<|sr 1 rfl<|sz 4 G G G)<|so G G G<|sr 1 rfl<|sg 4 17 25 29 false G G (fun hg18=>by
     have hq18:=hg18;try simp only [o1,o2,o3,o4,o5,o6,o7,o8,o9,oa] at hq18
     exact sy hg18<|sf rX rfl<|sy hg18<|sl S 0 aD G G G<|sy hg18<|sc rfl Tryz.func87 G G (gW _ _ _ _)<|sy hg18<|sr 1 rfl<|sz 4 G G G)<|so G G G<|sE ?_;clear H a;intro a H
 refine k3 _ ?_;clear k3 K3
 refine cond_ H rfl (fun hc1=>?_) (fun hc1=>?_)
 ·skip
  try simp only [o1,o2,o3,o4,o5,o6,o7,o8,o9,oa] at hc1
  replace H:=H.keep [] rfl
  refine sS H fun K4 k4=>sr 1 rfl<|sE ?_;clear H a;intro a H
  refine k4 _ ?_;clear k4 K4
  refine wp_ret ?_
  refine ret1 (fn:=Tryz.f54) rfl H rfl ?_
  refine ⟨?_,(S.sel [] G G)⟩;unfold cO;rw [if_neg (by unfold iO;simp only [decide_eq_true_eq];omega)]
 try simp only [o1,o2,o3,o4,o5,o6,o7,o8,o9,oa] at hc1
 refine wp_skip ?_
 refine k2 _ _ ?_
 refine wp_seq_k fun K5 k5=>?_
 have hhd:iO (⟨rates,pwn,ptn,pag⟩:Part)=true:=by unfold iO;simp only [decide_eq_true_eq];omega
 refine sS H fun K6 k6=>sr 1 rfl<|sE ?_;clear H a;intro a H
 refine k6 _ ?_;clear k6 K6
 refine wp_block ?_
 refine loop_st (X:=Nat) (R0:=_) [1,2] H rfl (fun k=>[(5,.int .i64 (k:Int))]) (fun k=>[]) (fun g k=>k≤rates.length∧g+k=rates.length∧(rates.take k).all iF=true) (rates.length) 0 ?_ (S.sel [0] G G) (H.keep [5,1,2] rfl) ?_
 · exact ⟨by omega,by omega,by simp⟩
 clear H S a
 intro g1 x1 a w1 hp S H K7 k7
 obtain ⟨k,rfl⟩:∃ y,y=x1:=⟨_,rfl⟩
 refine wp_seq_k fun K8 k8=>?_
 refine sS H fun K9 k9=>sr 1 rfl<|sf fJ rfl<|sl S 0 iD G G G<|sL dM rfl<|sr 1 rfl<|sE ?_;clear H a;intro a H
 refine k9 _ ?_;clear k9 K9
 refine condL H rfl (fun hc2=>?_) (fun hc2=>?_)
 ·skip
  refine wp_skip ?_
  refine k8 _ _ ?_
  refine wp_seq_k fun K10 k10=>?_
  refine wp_block ?_
  replace H:=H.keep [1,2,5] rfl
  replace S:=S.drew
  refine sD H fun K11 k11=>sf fJ rfl<|sl S 0 iD G G G<|sr 1 rfl<|si dM aQ G G (hr.adr (by omega)) (by omega)<|sp bH rfl<|slm aD rfl (hr.rd S (by omega) (by omega))<|sf fJ rfl<|sl S 0 iD G G G<|sr 1 rfl<|si dM aQ G G (hr.adr (by omega)) (by omega)<|sp bG rfl<|slm aD rfl (hr.rd S (by omega) (by omega))<|sc rfl Tryz.func87 G G (gW _ _ _ _)<|sr 2 rfl<|sg 7 14 52 59 false G G (fun hg15=>by
      have hq15:=hg15;try simp only [o1,o2,o3,o4,o5,o6,o7,o8,o9,oa] at hq15
      exact sy hg15<|sf fJ rfl<|sy hg15<|sl S 0 iD G G G<|sy hg15<|sr 1 rfl<|sy hg15<|si dM aQ G G (hr.adr (by omega)) (by omega)<|sy hg15<|sp bG rfl<|sy hg15<|slm aD rfl (hr.rd S (by omega) (by omega))<|sy hg15<|sr 1 rfl<|sz 7 G G G)<|so G G G<|sE ?_;clear H a;intro a H
  refine k11 _ ?_;clear k11 K11
  refine cond_ H rfl (fun hc3=>?_) (fun hc3=>?_)
  ·skip
   try simp only [o1,o2,o3,o4,o5,o6,o7,o8,o9,oa] at hc3
   replace H:=H.keep [] rfl
   refine sS H fun K12 k12=>sr 1 rfl<|sE ?_;clear H a;intro a H
   refine k12 _ ?_;clear k12 K12
   refine wp_ret ?_
   refine ret1 (fn:=Tryz.f54) rfl H rfl ?_
   refine ⟨?_,(S.sel [] G G)⟩;unfold cO;rw [if_pos hhd];(try dsimp only);rw [qP (k:=k) (d:=(0,0)) (by omega) (by unfold iF;simp only [decide_eq_false_iff_not];omega)];rfl
  try simp only [o1,o2,o3,o4,o5,o6,o7,o8,o9,oa] at hc3
  refine wp_skip ?_
  refine k10 _ _ ?_
  refine sO H<|sr 1 rfl<|sd (aK G G (by unfold i64ok;omega))<|sr 1 rfl<|sE ?_;clear H a;intro a H
  exact k7 (g1-1) (k+1) a _ (by omega) (⟨by omega,by omega,uJ (d:=(0,0)) (by omega) hp.2.2 (by unfold iF;simp only [decide_eq_true_eq];omega)⟩) (S.sel [0] G G) (H.keep [5,1,2] rfl)
 refine wp_exit ?_
 refine k5 _ _ ?_
 refine wp_seq_k fun K14 k14=>?_
 have hrt:rates.all iF=true:=by have h9:=hp.2.2;rw [List.take_of_length_le (by omega)] at h9;exact h9
 refine sS H fun K15 k15=>sr 1 rfl<|sL dJ rfl<|sr 1 rfl<|sE ?_;clear H a;intro a H
 refine k15 _ ?_;clear k15 K15
 refine condL H rfl (fun hc4=>?_) (fun hc4=>?_)
 ·skip
  refine sS H fun K16 k16=>sr 1 rfl<|sE ?_;clear H a;intro a H
  refine k16 _ ?_;clear k16 K16
  refine wp_ret ?_
  refine ret1 (fn:=Tryz.f54) rfl H rfl ?_
  refine ⟨?_,(S.sel [] G G)⟩;unfold cO;rw [if_pos hhd,if_pos hrt,if_neg (by omega)]
 refine wp_skip ?_
 refine k14 _ _ ?_
 refine wp_seq_k fun K17 k17=>?_
 refine sS H fun K18 k18=>sr 1 rfl<|sE ?_;clear H a;intro a H
 refine k18 _ ?_;clear k18 K18
 refine wp_block ?_
 refine loop_st (X:=Nat) (R0:=_) [1,2] H rfl (fun j=>[(6,.int .i64 (j:Int))]) (fun j=>[]) (fun g j=>j≤l.length∧g+j=l.length∧gD rates.length l j=true) (l.length) 0 ?_ (S.sel [0] G G) (H.keep [6,1,2] rfl) ?_
 · exact ⟨by omega,by omega,rfl⟩
 clear H S a
 intro g2 x2 a w2 hp S H K19 k19
 obtain ⟨j,rfl⟩:∃ y,y=x2:=⟨_,rfl⟩
 refine wp_seq_k fun K20 k20=>?_
 refine sS H fun K21 k21=>sr 2 rfl<|sL dJ rfl<|sr 1 rfl<|sE ?_;clear H a;intro a H
 refine k21 _ ?_;clear k21 K21
 refine condL H rfl (fun hc5=>?_) (fun hc5=>?_)
 ·skip
  refine wp_skip ?_
  refine k20 _ _ ?_
  refine wp_seq_k fun K22 k22=>?_
  refine wp_block ?_
  replace H:=H.keep [1,2,6] rfl
  refine seq_list fun K23 k23=>?_
  refine ls 4 H<|sr 2 rfl<|si dJ cY G G (hl.adr (by omega)) (by omega)<|sd ((aW jW cY rfl S hl (by omega) (by omega)))<|sE ?_;clear H a;intro a H
  refine aI H rfl S kI ?_;clear H a S;intro b7 _ a hb7 hbw7 S H
  refine aF H S (i:=0) G G G G cY G G ?_
  clear H a S;intro _ a S H
  refine k23 _ _ ?_;clear k23 K23
  refine wp_seq_k fun K24 k24=>?_
  have hpd:prevD l j=if 0<j then (l.getD (j-1) Use.zero).day else 0:=by cases j with|zero=>rfl|succ q=>rfl
  have hj9:((j:Int)-1).toNat=j-1:=by omega
  have hpn:=pI hp.2.2
  replace H:=H.keep [1,2,6,7] rfl
  replace S:=S.drew
  refine sD H fun K25 k25=>sf gS rfl<|sl S 0 aD G G G<|sc rfl Tryz.func87 G G (gW _ _ _ _)<|sr 2 rfl<|sg 13 4 78 91 false G G (fun hg5=>by
      have hq5:=hg5;try simp only [o1,o2,o3,o4,o5,o6,o7,o8,o9,oa] at hq5
      exact sy hg5<|sr 1 rfl<|sy hg5<|sr 1 rfl<|sy hg5<|sr 1 rfl<|sg 9 7 81 90 true G G (fun hg8=>by
           have hq8:=hg8;try simp only [o1,o2,o3,o4,o5,o6,o7,o8,o9,oa] at hq8
           exact sy hg8<|sf gS rfl<|sy hg8<|sl S 0 aD G G G<|sy hg8<|sr 1 rfl<|sy hg8<|sr 1 rfl<|sy hg8<|sd (aU G G (by unfold i64ok;omega))<|sy hg8<|sI dJ cY G G (hl.adr (by omega)) (by omega) (by omega)<|sy hg8<|sp gS rfl<|sy hg8<|slm aD rfl (hl.rd S (by omega) (by omega))<|sy hg8<|sr 1 rfl<|sz 9 G G G)<|sy hg5<|sa G G G<|sz 5 G G G)<|so G G G<|sr 1 rfl<|sg 4 19 93 97 false G G (fun hg20=>by
      have hq20:=hg20;try simp only [o1,o2,o3,o4,o5,o6,o7,o8,o9,oa] at hq20
      exact sy hg20<|sf jN rfl<|sy hg20<|sl S 0 aD G G G<|sy hg20<|sc rfl Tryz.func87 G G (gW _ _ _ _)<|sy hg20<|sr 1 rfl<|sz 4 G G G)<|so G G G<|sr 1 rfl<|sg 8 25 99 107 false G G (fun hg26=>by
      have hq26:=hg26;try simp only [o1,o2,o3,o4,o5,o6,o7,o8,o9,oa] at hq26
      exact sy hg26<|sf oV rfl<|sy hg26<|sl S 0 aD G G G<|sy hg26<|sf fJ rfl<|sy hg26<|sl S 1 iD G G G<|sy hg26<|sL dM rfl<|sy hg26<|sd (aU G G (by unfold i64ok;omega))<|sy hg26<|sc rfl Tryz.func87 G G (gW _ _ _ _)<|sy hg26<|sr 1 rfl<|sz 8 G G G)<|so G G G<|sE ?_;clear H a;intro a H
  refine k25 _ ?_;clear k25 K25
  refine cond_ H rfl (fun hc6=>?_) (fun hc6=>?_)
  ·skip
   try simp only [o1,o2,o3,o4,o5,o6,o7,o8,o9,oa] at hc6
   rw [hj9] at hc6
   replace H:=H.keep [] rfl
   refine sS H fun K26 k26=>sr 1 rfl<|sE ?_;clear H a;intro a H
   refine k26 _ ?_;clear k26 K26
   refine wp_ret ?_
   refine ret1 (fn:=Tryz.f54) rfl H rfl ?_
   refine ⟨?_,(S.sel [] G G)⟩;unfold cO;rw [if_pos hhd,if_pos hrt,if_pos (by omega)];unfold gD;rw [fX (k:=j) (by omega) (by unfold useOk;simp only [decide_eq_false_iff_not];rw [hpd];omega)];rfl
  try simp only [o1,o2,o3,o4,o5,o6,o7,o8,o9,oa] at hc6
  rw [hj9] at hc6
  refine wp_skip ?_
  refine k24 _ _ ?_
  replace H:=H.keep [1,2,6,7] rfl
  refine sS H fun K27 k27=>sf lZ rfl<|sl S 0 iY G G G<|sr 1 rfl<|sg 14 2 111 125 true G G (fun hg3=>by
      have hq3:=hg3;try simp only [o1,o2,o3,o4,o5,o6,o7,o8,o9,oa] at hq3
      exact sy hg3<|sf eS rfl<|sy hg3<|sf bH rfl<|sy hg3<|sl S 0 aD G G G<|sy hg3<|sf eS rfl<|sy hg3<|sf bG rfl<|sy hg3<|sl S 0 aD G G G<|sy hg3<|sc rfl Tryz.func87 G G (gW _ _ _ _)<|sy hg3<|sr 1 rfl<|sy hg3<|sr 1 rfl<|sg 4 11 120 124 false G G (fun hg12=>by
           have hq12:=hg12;try simp only [o1,o2,o3,o4,o5,o6,o7,o8,o9,oa] at hq12
           exact sy hg12<|sf eS rfl<|sy hg12<|sf bG rfl<|sy hg12<|sl S 0 aD G G G<|sy hg12<|sr 1 rfl<|sz 4 G G G)<|sy hg3<|so G G G<|sz 11 G G G)<|sa G G G<|sr 1 rfl<|sg 9 18 127 136 false G G (fun hg19=>by
      have hq19:=hg19;try simp only [o1,o2,o3,o4,o5,o6,o7,o8,o9,oa] at hq19
      exact sy hg19<|sf lZ rfl<|sy hg19<|sl S 0 iY G G G<|sy hg19<|sr 1 rfl<|sy hg19<|sr 1 rfl<|sg 4 22 131 135 true G G (fun hg23=>by
           have hq23:=hg23;try simp only [o1,o2,o3,o4,o5,o6,o7,o8,o9,oa] at hq23
           exact sy hg23<|sf eS rfl<|sy hg23<|sd ((aC bD aQ rfl S (i:=0) G G))<|sy hg23<|sd (aN dV G G)<|sy hg23<|sd (nI G G)<|sz 4 G G G)<|sy hg19<|sa G G G<|sz 6 G G G)<|so G G G<|sE ?_;clear H a;intro a H
  refine k27 _ ?_;clear k27 K27
  refine cond_ H rfl (fun hc7=>?_) (fun hc7=>?_)
  ·skip
   try simp only [o1,o2,o3,o4,o5,o6,o7,o8,o9,oa] at hc7
   replace H:=H.keep [] rfl
   refine sS H fun K28 k28=>sr 1 rfl<|sE ?_;clear H a;intro a H
   refine k28 _ ?_;clear k28 K28
   refine wp_ret ?_
   refine ret1 (fn:=Tryz.f54) rfl H rfl ?_
   refine ⟨?_,(S.sel [] rfl rfl)⟩;unfold cO;rw [if_pos hhd,if_pos hrt,if_pos (by omega)];unfold gD;rw [fX (k:=j) (by omega) (by unfold useOk;simp only [decide_eq_false_iff_not];generalize l.getD j Use.zero=u at hc6 hc7 ⊢;rintro ⟨_,_,_,_,hm⟩;cases hq:u.meas <;> simp [hq] at hc7 hm <;> omega)];rfl
  try simp only [o1,o2,o3,o4,o5,o6,o7,o8,o9,oa] at hc7
  refine wp_skip ?_
  refine k22 _ _ ?_
  refine sO H<|sr 1 rfl<|sd (aK G G (by unfold i64ok;omega))<|sr 1 rfl<|sE ?_;clear H a;intro a H
  exact k19 (g2-1) (j+1) a _ (by omega) (⟨by omega,by omega,by unfold gD;rw [jR (n:=0)];have h9:=hp.2.2;unfold gD at h9;rw [h9];simp only [Bool.true_and];unfold useOk;simp only [decide_eq_true_eq];rw [hpd] at hpn ⊢;generalize (l.getD (j-1) Use.zero).day=pd at hc6 hpn ⊢;generalize l.getD j Use.zero=u at hc6 hc7 ⊢;cases hq:u.meas <;> simp [hq] at hc7 ⊢ <;> omega⟩) (S.sel [1] G G) (H.keep [6,1,2] rfl)
 refine wp_exit ?_
 refine k17 _ _ ?_
 refine sS H fun K30 k30=>sr 1 rfl<|sE ?_;clear H a;intro a H
 refine k30 _ ?_;clear k30 K30
 refine wp_ret ?_
 refine ret1 (fn:=Tryz.f54) rfl H rfl ?_
 refine ⟨?_,(S.sel [] G G)⟩;have hj9:j=l.length:=by omega
 unfold cO;rw [if_pos hhd,if_pos hrt,if_pos (by omega)];rw [hj9] at hp;dsimp only;rw [if_pos hp.2.2]
theorem Ir (rates:List (Int×Int)) (pwn ptn pag:Int) (RA:Option Addr) (rcp:Nat) (s1 s2:Int) (u:Use) (w:World) (hr:InS w noF 2 RA rates.length (scell rates)) (hrn:rates.length≤9223372036854775807) (hcl:0≤u.cls∧u.cls<rates.length) (hg1:i64ok (dL (⟨rates,pwn,ptn,pag⟩:Part) u).1) (hg2:i64ok (dL (⟨rates,pwn,ptn,pag⟩:Part) u).2) (hg3:i64ok (s1+(dL (⟨rates,pwn,ptn,pag⟩:Part) u).1)) (hg4:i64ok (s2+(dL (⟨rates,pwn,ptn,pag⟩:Part) u).2)) :
    Calls Tryz.prog 115 [.agg [.slice RA rates.length rcp,.int .i64 pwn,.int .i64 ptn,.int .i64 pag].toArray,.agg [.int .i64 s1,.int .i64 s2].toArray,.agg [.int .i64 u.day,.int .i64 u.turns,.int .i64 u.cls,.bool u.meas,.int .i64 u.lo,.int .i64 u.hi].toArray].toArray w (Ret (fun v w'=>v = .agg [.int .i64 (fstep (⟨rates,pwn,ptn,pag⟩:Part) (s1,s2) u).1,.int .i64 (fstep (⟨rates,pwn,ptn,pag⟩:Part) (s1,s2) u).2].toArray∧St w noF [] w')):=by
 refine enter Tryz.func115 rfl Tryz.ntmps115 rfl (fun a H=>?_)
 have S:=St.start w
 refine seq_list fun K1 k1=>?_
 refine aO H rfl S G G ?_;clear H a S;intro b3 _ a hb3 hbw3 S H
 refine aO H rfl S G G ?_;clear H a S;intro b4 _ a hb4 hbw4 S H
 refine aO H rfl S G G ?_;clear H a S;intro b5 _ a hb5 hbw5 S H
 refine aI H rfl S cC ?_;clear H a S;intro b6 _ a hb6 hbw6 S H
 refine k1 _ _ ?_;clear k1 K1
 replace H:=H.keep [3,4,5,6] rfl
 refine seq_list fun K2 k2=>?_
 refine ls 6 H<|sf fJ rfl<|sl S 3 iD G G G<|sf oV rfl<|sl S 1 aD G G G<|sI dM aQ G G (hr.adr (by omega)) (by omega) (by omega)<|sd ((aW bD aQ rfl S hr (by omega) (by omega)))<|sE ?_;clear H a;intro a H
 refine aI H rfl S cC ?_;clear H a S;intro b7 _ a hb7 hbw7 S H
 refine aF H S (i:=0) G G G G aQ G G ?_
 clear H a S;intro _ a S H
 refine k2 _ _ ?_;clear k2 K2
 replace H:=H.keep [4,5,6,7] rfl
 refine seq_list fun K3 k3=>?_
 refine ls 17 H<|sf bH rfl<|sl S 3 aD G G G<|sf jN rfl<|sl S 2 aD G G G<|sf bH rfl<|sl S 0 aD G G G<|sd (iR G G (by exact hg1))<|sd (aK G G (by exact hg3))<|sf bG rfl<|sl S 3 aD G G G<|sf jN rfl<|sl S 2 aD G G G<|sf bG rfl<|sl S 0 aD G G G<|sd (iR G G (by exact hg2))<|sd (aK G G (by exact hg4))<|sd (aN dV G G)<|sE ?_;clear H a;intro a H
 refine aI H rfl S cC ?_;clear H a S;intro b8 _ a hb8 hbw8 S H
 refine aF H S (i:=0) G G G G aQ G G ?_
 clear H a S;intro _ a S H
 refine k3 _ _ ?_;clear k3 K3
 have SR:=(S.sel [1,2,3,4,5] G G)
 refine meet_sr (X:=Unit) [6,8] H rfl (fun x=>[]) (fun x=>[boxM b8 58 [.int .i64 (fstep (⟨rates,pwn,ptn,pag⟩:Part) (s1,s2) u).1,.int .i64 (fstep (⟨rates,pwn,ptn,pag⟩:Part) (s1,s2) u).2]]) (fun x=>True) SR (fun K5 k5=>?_) ?_
 ·skip
  replace H:=H.keep [5,6,8] rfl
  refine sS H fun K6 k6=>sf lZ rfl<|sl S 3 iY G G G<|sE ?_;clear H a;intro a H
  refine k6 _ ?_;clear k6 K6
  refine cond_ H rfl (fun hc1=>?_) (fun hc1=>?_)
  ·skip
   try simp only [o1,o2,o3,o4,o5,o6,o7,o8,o9,oa] at hc1
   replace H:=H.keep [5,6,8] rfl
   refine one_list ?_
   refine ls 13 H<|sf bH rfl<|sl S 0 aD G G G<|sf eS rfl<|sf bH rfl<|sl S 3 aD G G G<|sd (lK G G)<|sf bG rfl<|sl S 0 aD G G G<|sf eS rfl<|sf bG rfl<|sl S 3 aD G G G<|sd (sT G G)<|sd (aN dV G G)<|sE ?_;clear H a;intro a H
   refine aF H S (i:=0) G G G G aQ G G ?_
   clear H a S;intro _ a S H
   have e9:fstep (⟨rates,pwn,ptn,pag⟩:Part) (s1,s2) u=meetS (addS (s1,s2) (dL (⟨rates,pwn,ptn,pag⟩:Part) u)) (u.lo,u.hi):=by unfold fstep;rw [if_pos hc1]
   replace S:=boxM.same S (i:=0) (cs':=[.int .i64 (fstep (⟨rates,pwn,ptn,pag⟩:Part) (s1,s2) u).1,.int .i64 (fstep (⟨rates,pwn,ptn,pag⟩:Part) (s1,s2) u).2]) rfl (by rw [e9];rfl)
   exact k5 () a _ (trivial) (S.sel [0,1,2,3,4,5] G G) (H.keep [6,8] rfl)
  try simp only [o1,o2,o3,o4,o5,o6,o7,o8,o9,oa] at hc1
  refine wp_skip ?_
  have e9:fstep (⟨rates,pwn,ptn,pag⟩:Part) (s1,s2) u=addS (s1,s2) (dL (⟨rates,pwn,ptn,pag⟩:Part) u):=by unfold fstep;rw [if_neg (by rw [hc1];simp)]
  replace S:=boxM.same S (i:=0) (cs':=[.int .i64 (fstep (⟨rates,pwn,ptn,pag⟩:Part) (s1,s2) u).1,.int .i64 (fstep (⟨rates,pwn,ptn,pag⟩:Part) (s1,s2) u).2]) rfl (by rw [e9];rfl)
  exact k5 () a _ (trivial) (S.sel [0,1,2,3,4,5] G G) (H.keep [6,8] rfl)
 clear SR H S a
 intro xm a wm hp S H
 obtain ⟨x,rfl⟩:∃ y,y=xm:=⟨_,rfl⟩
 replace H:=H.keep [6,8] rfl
 refine seq_list fun K8 k8=>?_
 refine ls 1 H<|sd ((aC bD aQ rfl S (i:=0) G G))<|sE ?_;clear H a;intro a H
 refine aF H S (i:=2) G G G G aQ G G ?_
 clear H a S;intro _ a S H
 refine k8 _ _ ?_;clear k8 K8
 refine wp_ret ?_
 refine retA (fn:=Tryz.f115) rfl H rfl bD (by exact aQ) (dS S (i:=2) rfl) ?_
 exact ⟨rfl,(S.sel [] G G)⟩
theorem rJ (rates:List (Int×Int)) (pwn ptn pag:Int) (RA:Option Addr) (rcp:Nat) (l:List Use) (A:Option Addr) (cp:Nat) (w:World) (hr:InS w noF 2 RA rates.length (scell rates)) (hrn:rates.length≤9223372036854775807) (hl:InS w noF 6 A l.length (ucell l)) (hn:l.length≤9223372036854775807) (hok:PartOk (⟨rates,pwn,ptn,pag⟩:Part) l) :
    Calls Tryz.prog 88 [.agg [.slice RA rates.length rcp,.int .i64 pwn,.int .i64 ptn,.int .i64 pag].toArray,.slice A l.length cp].toArray w (Ret (FwdR w (⟨rates,pwn,ptn,pag⟩:Part) l)):=by
 refine enter Tryz.func88 rfl Tryz.ntmps88 rfl (fun a H=>?_)
 have S:=St.start w
 refine seq_list fun K1 k1=>?_
 refine aO H rfl S G G ?_;clear H a S;intro b2 _ a hb2 hbw2 S H
 refine ls 2 H<|sr 2 rfl<|sE ?_;clear H a;intro a H
 refine k1 _ _ ?_;clear k1 K1
 refine sS H fun K2 k2=>sr 1 rfl<|sE ?_;clear H a;intro a H
 refine k2 _ ?_;clear k2 K2
 refine seq_list fun K3 k3=>?_
 refine ls 1 H<|sd (aN dV G G)<|sE ?_;clear H a;intro a H
 refine aI H rfl S cC ?_;clear H a S;intro b7 _ a hb7 hbw7 S H
 refine aF H S (i:=0) G G G G aQ G G ?_
 clear H a S;intro _ a S H
 refine k3 _ _ ?_;clear k3 K3
 refine wp_seq_k fun K4 k4=>?_
 refine sS H fun K5 k5=>sr 1 rfl<|sE ?_;clear H a;intro a H
 refine k5 _ ?_;clear k5 K5
 refine wp_block ?_
 replace S:=S.newNil 58 2 (fcell (fun q=>fwd (⟨rates,pwn,ptn,pag⟩:Part) l (q+1)))
 refine loop_st (X:=Nat×Option Addr×Nat) (R0:=_) [1,2,7] H rfl (fun ⟨k,A',c'⟩=>[(6,.slice A' k c'),(8,.int .i64 (k:Int))]) (fun ⟨k,A',c'⟩=>[boxM b7 58 [.int .i64 (fwd (⟨rates,pwn,ptn,pag⟩:Part) l k).1,.int .i64 (fwd (⟨rates,pwn,ptn,pag⟩:Part) l k).2],ownM 58 2 A' k c' (fcell (fun q=>fwd (⟨rates,pwn,ptn,pag⟩:Part) l (q+1)))]) (fun g ⟨k,A',c'⟩=>k≤l.length∧g+k=l.length∧∀ q,q<k→fits (⟨rates,pwn,ptn,pag⟩:Part) l q) (l.length) (0,none,0) ?_ (S.sel [1,0,2] G G) (H.keep [6,8,1,2,7] rfl) ?_
 · exact ⟨by omega,by omega,fun q hq=>by omega⟩
 clear H S a
 intro g1 x1 a w1 hp S H K6 k6
 obtain ⟨k,A',c'⟩:=x1
 dsimp only at hp S H
 refine wp_seq_k fun K7 k7=>?_
 refine sS H fun K8 k8=>sr 2 rfl<|sL dJ rfl<|sr 1 rfl<|sE ?_;clear H a;intro a H
 refine k8 _ ?_;clear k8 K8
 refine condL H rfl (fun hc1=>?_) (fun hc1=>?_)
 ·skip
  refine wp_skip ?_
  refine k7 _ _ ?_
  refine wp_seq_k fun K9 k9=>?_
  refine wp_block ?_
  have hu:=hok.use (k:=k) (by omega);unfold useOk at hu;simp only [decide_eq_true_eq] at hu
  have hgb:=mF hok (k:=k) (by omega)
  have hcls:0≤(l.getD k Use.zero).cls∧(l.getD k Use.zero).cls<rates.length:=by
    have:((⟨rates,pwn,ptn,pag⟩:Part).rates.length:Int)=rates.length:=rfl
    omega
  have hll:=hok.len
  have hfb:=yK hok k (by omega)
  replace H:=H.keep [1,2,6,7,8] rfl
  refine lM 6 (by kernel_rfl) (by kernel_rfl) fun K10 k10=>?_
  replace S:=S.drew
  refine sF H<|sd ((aC fB hZ rfl S (i:=2) G G))<|sd ((aC bD aQ rfl S (i:=0) G G))<|sr 2 rfl<|si dJ cY G G (hl.adr (by omega)) (by omega)<|sd ((aW jW cY rfl S hl (by omega) (by omega)))<|sE ?_;clear H a;intro a H
  refine aA H G G Tryz.func115 G G (Ir rates pwn ptn pag RA rcp (fwd (⟨rates,pwn,ptn,pag⟩:Part) l k).1 (fwd (⟨rates,pwn,ptn,pag⟩:Part) l k).2 (l.getD k Use.zero) _ (hr.now S) hrn hcls (by unfold i64ok;omega) (by unfold i64ok;omega) (by unfold i64ok;omega) (by unfold i64ok;omega)) ?_;clear H a
  rintro _ _ a ⟨rfl,S2⟩ H
  replace S:=S.call S2;clear S2
  refine aF H S (i:=0) G G G G aQ G G ?_
  clear H a S;intro _ a S H
  refine k10 _ _ ?_;clear k10 K10
  refine wp_seq_k fun K11 k11=>?_
  replace H:=H.keep [1,2,6,7,8] rfl
  refine sS H fun K12 k12=>sf bH rfl<|sl S 0 aD G G G<|sf bG rfl<|sl S 0 aD G G G<|sr 1 rfl<|sE ?_;clear H a;intro a H
  refine k12 _ ?_;clear k12 K12
  refine condL H rfl (fun hc2=>?_) (fun hc2=>?_)
  ·skip
   replace hc2:(fwd (⟨rates,pwn,ptn,pag⟩:Part) l (k+1)).2<(fwd (⟨rates,pwn,ptn,pag⟩:Part) l (k+1)).1:=hc2
   refine sS H fun K13 k13=>sr 3 rfl<|sE ?_;clear H a;intro a H
   refine k13 _ ?_;clear k13 K13
   refine wp_ret ?_
   refine ret2 (fn:=Tryz.f88) rfl H G G ?_
   have e9:atN (⟨rates,pwn,ptn,pag⟩:Part) l=k:=yM ⟨by omega,hp.2.2,fun _ hf=>absurd ((Bc hok (by omega) hp.2.2).1 hf) (Int.not_le.2 hc2)⟩
   exact .inr ⟨by omega,by rw [e9],(S.sel [] G G)⟩
  replace hc2:(fwd (⟨rates,pwn,ptn,pag⟩:Part) l (k+1)).1≤(fwd (⟨rates,pwn,ptn,pag⟩:Part) l (k+1)).2:=hc2
  refine wp_skip ?_
  refine k11 _ _ ?_
  replace H:=H.keep [1,2,6,7,8] rfl
  refine one_list ?_
  refine ls 2 H<|sr 1 rfl<|sd ((aC bD aQ rfl S (i:=0) G G))<|sE ?_;clear H a;intro a H
  refine aZ H rfl S dM aQ cC G G G G G G G G G ?_;clear H a S;intro A1 _ a hA1 S H
  refine bW H rfl S dM aQ cC Lx G G (i:=2) G G G (ownM.inS S (i:=0) rfl) (jS (two G G)) (by omega) (by omega) ?_;clear H a S;intro A2 c2 _ a S H
  replace S:=S.recell (i:=2) rfl (cell':=fcell (fun q=>fwd (⟨rates,pwn,ptn,pag⟩:Part) l (q+1))) (uL (two G G))
  refine ls 1 H<|sr 1 rfl<|sE ?_;clear H a;intro a H
  refine k9 _ _ ?_
  refine sO H<|sr 1 rfl<|sd (aK G G (by unfold i64ok;omega))<|sr 1 rfl<|sE ?_;clear H a;intro a H
  exact k6 (g1-1) (k+1,_,_) a _ (by omega) (⟨by omega,by omega,fun q hq=>by
    by_cases h:q=k
    · subst h;exact (Bc hok (by omega) hp.2.2).2 hc2
    · exact hp.2.2 q (by omega)⟩) (S.sel [1,2,3] G G) (H.keep [6,8,1,2,7] rfl)
 refine wp_exit ?_
 refine k4 _ _ ?_
 replace H:=H.keep [6] rfl
 refine sS H fun K16 k16=>sr 3 rfl<|sE ?_;clear H a;intro a H
 refine k16 _ ?_;clear k16 K16
 refine wp_ret ?_
 refine ret2 (fn:=Tryz.f88) rfl H G G ?_
 have hk9:k=l.length:=by omega
 subst hk9
 exact .inl ⟨yM ⟨Nat.le_refl _,hp.2.2,fun h=>absurd h (Nat.lt_irrefl _)⟩,A',c',rfl,(S.sel [1] G G)⟩
end
section
theorem nX (rates:List (Int×Int)) (pwn ptn pag:Int) (RA:Option Addr) (rcp:Nat) (l:List Use) (A:Option Addr) (cp:Nat) (w:World) (hr:InS w noF 2 RA rates.length (scell rates)) (hrn:rates.length≤9223372036854775807) (hl:InS w noF 6 A l.length (ucell l)) (hn:l.length≤9223372036854775807) :
    Calls Tryz.prog 102 [.agg [.slice RA rates.length rcp,.int .i64 pwn,.int .i64 ptn,.int .i64 pag].toArray,.slice A l.length cp].toArray w (Ret (WearR w (⟨rates,pwn,ptn,pag⟩:Part) l)):=by
 refine enter Tryz.func102 rfl Tryz.ntmps102 rfl (fun a H=>?_)
 have S:=St.start w
 refine seq_list fun K1 k1=>?_
 refine aO H rfl S G G ?_;clear H a S;intro b2 _ a hb2 hbw2 S H
 refine ls 2 H<|sr 2 rfl<|sE ?_;clear H a;intro a H
 refine k1 _ _ ?_;clear k1 K1
 refine wp_seq_k fun K2 k2=>?_
 refine seq_list fun K3 k3=>?_
 refine ls 2 H<|sd ((aC fB hZ rfl S (i:=0) G G))<|sr 1 rfl<|sE ?_;clear H a;intro a H
 refine aA H G G Tryz.func120 G G (rQ rates pwn ptn pag RA rcp l A cp _ (hr.now S) hrn (hl.now S) hn) ?_;clear H a
 rintro _ _ a ⟨rfl,S2⟩ H
 replace S:=S.call S2;clear S2
 refine ls 1 H<|sr 1 rfl<|sE ?_;clear H a;intro a H
 refine k3 _ _ ?_;clear k3 K3
 refine sS H fun K4 k4=>sr 2 rfl<|sE ?_;clear H a;intro a H
 refine k4 _ ?_;clear k4 K4
 refine condN H rfl (fun hc1=>?_) (fun hc1=>?_)
 ·skip
  replace H:=H.keep [6] rfl
  refine sS H fun K5 k5=>sr 3 rfl<|sE ?_;clear H a;intro a H
  refine k5 _ ?_;clear k5 K5
  refine wp_ret ?_
  refine ret2 (fn:=Tryz.f102) rfl H G G ?_
  have e9:=Ip (p:=(⟨rates,pwn,ptn,pag⟩:Part)) (l:=l) (by omega)
  exact .inr ⟨by omega,by rw [e9],(S.sel [] G G)⟩
 refine wp_skip ?_
 refine k2 _ _ ?_
 have h0:cO (⟨rates,pwn,ptn,pag⟩:Part) l=0:=by omega
 have hok:=mZ h0
 by_cases hA:IsAt (⟨rates,pwn,ptn,pag⟩:Part) l l.length
 ·skip
  replace H:=H.keep [1,2] rfl
  refine seq_list fun K6 k6=>?_
  refine ls 2 H<|sd ((aC fB hZ rfl S (i:=0) G G))<|sr 1 rfl<|sE ?_;clear H a;intro a H
  refine aA H G G Tryz.func121 G G (eD (uN rates pwn ptn pag RA rcp l A cp _ (hr.now S) hrn (hl.now S) hn hok) (fun _ _=>Nt hA)) ?_;clear H a
  rintro _ _ a ⟨A',c',rfl,S2⟩ H
  replace S:=S.call S2;clear S2
  refine ls 5 H<|sr 5 rfl<|sE ?_;clear H a;intro a H
  refine k6 _ _ ?_;clear k6 K6
  refine wp_seq_k fun K7 k7=>?_
  replace H:=H.keep [7,8] rfl
  refine sS H fun K8 k8=>sr 2 rfl<|sE ?_;clear H a;intro a H
  refine k8 _ ?_;clear k8 K8
  refine cond_ H rfl (fun hc2=>?_) (fun hc2=>?_)
  ·skip
   skip
   cases hc2
  skip
  refine wp_skip ?_
  refine k7 _ _ ?_
  refine sS H fun K9 k9=>sr 3 rfl<|sE ?_;clear H a;intro a H
  refine k9 _ ?_;clear k9 K9
  refine wp_ret ?_
  refine ret2 (fn:=Tryz.f102) rfl H G G ?_
  exact .inl ⟨Bd h0 hA,A',c',rfl,(S.sel [0] G G)⟩
 replace H:=H.keep [1,2] rfl
 refine seq_list fun K10 k10=>?_
 refine ls 2 H<|sd ((aC fB hZ rfl S (i:=0) G G))<|sr 1 rfl<|sE ?_;clear H a;intro a H
 refine aA H G G Tryz.func121 G G (eD (uN rates pwn ptn pag RA rcp l A cp _ (hr.now S) hrn (hl.now S) hn hok) (fun _ _=>Si hA)) ?_;clear H a
 rintro _ _ a ⟨rfl,S2⟩ H
 replace S:=S.call S2;clear S2
 refine ls 5 H<|sr 5 rfl<|sE ?_;clear H a;intro a H
 refine k10 _ _ ?_;clear k10 K10
 refine wp_seq_k fun K11 k11=>?_
 replace H:=H.keep [7,8] rfl
 refine sS H fun K12 k12=>sr 2 rfl<|sE ?_;clear H a;intro a H
 refine k12 _ ?_;clear k12 K12
 refine cond_ H rfl (fun hc3=>?_) (fun hc3=>?_)
 ·skip
  skip
  refine sS H fun K13 k13=>sr 2 rfl<|sE ?_;clear H a;intro a H
  refine k13 _ ?_;clear k13 K13
  refine wp_ret ?_
  refine ret2 (fn:=Tryz.f102) rfl H G G ?_
  have e9:=Eb h0 hA
  exact .inr ⟨by omega,by rw [e9],(S.sel [] G G)⟩
 skip
 cases hc3
theorem Be (rates:List (Int×Int)) (pwn ptn pag:Int) (RA:Option Addr) (rcp:Nat) (l:List Use) (A:Option Addr) (cp:Nat) (w:World) (hr:InS w noF 2 RA rates.length (scell rates)) (hrn:rates.length≤9223372036854775807) (hl:InS w noF 6 A l.length (ucell l)) (hn:l.length≤9223372036854775807) :
    Calls Tryz.prog 55 [.agg [.slice RA rates.length rcp,.int .i64 pwn,.int .i64 ptn,.int .i64 pag].toArray,.slice A l.length cp].toArray w (Ret (fun v w'=>v = .tuple #[.int .i64 (refO (⟨rates,pwn,ptn,pag⟩:Part) l).1,.bool (refO (⟨rates,pwn,ptn,pag⟩:Part) l).2.1,.int .i64 (refO (⟨rates,pwn,ptn,pag⟩:Part) l).2.2]∧St w noF [] w')):=by
 refine enter Tryz.func55 rfl Tryz.ntmps55 rfl (fun a H=>?_)
 have S:=St.start w
 refine seq_list fun K1 k1=>?_
 refine aO H rfl S G G ?_;clear H a S;intro b2 _ a hb2 hbw2 S H
 refine ls 3 H<|sr 3 rfl<|sE ?_;clear H a;intro a H
 refine k1 _ _ ?_;clear k1 K1
 refine seq_list fun K2 k2=>?_
 refine ls 2 H<|sd ((aC fB hZ rfl S (i:=0) G G))<|sr 1 rfl<|sE ?_;clear H a;intro a H
 refine aA H G G Tryz.func54 G G (nJ rates pwn ptn pag RA rcp l A cp _ (hr.now S) hrn (hl.now S) hn) ?_;clear H a
 rintro _ _ a ⟨rfl,S2⟩ H
 replace S:=S.call S2;clear S2
 refine ls 1 H<|sr 1 rfl<|sE ?_;clear H a;intro a H
 refine k2 _ _ ?_;clear k2 K2
 refine wp_seq_k fun K3 k3=>?_
 replace H:=H.keep [1,2,7] rfl
 refine sS H fun K4 k4=>sr 2 rfl<|sE ?_;clear H a;intro a H
 refine k4 _ ?_;clear k4 K4
 refine condN H rfl (fun hc1=>?_) (fun hc1=>?_)
 ·skip
  refine sS H fun K5 k5=>sr 4 rfl<|sE ?_;clear H a;intro a H
  refine k5 _ ?_;clear k5 K5
  refine wp_ret ?_
  refine ret3 (fn:=Tryz.f55) rfl H G G G ?_
  unfold refO;rw [if_pos (by omega)];exact ⟨rfl,(S.sel [] G G)⟩
 refine wp_skip ?_
 refine k3 _ _ ?_
 have h0:cO (⟨rates,pwn,ptn,pag⟩:Part) l=0:=by omega
 have hok:=mZ h0
 rcases (show atN (⟨rates,pwn,ptn,pag⟩:Part) l=l.length∨atN (⟨rates,pwn,ptn,pag⟩:Part) l<l.length from by have:=(yL (⟨rates,pwn,ptn,pag⟩:Part) l).le;omega) with hA|hA
 ·skip
  replace H:=H.keep [1,2] rfl
  refine seq_list fun K6 k6=>?_
  refine ls 2 H<|sd ((aC fB hZ rfl S (i:=0) G G))<|sr 1 rfl<|sE ?_;clear H a;intro a H
  refine aA H G G Tryz.func88 G G (eD (rJ rates pwn ptn pag RA rcp l A cp _ (hr.now S) hrn (hl.now S) hn hok) (fun _ _=>Nu hA)) ?_;clear H a
  rintro _ _ a ⟨A',c',rfl,S2⟩ H
  replace S:=S.call S2;clear S2
  refine ls 5 H<|sr 5 rfl<|sE ?_;clear H a;intro a H
  refine k6 _ _ ?_;clear k6 K6
  replace H:=H.keep [9] rfl
  refine sS H fun K7 k7=>sr 1 rfl<|sd (lK G G)<|sr 5 rfl<|sE ?_;clear H a;intro a H
  refine k7 _ ?_;clear k7 K7
  refine wp_ret ?_
  refine ret3 (fn:=Tryz.f55) rfl H G G G ?_
  unfold refO;rw [if_neg (by omega),if_neg (by omega)];exact ⟨rfl,(S.sel [] G G)⟩
 replace H:=H.keep [1,2] rfl
 refine seq_list fun K8 k8=>?_
 refine ls 2 H<|sd ((aC fB hZ rfl S (i:=0) G G))<|sr 1 rfl<|sE ?_;clear H a;intro a H
 refine aA H G G Tryz.func88 G G (eD (rJ rates pwn ptn pag RA rcp l A cp _ (hr.now S) hrn (hl.now S) hn hok) (fun _ _=>Sk hA)) ?_;clear H a
 rintro _ _ a ⟨rfl,S2⟩ H
 replace S:=S.call S2;clear S2
 refine ls 5 H<|sr 5 rfl<|sE ?_;clear H a;intro a H
 refine k8 _ _ ?_;clear k8 K8
 replace H:=H.keep [9] rfl
 refine sS H fun K9 k9=>sr 1 rfl<|sd (lK G G)<|sr 5 rfl<|sE ?_;clear H a;intro a H
 refine k9 _ ?_;clear k9 K9
 refine wp_ret ?_
 refine ret3 (fn:=Tryz.f55) rfl H G G G ?_
 unfold refO;rw [if_neg (by omega),if_pos hA];refine ⟨?_,(S.sel [] G G)⟩
 have e1:max 0 ((atN (⟨rates,pwn,ptn,pag⟩:Part) l:Nat):Int)=atN (⟨rates,pwn,ptn,pag⟩:Part) l:=by omega
 rw [e1];rw [decide_eq_true (show (0:Int)≤(atN (⟨rates,pwn,ptn,pag⟩:Part) l:Int) by omega)]
theorem uO (a b:Int) (w:World) :
    Calls Tryz.prog 131 [.agg [.int .i64 a,.int .i64 b].toArray].toArray w (Ret (fun v w'=>v = .int .i64 (Prod.snd (a,b))∧St w noF [] w')):=by
 refine enter Tryz.func131 rfl Tryz.ntmps131 rfl (fun a H=>?_)
 have S:=St.start w
 refine seq_list fun K1 k1=>?_
 refine aO H rfl S G G ?_;clear H a S;intro b1 _ a hb1 hbw1 S H
 refine ls 1 H<|sr 1 rfl<|sE ?_;clear H a;intro a H
 refine k1 _ _ ?_;clear k1 K1
 refine sS H fun K2 k2=>sf bG rfl<|sl S 0 aD G G G<|sr 1 rfl<|sE ?_;clear H a;intro a H
 refine k2 _ ?_;clear k2 K2
 refine wp_ret ?_
 refine ret1 (fn:=Tryz.f131) rfl H rfl ?_
 exact ⟨rfl,(S.sel [] G G)⟩
theorem uP {P:Program} {w:World} {L:List (Nat×Value)} {ty:TypeId} {pos:String} {af:Array Edge} {dd:Option Nat} {g:Option (Nat×Bool)} {x y:Operand} {xt yt:TypeId} {m n:Int} (hx:ev L x=some (.int .i64 m)) (hy:ev L y=some (.int .i64 n)) (h:n<m):Does P L ⟨dd,.binOp .gtr xt x y yt,ty,pos,af,g⟩ w (.bool true):=by
  have h1:=bV (P:=P) (d:=dd) (w:=w) (ty:=ty) (pos:=pos) (af:=af) (g:=g) (xt:=xt) (yt:=yt) hx hy
  rw [decide_eq_true h] at h1
  exact h1
theorem nY {P:Program} {w:World} {L:List (Nat×Value)} {ty:TypeId} {pos:String} {af:Array Edge} {dd:Option Nat} {g:Option (Nat×Bool)} {x y:Operand} {xt yt:TypeId} {m n:Int} (hx:ev L x=some (.int .i64 m)) (hy:ev L y=some (.int .i64 n)) (h:¬ n<m):Does P L ⟨dd,.binOp .gtr xt x y yt,ty,pos,af,g⟩ w (.bool false):=by
  have h1:=bV (P:=P) (d:=dd) (w:=w) (ty:=ty) (pos:=pos) (af:=af) (g:=g) (xt:=xt) (yt:=yt) hx hy
  rw [decide_eq_false h] at h1
  exact h1
theorem Bf (rates : List (Int × Int)) (pwn ptn pag : Int) (RA : Option Addr) (rcp : Nat) (l : List Use) (A : Option Addr) (cp : Nat) (f : Nat) (fn : Func) (e : Int × Int → Int) (w : World) (hr : InS w noF 2 RA rates.length (scell rates)) (hrn : rates.length ≤ 9223372036854775807) (hl : InS w noF 6 A l.length (ucell l)) (hn : l.length ≤ 9223372036854775807) (hf : Tryz.prog.funcs[f]? = some fn) (hfb : fn.body.isNone = false) (hfn : (fn.name == "runtime.NumGoroutine") = false) (hcall : ∀ (a b : Int) (w' : World), Calls Tryz.prog f [.agg [.int .i64 a, .int .i64 b].toArray].toArray w' (Ret fun v w'' => v = .int .i64 (e (a, b)) ∧ St w' noF [] w'')) :
    Calls Tryz.prog 130 [.agg [.slice RA rates.length rcp,.int .i64 pwn,.int .i64 ptn,.int .i64 pag].toArray,.slice A l.length cp,.func (.func f) [].toArray [].toArray].toArray w (Ret (fun v w'=>v = .tuple #[.int .i64 (fM (⟨rates,pwn,ptn,pag⟩:Part) l e).1,.int .i64 (fM (⟨rates,pwn,ptn,pag⟩:Part) l e).2]∧St w noF [] w')):=by
 refine enter Tryz.func130 rfl Tryz.ntmps130 rfl (fun a H=>?_)
 have S:=St.start w
 refine seq_list fun K1 k1=>?_
 refine aO H rfl S G G ?_;clear H a S;intro b3 _ a hb3 hbw3 S H
 refine ls 2 H<|sr 2 rfl<|sE ?_;clear H a;intro a H
 refine k1 _ _ ?_;clear k1 K1
 by_cases hA:wearE (⟨rates,pwn,ptn,pag⟩:Part) l=0
 ·skip
  have h0:=lH hA;have hok:=mZ h0.1
  have hh:=hok.hdr;unfold iO at hh;simp only [decide_eq_true_eq] at hh;have hll:=hok.len
  replace H:=H.keep [1,2,3] rfl
  refine seq_list fun K2 k2=>?_
  refine ls 2 H<|sd ((aC fB hZ rfl S (i:=0) G G))<|sr 1 rfl<|sE ?_;clear H a;intro a H
  refine aA H G G Tryz.func102 G G (eD (nX rates pwn ptn pag RA rcp l A cp _ (hr.now S) hrn (hl.now S) hn) (fun _ _=>Iq hA)) ?_;clear H a
  rintro _ _ a ⟨A',c',rfl,S2⟩ H
  replace S:=S.call S2;clear S2
  refine ls 5 H<|sr 5 rfl<|sE ?_;clear H a;intro a H
  refine k2 _ _ ?_;clear k2 K2
  refine wp_seq_k fun K3 k3=>?_
  replace H:=H.keep [1,2,3,8,9] rfl
  refine sS H fun K4 k4=>sr 2 rfl<|sE ?_;clear H a;intro a H
  refine k4 _ ?_;clear k4 K4
  refine condN H rfl (fun hc1=>?_) (fun hc1=>?_)
  ·skip
   all_goals first|(exfalso;omega)|(simp at hc1)
  refine wp_skip ?_
  refine k3 _ _ ?_
  refine sS H fun K5 k5=>sr 1 rfl<|sE ?_;clear H a;intro a H
  refine k5 _ ?_;clear k5 K5
  refine wp_seq_k fun K6 k6=>?_
  refine sS H fun K7 k7=>sr 1 rfl<|sL dJ rfl<|sr 1 rfl<|sE ?_;clear H a;intro a H
  refine k7 _ ?_;clear k7 K7
  refine wp_block ?_
  refine loop_st (X:=Nat) (R0:=_) [2,3,8,22,23] H rfl (fun k=>[(10,.int .i64 (sumT l k)),(24,.int .i64 (k:Int))]) (fun k=>[]) (fun g k=>k≤l.length∧g+k=l.length∧∀ q,q<k→(fun k=>wornB (⟨rates,pwn,ptn,pag⟩:Part) l k (e (cE (⟨rates,pwn,ptn,pag⟩:Part) l k))) q=false) (l.length) 0 ?_ (S.sel [0,1] G G) (H.keep [10,24,2,3,8,22,23] rfl) ?_
  · exact ⟨by omega,by omega,fun q hq=>absurd hq (Nat.not_lt_zero _)⟩
  clear H S a
  intro g1 x1 a w1 hp S H K8 k8
  obtain ⟨k,rfl⟩:∃ y,y=x1:=⟨_,rfl⟩
  refine sS H fun K9 k9=>sr 1 rfl<|sE ?_;clear H a;intro a H
  refine k9 _ ?_;clear k9 K9
  refine wp_seq_k fun K10 k10=>?_
  refine condL H rfl (fun hc2=>?_) (fun hc2=>?_)
  ·skip
   refine wp_skip ?_
   refine k10 _ _ ?_
   refine wp_seq_k fun K11 k11=>?_
   refine wp_block ?_
   refine seq_list fun K12 k12=>?_
   refine ls 3 H<|sr 1 rfl<|si dJ cY G G (hl.adr (by omega)) (by omega)<|sd ((aW jW cY rfl S hl (by omega) (by omega)))<|sE ?_;clear H a;intro a H
   refine aI H rfl S kI ?_;clear H a S;intro b12 _ a hb12 hbw12 S H
   refine ls 1 H<|sr 1 rfl<|sE ?_;clear H a;intro a H
   refine aF H S (i:=0) G G G G cY G G ?_
   clear H a S;intro _ a S H
   refine k12 _ _ ?_;clear k12 K12
   have hsb:=Sh hok k (by omega)
   have hu:=hok.use (k:=k) (by omega);unfold useOk at hu;simp only [decide_eq_true_eq] at hu
   replace H:=H.keep [2,3,8,10,11,12,22,23,24] rfl
   refine sS H fun K13 k13=>sr 1 rfl<|sf jN rfl<|sl S 0 aD G G G<|sd (aK G G (by unfold i64ok;omega))<|sr 1 rfl<|sE ?_;clear H a;intro a H
   refine k13 _ ?_;clear k13 K13
   rcases (show ptn<sumT l (k+1)∨(¬ ptn<sumT l (k+1)∧pag<(l.getD k Use.zero).day)∨(¬ ptn<sumT l (k+1)∧¬ pag<(l.getD k Use.zero).day) from by omega) with hB|hB|hB
   ·skip
    replace H:=H.keep [2,3,8,10,11,12,22,23,24] rfl
    replace S:=S.drew
    refine seq_wq [(0,true),(1,true),(2,true),(3,true),(4,true),(5,true),(6,true),(7,true),(8,true),(9,true),(10,true),(11,true),(12,true),(13,true),(14,true),(15,true),(16,true),(17,true),(18,true),(19,true),(20,true),(21,true),(22,true)] (by kernel_rfl) (by kernel_rfl) (S.sel [0,1,2] G G) fun K14 k14=>?_
    refine qF H<|qr 1 rfl<|qd rfl (fun _ S=>(aB oR rfl))<|qd rfl (fun _ S=>aE aD rfl (boxM.rd S (i:=2) G G))<|qd rfl (fun _ S=>uP G G hB)<|qr 1 rfl<|qK ?_;clear H a;intro a H
    refine aJ H G G G G G ?_;clear H a;intro a H
    refine aJ H G G G G G ?_;clear H a;intro a H
    refine aJ H G G G G G ?_;clear H a;intro a H
    refine aJ H G G G G G ?_;clear H a;intro a H
    refine aJ H G G G G G ?_;clear H a;intro a H
    refine qF H<|qd rfl (fun _ S=>(aR G G G))<|qr 1 rfl<|qK ?_;clear H a;intro a H
    refine aJ H G G G G G ?_;clear H a;intro a H
    refine aJ H G G G G G ?_;clear H a;intro a H
    refine aJ H G G G G G ?_;clear H a;intro a H
    refine aJ H G G G G G ?_;clear H a;intro a H
    refine aJ H G G G G G ?_;clear H a;intro a H
    refine aJ H G G G G G ?_;clear H a;intro a H
    refine aJ H G G G G G ?_;clear H a;intro a H
    refine aJ H G G G G G ?_;clear H a;intro a H
    refine aJ H G G G G G ?_;clear H a;intro a H
    refine aJ H G G G G G ?_;clear H a;intro a H
    refine qF H<|qd rfl (fun _ S=>(aR G G G))<|qK ?_;clear H a;intro a H
    refine bF ?_
    refine k14 _ _ ?_
    clear k14 K14
    refine cond_ H rfl (fun hc3=>?_) (fun hc3=>?_)
    ·skip
     skip
     replace H:=H.keep [11] rfl
     refine sS H fun K15 k15=>sr 3 rfl<|sE ?_;clear H a;intro a H
     refine k15 _ ?_;clear k15 K15
     refine wp_ret ?_
     refine ret2 (fn:=Tryz.f130) rfl H G G ?_
     have e9:mG (fun k=>wornB (⟨rates,pwn,ptn,pag⟩:Part) l k (e (cE (⟨rates,pwn,ptn,pag⟩:Part) l k))) l.length=k:=qQ (by omega) (by show wornB _ _ _ _=true;unfold wornB;rw [decide_eq_true hB];simp) hp.2.2
     unfold fM;rw [if_neg (by omega),e9];exact ⟨rfl,(S.sel [] G G)⟩
    skip
    cases hc3
   ·skip
    replace H:=H.keep [2,3,8,10,11,12,22,23,24] rfl
    replace S:=S.drew
    refine seq_wq [(0,true),(1,true),(2,true),(3,true),(4,true),(5,true),(6,true),(7,true),(8,true),(9,true),(10,true),(11,true),(12,true),(13,true),(14,true),(15,true),(16,true),(17,true),(18,true),(19,true),(20,true),(21,true),(22,true)] (by kernel_rfl) (by kernel_rfl) (S.sel [0,1,2] G G) fun K16 k16=>?_
    refine qF H<|qr 1 rfl<|qd rfl (fun _ S=>(aB oR rfl))<|qd rfl (fun _ S=>aE aD rfl (boxM.rd S (i:=2) G G))<|qd rfl (fun _ S=>nY G G hB.1)<|qr 1 rfl<|qK ?_;clear H a;intro a H
    refine aG H G G G G (fun _ S=>(aB gS rfl)) ?_;clear H a;intro a H
    refine aG H G G G G (fun _ S=>aE aD rfl (boxM.rd S (i:=0) G G)) ?_;clear H a;intro a H
    refine aG H G G G G (fun _ S=>(aB rX rfl)) ?_;clear H a;intro a H
    refine aG H G G G G (fun _ S=>aE aD rfl (boxM.rd S (i:=2) G G)) ?_;clear H a;intro a H
    refine aG H G G G G (fun _ S=>uP G G hB.2) ?_;clear H a;intro a H
    refine qF H<|qd rfl (fun _ S=>(aY G G G))<|qr 1 rfl<|qK ?_;clear H a;intro a H
    refine aJ H G G G G G ?_;clear H a;intro a H
    refine aJ H G G G G G ?_;clear H a;intro a H
    refine aJ H G G G G G ?_;clear H a;intro a H
    refine aJ H G G G G G ?_;clear H a;intro a H
    refine aJ H G G G G G ?_;clear H a;intro a H
    refine aJ H G G G G G ?_;clear H a;intro a H
    refine aJ H G G G G G ?_;clear H a;intro a H
    refine aJ H G G G G G ?_;clear H a;intro a H
    refine aJ H G G G G G ?_;clear H a;intro a H
    refine aJ H G G G G G ?_;clear H a;intro a H
    refine qF H<|qd rfl (fun _ S=>(aR G G G))<|qK ?_;clear H a;intro a H
    refine bF ?_
    refine k16 _ _ ?_
    clear k16 K16
    refine cond_ H rfl (fun hc4=>?_) (fun hc4=>?_)
    ·skip
     skip
     replace H:=H.keep [11] rfl
     refine sS H fun K17 k17=>sr 3 rfl<|sE ?_;clear H a;intro a H
     refine k17 _ ?_;clear k17 K17
     refine wp_ret ?_
     refine ret2 (fn:=Tryz.f130) rfl H G G ?_
     have e9:mG (fun k=>wornB (⟨rates,pwn,ptn,pag⟩:Part) l k (e (cE (⟨rates,pwn,ptn,pag⟩:Part) l k))) l.length=k:=qQ (by omega) (by show wornB _ _ _ _=true;unfold wornB;rw [decide_eq_true hB.2];simp) hp.2.2
     unfold fM;rw [if_neg (by omega),e9];exact ⟨rfl,(S.sel [] G G)⟩
    skip
    cases hc4
   replace H:=H.keep [2,3,8,10,11,12,22,23,24] rfl
   replace S:=S.drew
   refine seq_wq [(0,true),(1,true),(2,true),(3,true),(4,true),(5,true),(6,true),(7,true),(8,true),(9,true),(10,true),(11,true),(12,true),(13,true),(14,true),(15,true),(16,true),(18,true),(19,true),(20,true),(17,false),(21,true),(22,true)] (by kernel_rfl) (by kernel_rfl) (S.sel [0,1,2] G G) fun K18 k18=>?_
   refine qF H<|qr 1 rfl<|qd rfl (fun _ S=>(aB oR rfl))<|qd rfl (fun _ S=>aE aD rfl (boxM.rd S (i:=2) G G))<|qd rfl (fun _ S=>nY G G hB.1)<|qr 1 rfl<|qK ?_;clear H a;intro a H
   refine aG H G G G G (fun _ S=>(aB gS rfl)) ?_;clear H a;intro a H
   refine aG H G G G G (fun _ S=>aE aD rfl (boxM.rd S (i:=0) G G)) ?_;clear H a;intro a H
   refine aG H G G G G (fun _ S=>(aB rX rfl)) ?_;clear H a;intro a H
   refine aG H G G G G (fun _ S=>aE aD rfl (boxM.rd S (i:=2) G G)) ?_;clear H a;intro a H
   refine aG H G G G G (fun _ S=>nY G G hB.2) ?_;clear H a;intro a H
   refine qF H<|qd rfl (fun _ S=>(aY G G G))<|qr 1 rfl<|qK ?_;clear H a;intro a H
   refine aG H G G G G (fun _ S=>aL rfl) ?_;clear H a;intro a H
   refine aG H G G G G (fun _ S=>aL rfl) ?_;clear H a;intro a H
   refine aG H G G G G (fun _ S=>aL rfl) ?_;clear H a;intro a H
   refine aG H G G G G (fun _ S=>bC dM aQ G G (ownM.adr S (i:=1) rfl (by omega)) (by omega)) ?_;clear H a;intro a H
   refine aG H G G G G (fun _ S=>(oK bD aQ rfl S (i:=1) rfl (by omega) (by omega))) ?_;clear H a;intro a H
   refine aG H G G G G (fun _ S=>(aB xU rfl)) ?_;clear H a;intro a H
   refine aG H G G G G (fun _ S=>aE aD rfl (boxM.rd S (i:=2) G G)) ?_;clear H a;intro a H
   refine aG H G G G G (fun _ S=>iR G G (by unfold i64ok;omega)) ?_;clear H a;intro a H
   refine aS rfl ?_
   refine aX H G G ?_
   refine nL (fs:=[]) (cs:=[]) (vs:=[.agg [.int .i64 (cE (⟨rates,pwn,ptn,pag⟩:Part) l k).1,.int .i64 (cE (⟨rates,pwn,ptn,pag⟩:Part) l k).2].toArray]) H G G G (hf) (hfb) (hfn) (by exact hcall (cE (⟨rates,pwn,ptn,pag⟩:Part) l k).1 (cE (⟨rates,pwn,ptn,pag⟩:Part) l k).2 _) ?_;clear H a
   rintro _ _ a ⟨rfl,S2⟩ H
   replace S:=S.call S2;clear S2
   refine wpList_nil (And.intro (S.sel [0,1,2] G G) ?_)
   refine aG H G G G G (fun _ S=>bV G G) ?_;clear H a;intro a H
   refine qF H<|qd rfl (fun _ S=>(aY G G G))<|qK ?_;clear H a;intro a H
   refine bF ?_
   refine k18 _ _ ?_
   clear k18 K18
   refine cond_ H rfl (fun hc5=>?_) (fun hc5=>?_)
   ·skip
    skip
    replace H:=H.keep [11] rfl
    refine sS H fun K19 k19=>sr 3 rfl<|sE ?_;clear H a;intro a H
    refine k19 _ ?_;clear k19 K19
    refine wp_ret ?_
    refine ret2 (fn:=Tryz.f130) rfl H G G ?_
    have e9:mG (fun k=>wornB (⟨rates,pwn,ptn,pag⟩:Part) l k (e (cE (⟨rates,pwn,ptn,pag⟩:Part) l k))) l.length=k:=qQ (by omega) (by show wornB _ _ _ _=true;unfold wornB;rw [decide_eq_false hB.1,decide_eq_false hB.2];exact hc5) hp.2.2
    unfold fM;rw [if_neg (by omega),e9];exact ⟨rfl,(S.sel [] G G)⟩
   skip
   refine wp_skip ?_
   refine k11 _ _ ?_
   refine sO H<|sd (aK G G (by unfold i64ok;omega))<|sr 1 rfl<|sE ?_;clear H a;intro a H
   exact k8 (g1-1) (k+1) a _ (by omega) (⟨by omega,by omega,fun q hq=>by
     by_cases h:q=k
     · subst h;show wornB _ _ _ _=false;unfold wornB;rw [decide_eq_false hB.1,decide_eq_false hB.2];exact hc5
     · exact hp.2.2 q (by omega)⟩) (S.sel [1,2] G G) (H.keep [10,24,2,3,8,22,23] rfl)
  refine wp_exit ?_
  refine k6 _ _ ?_
  refine sS H fun K21 k21=>sr 2 rfl<|sE ?_;clear H a;intro a H
  refine k21 _ ?_;clear k21 K21
  refine wp_ret ?_
  refine ret2 (fn:=Tryz.f130) rfl H G G ?_
  have hk9:k=l.length:=by omega
  subst hk9
  unfold fM;rw [if_neg (by omega),Bb hp.2.2];exact ⟨rfl,(S.sel [] G G)⟩
 skip
 replace H:=H.keep [1,2,3] rfl
 refine seq_list fun K22 k22=>?_
 refine ls 2 H<|sd ((aC fB hZ rfl S (i:=0) G G))<|sr 1 rfl<|sE ?_;clear H a;intro a H
 refine aA H G G Tryz.func102 G G (eD (nX rates pwn ptn pag RA rcp l A cp _ (hr.now S) hrn (hl.now S) hn) (fun _ _=>Nv hA)) ?_;clear H a
 rintro _ _ a ⟨rfl,S2⟩ H
 replace S:=S.call S2;clear S2
 refine ls 5 H<|sr 5 rfl<|sE ?_;clear H a;intro a H
 refine k22 _ _ ?_;clear k22 K22
 refine wp_seq_k fun K23 k23=>?_
 replace H:=H.keep [1,2,3,8,9] rfl
 refine sS H fun K24 k24=>sr 2 rfl<|sE ?_;clear H a;intro a H
 refine k24 _ ?_;clear k24 K24
 refine condN H rfl (fun hc6=>?_) (fun hc6=>?_)
 ·skip
  refine sS H fun K25 k25=>sr 3 rfl<|sE ?_;clear H a;intro a H
  refine k25 _ ?_;clear k25 K25
  refine wp_ret ?_
  refine ret2 (fn:=Tryz.f130) rfl H G G ?_
  unfold fM;rw [if_pos hA];exact ⟨rfl,(S.sel [] G G)⟩
 all_goals (exfalso;omega)
theorem yN (rates:List (Int×Int)) (pwn ptn pag:Int) (RA:Option Addr) (rcp:Nat) (l:List Use) (A:Option Addr) (cp:Nat) (w:World) (hr:InS w noF 2 RA rates.length (scell rates)) (hrn:rates.length≤9223372036854775807) (hl:InS w noF 6 A l.length (ucell l)) (hn:l.length≤9223372036854775807) :
    Calls Tryz.prog 122 [.agg [.slice RA rates.length rcp,.int .i64 pwn,.int .i64 ptn,.int .i64 pag].toArray,.slice A l.length cp].toArray w (Ret (fun v w'=>v = .tuple #[.int .i64 (fM (⟨rates,pwn,ptn,pag⟩:Part) l Prod.snd).1,.int .i64 (fM (⟨rates,pwn,ptn,pag⟩:Part) l Prod.snd).2]∧St w noF [] w')):=by
 refine enter Tryz.func122 rfl Tryz.ntmps122 rfl (fun a H=>?_)
 have S:=St.start w
 refine seq_list fun K1 k1=>?_
 refine aO H rfl S G G ?_;clear H a S;intro b2 _ a hb2 hbw2 S H
 refine ls 2 H<|sr 2 rfl<|sE ?_;clear H a;intro a H
 refine k1 _ _ ?_;clear k1 K1
 replace H:=H.keep [1,2] rfl
 refine seq_list fun K2 k2=>?_
 refine ls 2 H<|sd ((aC fB hZ rfl S (i:=0) G G))<|sr 1 rfl<|sE ?_;clear H a;intro a H
 refine aA H G G Tryz.func130 G G (Bf rates pwn ptn pag RA rcp l A cp 131 _ Prod.snd _ (hr.now S) hrn (hl.now S) hn Tryz.func131 G G (fun a b w'=>uO a b w')) ?_;clear H a
 rintro _ _ a ⟨rfl,S2⟩ H
 replace S:=S.call S2;clear S2
 refine ls 4 H<|sr 4 rfl<|sE ?_;clear H a;intro a H
 refine k2 _ _ ?_;clear k2 K2
 refine wp_ret ?_
 refine ret2 (fn:=Tryz.f122) rfl H G G ?_
 exact ⟨rfl,(S.sel [] G G)⟩
end
section
structure EndN (N:Net) (r0:RM) (b x:Nat) (v:Int) (r:RM) (L:Nat→Int):Prop where
  fl:Fl N r0 r b x v
  nn:0≤v
  lev:LevOk N r b L
  full:L x<0
section
variable {N:Net} {r r0 r1 r2:RM} {b x u:Nat} {v v' m B:Int} {L L':Nat→Int}
theorem Bg {S:Nat→Bool} (h:∀ i,i<N.k→∀ j,j<N.n i→r2 i j=r1 i j):resid N r2 S=resid N r1 S:=kM fun i hi=>kM fun j hj=>by rw [h i hi j hj]
theorem Fl.congr (W:N.Wf) (h:Fl N r r1 u x m) (e:∀ i,i<N.k→∀ j,j<N.n i→r2 i j=r1 i j):Fl N r r2 u x m:=
  ⟨fun S=>by rw [Bg e];exact h.cut S,fun i hi j hj=>by rw [e i hi j hj,e _ (W.to_lt i hi j hj) _ (W.bk_lt i hi j hj)];exact h.pair i hi j hj,fun i hi j hj=>by rw [e i hi j hj];exact h.nn i hi j hj⟩
theorem Nw {S:Nat→Bool} (hb:S b=true) (hx:S x=false):ind S b-ind S x=1:=by unfold ind;rw [hb,hx];rfl
theorem EndN.bound (O:Ok N r0 B) (h:EndN N r0 b x v r L) {S:Nat→Bool} (hb:S b=true) (hx:S x=false):v≤resid N r0 S:=by
  have h1:=oM (S:=S) (h.fl.ok O)
  rw [h.fl.cut,Nw hb hx] at h1
  omega
theorem EndN.inside (h:EndN N r0 b x v r L) {S:Nat→Bool} (hb:S b=true) (hx:S x=false) (hc:resid N r0 S=v):∀ u,u<N.k→0≤L u→S u=true:=by
  have h0:resid N r S=0:=by rw [h.fl.cut,Nw hb hx];omega
  exact h.lev.least hb (tU h.fl.nn h0)
end
structure Eg where
  f:Nat
  t:Nat
  pas:Int
  tick:Int
def Eg.zero:Eg:=⟨0,0,0,0⟩
def Jn.zero:Jn:=⟨0,0,0,Mv.none⟩
def ixs (E:List Eg) (i:Nat):List Nat:=(List.range E.length).filter fun e=>decide ((E.getD e Eg.zero).f=i)
def tw (e:Nat):Nat:=if e%2=0 then e+1 else e-1
structure Lk (N:Net) (E:List Eg):Prop where
  len:∀ i,i<N.k→(ixs E i).length=N.n i
  lt:∀ i,i<N.k→∀ q,q<N.n i→(ixs E i).getD q 0<E.length
  ef:∀ i,i<N.k→∀ q,q<N.n i→(E.getD ((ixs E i).getD q 0) Eg.zero).f=i
  et:∀ i,i<N.k→∀ q,q<N.n i→(E.getD ((ixs E i).getD q 0) Eg.zero).t=N.to i q
  tw:∀ i,i<N.k→∀ q,q<N.n i→(ixs E (N.to i q)).getD (N.back i q) 0=tw ((ixs E i).getD q 0)
  inj:∀ i,i<N.k→∀ q q',q<N.n i→q'<N.n i→(ixs E i).getD q 0=(ixs E i).getD q' 0→q=q'
  evn:E.length%2=0
def rmE (E:List Eg) (r:Nat→Int):RM:=fun i q=>r ((ixs E i).getD q 0)
theorem Yz {e:Nat}:tw e≠e:=by unfold tw;split <;> omega
def pushE (r:Nat→Int) (e:Nat) (m:Int):Nat→Int:=upd (upd r e (r e-m)) (tw e) (r (tw e)+m)
section
variable {N:Net} {E:List Eg} {r:Nat→Int} {u j:Nat} {m B:Int}
theorem Nx:pushE r u m u=r u-m:=by unfold pushE;rw [bR _ _ (fun e=>Yz e.symm),bQ]
theorem Ny:pushE r u m (tw u)=r (tw u)+m:=bQ _ _ _
theorem Nz {e:Nat} (h1:e≠u) (h2:e≠tw u):pushE r u m e=r e:=by unfold pushE;rw [bR _ _ h2,bR _ _ h1]
theorem Lk.push (K:Lk N E) (W:N.Wf) (hu:u<N.k) (hj:j<N.n u):∀ i,i<N.k→∀ q,q<N.n i→rmE E (pushE r ((ixs E u).getD j 0) m) i q=along N (rmE E r) u j m i q:=by
  intro i hi q hq
  have htk:=W.to_lt u hu j hj
  have hbk:=W.bk_lt u hu j hj
  have same:∀ {i q i' q'},i<N.k→q<N.n i→i'<N.k→q'<N.n i'→(ixs E i).getD q 0=(ixs E i').getD q' 0→i=i'∧q=q':=by
    intro i q i' q' hi hq hi' hq' e
    have e1:i=i':=by rw [←K.ef i hi q hq,e,K.ef i' hi' q' hq']
    subst e1
    exact ⟨rfl,K.inj i hi q q' hq hq' e⟩
  show pushE r ((ixs E u).getD j 0) m ((ixs E i).getD q 0)=_
  by_cases h1:i=u∧q=j
  · obtain ⟨rfl,rfl⟩:=h1
    rw [Nx,lS W hi hq];rfl
  · by_cases h2:i=N.to u j∧q=N.back u j
    · obtain ⟨rfl,rfl⟩:=h2
      rw [lT,K.tw u hu j hj,Ny]
      show _=r ((ixs E (N.to u j)).getD (N.back u j) 0)+m
      rw [K.tw u hu j hj]
    · rw [kN h1 h2,Nz (fun e=>h1 (same hi hq hu hj e)) (fun e=>h2 (same hi hq htk hbk (by rw [K.tw u hu j hj];exact e)))];rfl
structure Rch (N:Net) (E:List Eg) (r:Nat→Int) (b:Nat) (L:Nat→Int) (by_:Nat→Nat):Prop where
  from_:∀ v,v<N.k→0≤L v→v=b∨∃ u,u<N.k∧∃ j,j<N.n u∧0≤L u∧0<rmE E r u j∧N.to u j=v∧L v=L u+1∧by_ v=(ixs E u).getD j 0
theorem Rch.start {b:Nat} (hb:b<N.k) {L:Nat→Int} (hL:∀ v,v<N.k→L v=if v=b then 0 else -1) {by_:Nat→Nat}:Rch N E r b L by_:=⟨fun v hv h0=>by
  rw [hL v hv] at h0
  split at h0
  · rename_i e;exact .inl e
  · omega⟩
theorem Rch.visit {b:Nat} {L:Nat→Int} {by_:Nat→Nat} (h:Rch N E r b L by_) (hu:u<N.k) (hj:j<N.n u) (h0:0≤L u) (hr:0<rmE E r u j) (hv:L (N.to u j)<0) :
    Rch N E r b (upd L (N.to u j) (L u+1)) (upd by_ (N.to u j) ((ixs E u).getD j 0)):=⟨fun v hv' h0'=>by
  have hne:∀ v,0≤L v→v≠N.to u j:=fun v h0 e=>by subst e;omega
  by_cases e:v=N.to u j
  · subst e
    rw [bQ,bQ]
    exact .inr ⟨u,hu,j,hj,by rw [bR _ _ (hne u h0)];exact h0,hr,rfl,by rw [bR _ _ (hne u h0)],rfl⟩
  · rw [bR _ _ e] at h0'
    rcases h.from_ v hv' h0' with h1|⟨u',hu',j',hj',g1,g2,g3,g4,g5⟩
    · exact .inl h1
    · refine .inr ⟨u',hu',j',hj',?_,g2,g3,?_,?_⟩
      · rw [bR _ _ (hne u' g1)];exact g1
      · rw [bR _ _ e,bR _ _ (hne u' g1)];exact g4
      · rw [bR _ _ e];exact g5⟩
end
def hC (U:Nat→Nat→Bool) (T:Nat) (f t:Nat) (d:Int) (c:Int) (tick:Nat):Int:=if (tick:Int)+d≤T∧U f tick=true∧U t (tick+d.toNat)=false then c else 0
section
variable {P T:Nat} {pe xs:List Int} {out:Int} {ps:List Psg} {S:Nat→Bool}
end
section
variable {P T:Nat} {pe xs:List Int} {out:Int} {ps:List Psg} {S:Nat→Bool}
end
section
variable {P T:Nat} {pe xs:List Int} {out:Int} {ps:List Psg} {S:Nat→Bool} {v v':Int} {r r':RM} {L L':Nat→Int}
end
section
variable {N:Net} {E:List Eg} {r r2:Nat→Int} {b x:Nat} {L:Nat→Int} {by_:Nat→Nat} {m B:Int}
end
section
variable {P T:Nat} {pe xs:List Int} {out:Int} {ps:List Psg}
end
section
variable {P T:Nat} {ps:List Psg} {xs:List Int} {out:Int} {pe bl:List Int} {k:Nat}
end
section
variable {P T:Nat} {ps:List Psg} {xs:List Int} {out:Int} {pe pe' bl:List Int}
end
section
variable (ps:List Psg) (xs:List Int) (out:Int) (pe:List Int) (l:List Mv)
def mvIn (m:Mv):Prop:=(0≤m.pas∧m.pas<ps.length)∧(0≤m.at_∧m.at_≤60)∧(1≤m.many∧m.many≤1000)
instance (m:Mv):Decidable (mvIn ps m):=by unfold mvIn;exact inferInstance
end
section
variable {P T:Nat} {ps:List Psg} {xs:List Int} {out:Int} {pe bl:List Int} {l:List Mv} {m:Mv}
end
end
section
def enc2 (k:Int×Int):Value := .agg #[.int .i64 k.1,.int .i64 k.2]
section
variable {P:Program} {w:World} {kt e:TypeId}
theorem kT (h1:One P e) {cs:Array Value} {i:Nat} {v:Value} (h:cs[i]?=some v):(part e cs i).run P w = .ok v w:=by
  have:(isAgg e).run P w = .ok false w:=by
    unfold One kF at h1
    unfold isAgg
    cases hu:P.underlying e with
    | none=>rw [hu] at h1;simp at h1
    | some d=>rw [hu] at h1;simp only [Sem.run_bind,bU hu,Result.andThen_ok];cases d <;> simp_all
  simp [part,this,h]
theorem Oa (hs:Sz P e 1):(sizeOf e).run P w = .ok 1 w:=by
  unfold Sz at hs
  cases hi:P.info? e with
  | none=>rw [hi] at hs;simp at hs
  | some i=>rw [hi] at hs;simp at hs;simp [sizeOf,typeInfo,hi,hs]
theorem Fy (he:P.underlying e=some (.int .i64)) (d:Nat) (a b:Int):(Op.equalIn (d+1) e (.int .i64 a) (.int .i64 b)).run P w = .ok (a == b) w:=by
  simp [Op.equalIn,bU he]
theorem Sl (hk:P.underlying kt=some (.array 2 e)) (he:P.underlying e=some (.int .i64)) (h1:One P e) (hs:Sz P e 1) (d:Nat) (k k':Int×Int):(Op.equalIn (d+2) kt (enc2 k) (enc2 k')).run P w = .ok (decide (k=k')) w:=by
  obtain ⟨a,b⟩:=k
  obtain ⟨a',b'⟩:=k'
  have p0:∀ x y:Int,(part e #[.int .i64 x,.int .i64 y] 0).run P w = .ok (.int .i64 x) w:=fun x y=>kT h1 rfl
  have p1:∀ x y:Int,(part e #[.int .i64 x,.int .i64 y] 1).run P w = .ok (.int .i64 y) w:=fun x y=>kT h1 rfl
  unfold enc2
  rw [Op.equalIn]
  simp [bU hk,Oa hs,p0,p1,Fy he,Std.Legacy.Range.forIn_eq_forIn_range',Std.Legacy.Range.size,List.range']
  by_cases h:a=a' <;> by_cases h2:b=b' <;> simp [h,h2]
theorem Fz (he:P.underlying e=some (.int .i64)) (m:Bool) (n:Nat) (a:Int):(Instr.checkKey m (n+1) e (.int .i64 a)).run P w = .ok () w:=by
  rw [Instr.checkKey]
  simp only [Sem.run_bind,bU he,Result.andThen_ok]
  rfl
theorem Sm (hk:P.underlying kt=some (.array 2 e)) (he:P.underlying e=some (.int .i64)) (h1:One P e) (hs:Sz P e 1) (m:Bool) (n:Nat) (k:Int×Int):(Instr.checkKey m (n+2) kt (enc2 k)).run P w = .ok () w:=by
  have p0:∀ x y:Int,(part e #[.int .i64 x,.int .i64 y] 0).run P w = .ok (.int .i64 x) w:=fun x y=>kT h1 rfl
  have p1:∀ x y:Int,(part e #[.int .i64 x,.int .i64 y] 1).run P w = .ok (.int .i64 y) w:=fun x y=>kT h1 rfl
  unfold enc2
  rw [Instr.checkKey]
  simp [bU hk,Oa hs,p0,p1,Fz he,Std.Legacy.Range.forIn_eq_forIn_range',Std.Legacy.Range.size,List.range']
theorem Ga {κ:Type} [DecidableEq κ] {enc:κ→Value} (heq:∀ (k k':κ) (w:World),(Op.equal kt (enc k) (enc k')).run P w = .ok (decide (k=k')) w) (k:κ):∀ (l:List (κ×Value)) (es:List MapEntry) (i:Nat),es.map (fun e=>(e.key,e.val))=l.map (fun p=>(enc p.1,p.2))→(Instr.findAsking kt (enc k) es i).run P w = .ok (findL k l i) w:=by
  intro l
  induction l with
  | nil=>
    intro es i he
    have:es=[]:=by simpa using he
    subst this
    rfl
  | cons p l ih=>
    intro es i he
    cases es with
    | nil=>simp at he
    | cons x es=>
      simp only [List.map_cons,List.cons.injEq,Prod.mk.injEq] at he
      obtain ⟨⟨g1,g2⟩,g3⟩:=he
      rw [Instr.findAsking,g1]
      simp only [Sem.run_bind,heq,Result.andThen_ok,findL]
      by_cases hk:k=p.1
      · rw [if_pos hk,decide_eq_true hk,g2];rfl
      · rw [if_neg hk,decide_eq_false hk]
        exact ih es (i+1) g3
theorem Is {κ:Type} [DecidableEq κ] {enc:κ→Value} {n:Nat} (hk:P.underlying kt=some (.array n e)) (heq:∀ (k k':κ) (w:World),(Op.equal kt (enc k) (enc k')).run P w = .ok (decide (k=k')) w)
    (hck:∀ (m:Bool) (k:κ) (w:World),(Instr.checkKey m 10000 kt (enc k)).run P w = .ok () w) (hb:∀ k:κ,Instr.sameBits 10000 (enc k) (enc k)=true):KeyOk P kt enc:=by
  refine ⟨fun l k es w he=>?_,hck,hb⟩
  rw [run_findKey_eq w (by rw [hk])]
  exact Ga heq k l es 0 he
theorem Ec (hk:P.underlying kt=some (.array 2 e)) (he:P.underlying e=some (.int .i64)) (h1:One P e) (hs:Sz P e 1):KeyOk P kt enc2:=
  Is hk (fun k k' w=>by unfold Op.equal;rw [show Op.maxDepth=9998+2 from rfl];exact Sl hk he h1 hs 9998 k k') (fun m k w=>by rw [show (10000:Nat)=9998+2 from rfl];exact Sm hk he h1 hs m 9998 k) (fun k=>by rw [show (10000:Nat)=9998+2 from rfl];simp [enc2,Instr.sameBits])
end
theorem Wl {κ:Type} {enc:κ→Value} {es:List MapEntry} {l:List (κ×Value)} {j:Nat} {k:κ} {v:Value} (he:es.map (fun e=>(e.key,e.val))=l.map (fun p=>(enc p.1,p.2))) (h:l[j]?=some (k,v)):∃ e,es[j]?=some e∧e.key=enc k∧e.val=v:=by
  have h1:(es.map (fun e=>(e.key,e.val)))[j]?=(l.map (fun p=>(enc p.1,p.2)))[j]?:=by rw [he]
  rw [List.getElem?_map,List.getElem?_map,h] at h1
  cases h2:es[j]? with
  | none=>rw [h2] at h1;simp at h1
  | some e=>rw [h2] at h1;simp at h1;exact ⟨e,rfl,h1.1,h1.2⟩
def mapK {κ:Type} [DecidableEq κ] (enc:κ→Value) (b:Nat) (Φ:(κ→Option Value)→Prop):Mem where
  fp:=fun k=>k=b
  holds:=fun w=>∃ (es:Array MapEntry) (ck:Nat) (l:List (κ×Value)),w.heap[b]?=some (.map es ck)∧es.toList.map (fun e=>(e.key,e.val))=l.map (fun p=>(enc p.1,p.2))∧(∀ x ∈ es.toList,x.born<ck)∧(es.toList.map MapEntry.born).Nodup∧Φ (getL l)
  stable:=fun _ _ h ⟨es,ck,l,h1,h2⟩=>⟨es,ck,l,(h b rfl).trans h1,h2⟩
section
variable {P:Program} {ops:Array Oper} {w w0:World} {F0:Nat→Prop} {R:List Mem} {Q:Exit→Act→World→Prop} {rest:List Oper} {N:FN} {L:List (Nat×Value)} {a:Act} {ty:TypeId} {pos:String} {af:Array Edge}
variable {κ:Type} [DecidableEq κ] {enc:κ→Value} {Φ Φ':(κ→Option Value)→Prop}
theorem iP {d t:Nat} (enc:κ→Value) (Φ:(κ→Option Value)→Prop) (hΦ:Φ (fun _=>none)) (H:Fr N L a) (hd:Nat.blt d N.n=true) (S:St w0 F0 R w)
    (k:∀ b w' a',w0.heap.size≤b→St w0 F0 (mapK enc b Φ::R) w'→Fr N ((d,.map (some b))::L) a'→wpList P ops Q rest a' w') :
    wpList P ops Q (⟨some d,.makeMap t none,ty,pos,af,none⟩::rest) a w:=by
  refine wpList_plain rfl fun K hK=>?_
  unfold Oper.wp
  have e:(execOp a.eval ⟨some d,.makeMap t none,ty,pos,af,none⟩).run P w = .ok (.value (.map (some w.heap.size))) (w.alloc (.map #[] 0)):=by
    simp [execOp,Instr.makeMap,newObj,Sem.run]
  rw [e]
  refine hK _ _ (k w.heap.size _ _ S.size (S.new (Keeps.alloc w _ _) ⟨#[],0,[],heap_alloc_new w _,rfl,fun x hx=>by simp at hx,by simp,hΦ⟩ ?_) (H.put _ hd))
  intro q hq
  rw [show q=w.heap.size from hq]
  simp
theorem yO {x y:Operand} {t kt et b i:Nat} {d:Option Nat} {g:Option (Nat×Bool)} {z v:Value} {k:κ} (S:St w0 F0 R w) (hi:R[i]?=some (mapK enc b Φ)) (ht:MapT P t kt et) (hk:KeyOk P kt enc) (hz:ZeroV P et z) (hx:ev L x=some (.map (some b))) (hy:ev L y=some (enc k)) (hv:∀ h,Φ h→(h k).getD z=v) :
    Does P L ⟨d,.lookup t x y false,ty,pos,af,g⟩ w v:=fun ρ hρ=>by
  obtain ⟨es,ck,l,hb,he,_,_,hΦ⟩:=S.holds hi
  have:=nN (k:=k) ht hk hz (⟨es,ck,hb,he⟩:(mapM enc b l).holds w) false
  simp [execOp,hρ _ _ hx,hρ _ _ hy,this,hv _ hΦ]
theorem eL {x y:Operand} {t kt et b i:Nat} {d:Option Nat} {g:Option (Nat×Bool)} {z v:Value} {s:Bool} {k:κ} (S:St w0 F0 R w) (hi:R[i]?=some (mapK enc b Φ)) (ht:MapT P t kt et) (hk:KeyOk P kt enc) (hz:ZeroV P et z) (hx:ev L x=some (.map (some b))) (hy:ev L y=some (enc k)) (hv:∀ h,Φ h→(h k).getD z=v∧(h k).isSome=s) :
    Does P L ⟨d,.lookup t x y true,ty,pos,af,g⟩ w (.tuple #[v,.bool s]):=fun ρ hρ=>by
  obtain ⟨es,ck,l,hb,he,_,_,hΦ⟩:=S.holds hi
  have:=nN (k:=k) ht hk hz (⟨es,ck,hb,he⟩:(mapM enc b l).holds w) true
  obtain ⟨h1,h2⟩:=hv _ hΦ
  simp [execOp,hρ _ _ hx,hρ _ _ hy,this,h1,h2]
theorem Ob {l:List (κ×Value)} {k:κ} {v:Value} (h:findL k l 0=none):setL l k v=l++[(k,v)]:=by unfold setL;rw [h]
theorem Oc {l:List (κ×Value)} {k:κ} {v v0:Value} {j:Nat} (h:findL k l 0=some (j,v0)):setL l k v=l.modify j fun p=>(p.1,v):=by unfold setL;rw [h]
theorem It {l:List (κ×Value)} {k:κ} {v:Value}:getL (setL l k v)=fun k'=>if k'=k then some v else getL l k':=funext fun k'=>zX v k k' l
theorem Bh (f:MapEntry→MapEntry) (hf:∀ e,(f e).born=e.born):∀ (l:List MapEntry) (i:Nat),(l.modify i f).map MapEntry.born=l.map MapEntry.born:=by
  intro l
  induction l with
  | nil=>intro i;simp
  | cons e l ih=>
    intro i
    cases i with
    | zero=>simp [hf]
    | succ i=>simp [List.modify_succ_cons,ih]
theorem Sn {l l':List MapEntry} {ck:Nat} (h:l'.map MapEntry.born=l.map MapEntry.born) (hl:∀ x ∈ l,x.born<ck):∀ x ∈ l',x.born<ck:=fun x hx=>by
  have h1:x.born ∈ l'.map MapEntry.born:=List.mem_map.2 ⟨x,hx,rfl⟩
  rw [h] at h1
  obtain ⟨y,hy,e⟩:=List.mem_map.1 h1
  have:=hl y hy
  omega
theorem Od {l:List MapEntry} {e:MapEntry} {ck:Nat} (he:e.born=ck) (hl:∀ x ∈ l,x.born<ck) (hn:(l.map MapEntry.born).Nodup):(∀ x ∈ l++[e],x.born<ck+1)∧((l++[e]).map MapEntry.born).Nodup:=by
  constructor
  · intro x hx
    rcases List.mem_append.1 hx with hx|hx
    · have:=hl x hx;omega
    · rw [List.mem_singleton.1 hx];omega
  · rw [List.map_append,List.nodup_append]
    refine ⟨hn,by simp,fun p hp q hq e1=>?_⟩
    obtain ⟨x,hx,rfl⟩:=List.mem_map.1 hp
    simp only [List.map_cons,List.map_nil,List.mem_singleton] at hq
    have:=hl x hx
    omega
theorem eV {x y u:Operand} {t kt et b i:Nat} {k:κ} {v:Value} (Φ':(κ→Option Value)→Prop) (H:Fr N L a) (S:St w0 F0 R w) (hi:R[i]?=some (mapK enc b Φ)) (ht:MapT P t kt et) (hk:KeyOk P kt enc) (hx:ev L x=some (.map (some b))) (hy:ev L y=some (enc k)) (hu:ev L u=some v)
    (hΦ':∀ h,Φ h→Φ' (fun k'=>if k'=k then some v else h k'))
    (kk:∀ w' a',St w0 F0 (R.set i (mapK enc b Φ')) w'→Fr N L a'→wpList P ops Q rest a' w') :
    wpList P ops Q (⟨none,.mapUpdate t x y u,ty,pos,af,none⟩::rest) a w:=by
  refine wpList_plain rfl fun K hK=>?_
  obtain ⟨es,ck,l,hb,he,hlt,hnd,hΦ⟩:=S.holds hi
  have hf:=hk.find l k es.toList w he
  have hg:(getObj b).run P w = .ok (.map es ck) w:=by simp [getObj,Sem.run,hb]
  have hs:∀ o,(setObj b o).run P w = .ok () (w.putObj b o):=fun o=>by simp [setObj,Sem.run,hb,World.putObj]
  have hkeeps:∀ o,Keeps w (w.putObj b o) (fun k=>k=b):=fun o=>⟨rfl,rfl,rfl,by simp [World.putObj],fun q _ hq=>World.putObj_heap_other (fun e=>hq e)⟩
  have hΦ2:Φ' (getL (setL l k v)):=by rw [It];exact hΦ' _ hΦ
  unfold MapT at ht
  unfold Oper.wp
  cases hfl:findL k l 0 with
  | none=>
    rw [hfl] at hf
    have e1:(execOp a.eval ⟨none,.mapUpdate t x y u,ty,pos,af,none⟩).run P w = .ok .skip (w.putObj b (.map (es.push { key:=enc k,val:=v,born:=ck }) (ck+1))):=by
      simp [execOp,H.eval hx,H.eval hy,H.eval hu,Instr.mapUpdate,bU ht,hg,hk.check,hf,hs]
    rw [e1]
    have hb2:=Od (e:={ key:=enc k,val:=v,born:=ck }) rfl hlt hnd
    refine hK _ _ (kk _ _ (S.updSame hi (hkeeps _) ⟨_,_,setL l k v,World.putObj_heap_same (dQ hb),?_,?_,?_,hΦ2⟩ (fun _ h=>h)) (H.put_none _))
    · rw [Ob hfl];simp [he]
    · rw [Array.toList_push];exact hb2.1
    · rw [Array.toList_push];exact hb2.2
  | some q=>
    obtain ⟨j,v0⟩:=q
    rw [hfl] at hf
    have hat:=zY hfl
    obtain ⟨e0,h1,h2,h3⟩:=Wl he hat
    have hej:(es[j]?).map (·.key)=some (enc k):=by rw [←Array.getElem?_toList,h1,←h2];rfl
    have hst:(Instr.keyThatStays (enc k) (enc k)).run P w = .ok (enc k) w:=by simp [Instr.keyThatStays,hk.bits k]
    have e1:(execOp a.eval ⟨none,.mapUpdate t x y u,ty,pos,af,none⟩).run P w = .ok .skip (w.putObj b (.map (es.modify j fun e=>{ e with key:=enc k,val:=v }) ck)):=by
      simp [execOp,H.eval hx,H.eval hy,H.eval hu,Instr.mapUpdate,bU ht,hg,hk.check,hf,hs,hej,hst]
    rw [e1]
    have hbm:=Bh (fun e=>{ e with key:=enc k,val:=v }) (fun _=>rfl) es.toList j
    refine hK _ _ (kk _ _ (S.updSame hi (hkeeps _) ⟨_,_,setL l k v,World.putObj_heap_same (dQ hb),?_,?_,?_,hΦ2⟩ (fun _ h=>h)) (H.put_none _))
    · rw [Oc hfl,Array.toList_modify]
      refine tB _ _ _ _ es.toList l j he fun e p g1 g2 g3=>?_
      rw [hat] at g3
      injection g3 with g3
      subst g3
      rfl
    · rw [Array.toList_modify];exact Sn hbm hlt
    · rw [Array.toList_modify,hbm];exact hnd
end
def ints (xs:List Int):Value := .agg (xs.map fun x=>Value.int .i64 x).toArray
structure IntsK (P:Program) (t:TypeId) (n D:Nat):Prop where
  agg:Agg P t
  sz:Sz P t n
  eq:∀ (d:Nat) (xs ys:List Int) (w:World),xs.length=n→ys.length=n→(Op.equalIn (d+D) t (ints xs) (ints ys)).run P w = .ok (decide (xs=ys)) w
  ck:∀ (m:Bool) (d:Nat) (xs:List Int) (w:World),xs.length=n→(Instr.checkKey m (d+D) t (ints xs)).run P w = .ok () w
section
variable {P:Program} {w:World} {kt e:TypeId} {n D:Nat}
theorem wJ {n:Nat} (ha:Agg P e) (hs:Sz P e n) (cs:Array Value) (i:Nat):(part e cs i).run P w = .ok (.agg (cs.extract i (i+n))) w:=by
  have h1:(isAgg e).run P w = .ok true w:=by
    unfold Agg kF at ha
    unfold isAgg
    cases hu:P.underlying e with
    | none=>rw [hu] at ha;simp at ha
    | some d=>rw [hu] at ha;simp only [Sem.run_bind,bU hu,Result.andThen_ok];cases d <;> simp_all
  have h2:(sizeOf e).run P w = .ok n w:=by
    unfold Sz at hs
    cases hi:P.info? e with
    | none=>rw [hi] at hs;simp at hs
    | some i=>rw [hi] at hs;simp at hs;simp [sizeOf,typeInfo,hi,hs]
  simp [part,h1,h2]
theorem wK {n:Nat} (hs:Sz P e n):(sizeOf e).run P w = .ok n w:=by
  unfold Sz at hs
  cases hi:P.info? e with
  | none=>rw [hi] at hs;simp at hs
  | some i=>rw [hi] at hs;simp at hs;simp [sizeOf,typeInfo,hi,hs]
theorem Bi (xs:List Int) (i n:Nat):((xs.map fun x=>Value.int .i64 x).toArray).extract i (i+n)=(((xs.drop i).take n).map fun x=>Value.int .i64 x).toArray:=by
  rw [List.extract_toArray,List.extract_eq_take_drop,Nat.add_sub_cancel_left,List.map_take,List.map_drop]
theorem So {xs:List Int} {i:Nat} (h:i<xs.length):((xs.map fun x=>Value.int .i64 x).toArray)[i]?=some (.int .i64 (xs.getD i 0)):=by
  simp [List.getD_eq_getElem?_getD,h]
theorem Oe {α:Type} {f:α→Sem Bool} {b:α→Bool} {w:World} (l:List α) (h:∀ i ∈ l,(f i).run P w = .ok (b i) w) :
    (do let r ←forIn (m:=Sem) l ((none,()):Option Bool×PUnit) fun i r=>do
          let x ←f i
          if !x then pure (ForInStep.done (some false,())) else pure (ForInStep.yield (none,()))
        match r.fst with
        | some a=>pure a
        | none=>pure true:Sem Bool).run P w = .ok (l.all b) w:=by
  have key:∀ l:List α,(∀ i ∈ l,(f i).run P w = .ok (b i) w)→(forIn (m:=Sem) l ((none,()):Option Bool×PUnit) fun i r=>do
          let x ←f i
          if !x then pure (ForInStep.done (some false,())) else pure (ForInStep.yield (none,()))).run P w = .ok ((if l.all b=true then none else some false,())) w:=by
    intro l
    induction l with
    | nil=>intro _;simp
    | cons a l ih=>
      intro h
      have h1:=h a (by simp)
      have h2:=ih fun i hi=>h i (by simp [hi])
      rw [List.forIn_cons]
      cases hb:b a with
      | true=>
        rw [hb] at h1
        have e:(a::l).all b=l.all b:=by simp [hb]
        rw [e]
        simp only [Sem.run_bind,h1,Result.andThen_ok]
        simpa using h2
      | false=>
        rw [hb] at h1
        simp [h1,hb]
  simp only [Sem.run_bind,key l h,Result.andThen_ok]
  by_cases hl:l.all b=true
  · simp [hl]
  · simp [hl]
theorem Iu {α:Type} {f:α→Sem Unit} {w:World} (l:List α) (h:∀ i ∈ l,(f i).run P w = .ok () w) :
    (forIn (m:=Sem) l () fun i r=>do f i;pure (ForInStep.yield ())).run P w = .ok () w:=by
  induction l with
  | nil=>simp
  | cons a l ih=>
    have h1:=h a (by simp)
    have h2:=ih fun i hi=>h i (by simp [hi])
    rw [List.forIn_cons]
    simp only [Sem.run_bind,h1,Result.andThen_ok]
    simpa using h2
def seg (xs:List Int) (off n:Nat):List Int:=(xs.drop off).take n
theorem pJ {xs:List Int} {off n:Nat} (h:off+n≤xs.length):(seg xs off n).length=n:=by simp [seg];omega
structure PartK (P:Program) (t:TypeId) (n D:Nat):Prop where
  eq:∀ (d:Nat) (xs ys:List Int) (off:Nat) (w:World),off+n≤xs.length→off+n≤ys.length →
    (do let a ←part t (xs.map fun x=>Value.int .i64 x).toArray off;let b ←part t (ys.map fun x=>Value.int .i64 x).toArray off;Op.equalIn (d+D) t a b:Sem Bool).run P w = .ok (decide (seg xs off n=seg ys off n)) w
  ck:∀ (m:Bool) (d:Nat) (xs:List Int) (off:Nat) (w:World),off+n≤xs.length→(do let a ←part t (xs.map fun x=>Value.int .i64 x).toArray off;Instr.checkKey m (d+D) t a:Sem Unit).run P w = .ok () w
theorem PartK.of (h:IntsK P kt n D):PartK P kt n D:=by
  refine ⟨fun d xs ys off w hx hy=>?_,fun m d xs off w hx=>?_⟩
  · simp only [Sem.run_bind,wJ h.agg h.sz,Result.andThen_ok,Bi]
    exact h.eq d _ _ w (pJ hx) (pJ hy)
  · simp only [Sem.run_bind,wJ h.agg h.sz,Result.andThen_ok,Bi]
    exact h.ck m d _ w (pJ hx)
theorem Gb {xs:List Int} {i:Nat} (h:i<xs.length):seg xs i 1=[xs.getD i 0]:=by
  rw [seg,List.drop_eq_getElem_cons h,List.take_succ_cons,List.take_zero,List.getD_eq_getElem?_getD,List.getElem?_eq_getElem h]
  rfl
theorem PartK.int (he:P.underlying e=some (.int .i64)) (h1:One P e):PartK P e 1 1:=by
  have hp:∀ (zs:List Int) (i:Nat),i<zs.length→∀ w,(part e (zs.map fun x=>Value.int .i64 x).toArray i).run P w = .ok (.int .i64 (zs.getD i 0)) w:=fun zs i hi w=>kT h1 (So hi)
  refine ⟨fun d xs ys off w hx hy=>?_,fun m d xs off w hx=>?_⟩
  · simp only [Sem.run_bind,hp xs off (by omega),hp ys off (by omega),Result.andThen_ok,Fy he]
    rw [Gb (by omega),Gb (by omega)]
    rw [show decide ([xs.getD off 0]=[ys.getD off 0])=decide (xs.getD off 0=ys.getD off 0) by simp]
    rfl
  · simp only [Sem.run_bind,hp xs off (by omega),Result.andThen_ok,Fz he]
theorem PartK.mono {n D:Nat} (h:PartK P e n D):PartK P e n (D+1):=
  ⟨fun d xs ys off w hx hy=>by have:=h.eq (d+1) xs ys off w hx hy;rw [Nat.add_assoc,Nat.add_comm 1 D] at this;exact this,fun m d xs off w hx=>by have:=h.ck m (d+1) xs off w hx;rw [Nat.add_assoc,Nat.add_comm 1 D] at this;exact this⟩
theorem PartK.int2 (he:P.underlying e=some (.int .i64)) (h1:One P e):PartK P e 1 2:=(PartK.int he h1).mono
theorem Gc {xs ys:List Int} {off n m:Nat} (hx:off+n+m≤xs.length) (hy:off+n+m≤ys.length):seg xs off (n+m)=seg ys off (n+m)↔seg xs off n=seg ys off n∧seg xs (off+n) m=seg ys (off+n) m:=by
  have e:∀ zs:List Int,seg zs off (n+m)=seg zs off n++seg zs (off+n) m:=fun zs=>by
    unfold seg;rw [List.take_add,List.drop_drop]
  rw [e,e]
  exact ⟨fun h=>List.append_inj h (by rw [pJ (by omega),pJ (by omega)]),fun h=>by rw [h.1,h.2]⟩
theorem sJ {xs:List Int} {n:Nat} (h:xs.length=n):seg xs 0 n=xs:=by unfold seg;rw [List.drop_zero,List.take_of_length_le (by omega)]
theorem Wm {xs ys:List Int} {m:Nat}:∀ len,len*m≤xs.length→len*m≤ys.length→((List.range len).all fun i=>decide (seg xs (i*m) m=seg ys (i*m) m))=decide (seg xs 0 (len*m)=seg ys 0 (len*m)):=by
  intro len
  induction len with
  | zero=>intro _ _;simp [seg]
  | succ len ih=>
    intro hx hy
    rw [Nat.add_mul] at hx hy
    rw [List.range_succ,List.all_append,ih (by omega) (by omega),Bool.eq_iff_iff,Nat.add_mul,Nat.one_mul,decide_eq_true_eq,Gc (by omega) (by omega),Nat.zero_add]
    simp
theorem Of {len m D:Nat} (hk:P.underlying kt=some (.array len e)) (hs:Sz P kt (len*m)) (he:PartK P e m D) (hse:Sz P e m):IntsK P kt (len*m) (D+1):=by
  refine ⟨by unfold Agg kF;rw [hk],hs,fun d xs ys w hx hy=>?_,fun b d xs w hx=>?_⟩
  · have hq:∀ i ∈ List.range len,(do let a ←part e (xs.map fun x=>Value.int .i64 x).toArray (i*m);let b ←part e (ys.map fun x=>Value.int .i64 x).toArray (i*m);Op.equalIn (d+D) e a b:Sem Bool).run P w = .ok (decide (seg xs (i*m) m=seg ys (i*m) m)) w:=fun i hi=>by
      have hi':=List.mem_range.1 hi
      have:(i+1)*m≤len*m:=Nat.mul_le_mul_right _ (by omega)
      rw [Nat.add_mul] at this
      exact he.eq d xs ys (i*m) w (by omega) (by omega)
    have hr:=Oe (P:=P) (w:=w) (List.range len) hq
    rw [Wm len (by omega) (by omega),sJ hx,sJ hy] at hr
    unfold ints
    rw [show d+(D+1)=(d+D)+1 from rfl,Op.equalIn]
    simp only [Sem.run_bind,bU hk,wK hse,Result.andThen_ok,Std.Legacy.Range.forIn_eq_forIn_range',Std.Legacy.Range.size]
    rw [List.range_eq_range'] at hr
    simp at hr ⊢
    rw [←hr]
    congr 1
    funext a w'
    cases a with|mk x y=>cases x <;> rfl
  · have hz:(sizeOf e).run P w = .ok m w:=wK hse
    have hq:∀ i ∈ List.range len,(do let s ←sizeOf e;let a ←part e (xs.map fun x=>Value.int .i64 x).toArray (i*s);Instr.checkKey b (d+D) e a:Sem Unit).run P w = .ok () w:=fun i hi=>by
      have hi':=List.mem_range.1 hi
      have:(i+1)*m≤len*m:=Nat.mul_le_mul_right _ (by omega)
      rw [Nat.add_mul] at this
      have h9:=he.ck b d xs (i*m) w (by omega)
      rw [Sem.run_bind,hz,Result.andThen_ok]
      exact h9
    have hr:=Iu (P:=P) (w:=w) (List.range len) hq
    unfold ints
    rw [show d+(D+1)=(d+D)+1 from rfl,Instr.checkKey]
    simp only [Sem.run_bind,bU hk,Result.andThen_ok,Std.Legacy.Range.forIn_eq_forIn_range',Std.Legacy.Range.size]
    rw [List.range_eq_range'] at hr
    simp at hr ⊢
    exact congrArg (fun r:Result Unit=>r.andThen fun _ w'=>Result.ok () w') hr
inductive FieldsK (P:Program) (D:Nat):Nat→List Field→Nat→Prop
  | nil (off:Nat):FieldsK P D off [] off
  | cons {off n E : Nat} {f : Field} {fs : List Field} (h1 : f.name ≠ "_") (h2 : f.offset = off) (h3 : PartK P f.type n D) (h4 : FieldsK P D (off + n) fs E) : FieldsK P D off (f :: fs) E
theorem FieldsK.le {fs:List Field} {off E:Nat} (h:FieldsK P D off fs E):off≤E:=by
  induction h with
  | nil=>exact Nat.le_refl _
  | cons _ _ _ _ ih=>omega
theorem FieldsK.eqs {fs:List Field} {off E:Nat} (h:FieldsK P D off fs E) (xs ys:List Int) (d:Nat) (hx:E≤xs.length) (hy:E≤ys.length) :
    (forIn (m := Sem) fs ((none, ()) : Option Bool × PUnit) fun f r => if f.name ≠ "_" then do
          let c ←(do let a ←part f.type (xs.map fun x=>Value.int .i64 x).toArray f.offset;let b ←part f.type (ys.map fun x=>Value.int .i64 x).toArray f.offset;Op.equalIn (d+D) f.type a b:Sem Bool)
          if !c then pure (ForInStep.done (some false,())) else pure (ForInStep.yield (none,()))
        else pure (ForInStep.yield (none,()))).run P w = .ok ((if seg xs off (E-off)=seg ys off (E-off) then none else some false,())) w:=by
  induction h with
  | nil off=>simp [seg]
  | @cons off n E f fs h1 h2 h3 h4 ih=>
    have hle:=h4.le
    have h5:=h3.eq d xs ys off w (by omega) (by omega)
    have h6:=ih hx hy
    have h7:=Gc (xs:=xs) (ys:=ys) (off:=off) (n:=n) (m:=E-(off+n)) (by omega) (by omega)
    rw [show n+(E-(off+n))=E-off by omega] at h7
    rw [List.forIn_cons,if_pos h1,h2]
    by_cases hs:seg xs off n=seg ys off n
    · rw [decide_eq_true hs] at h5
      rw [Sem.run_bind,Sem.run_bind,h5,Result.andThen_ok]
      simp only [Bool.not_true,Bool.false_eq_true,if_false,Sem.run_pure,Result.andThen_ok]
      rw [h6]
      by_cases ht:seg xs (off+n) (E-(off+n))=seg ys (off+n) (E-(off+n))
      · rw [if_pos ht,if_pos (h7.2 ⟨hs,ht⟩)]
      · rw [if_neg ht,if_neg (fun h=>ht (h7.1 h).2)]
    · rw [decide_eq_false hs] at h5
      rw [Sem.run_bind,Sem.run_bind,h5,Result.andThen_ok]
      simp only [Bool.not_false,if_true,Sem.run_pure,Result.andThen_ok]
      rw [if_neg (fun h=>hs (h7.1 h).1)]
theorem FieldsK.cks {fs:List Field} {off E:Nat} (h:FieldsK P D off fs E) (xs:List Int) (m:Bool) (d:Nat) (hx:E≤xs.length) :
    (forIn (m := Sem) fs () fun f r => if f.name ≠ "_" then do
          (do let a ←part f.type (xs.map fun x=>Value.int .i64 x).toArray f.offset;Instr.checkKey m (d+D) f.type a:Sem Unit)
          pure (ForInStep.yield ())
        else pure (ForInStep.yield ())).run P w = .ok () w:=by
  induction h with
  | nil off=>simp
  | @cons off n E f fs h1 h2 h3 h4 ih=>
    have hle:=h4.le
    have h5:=h3.ck m d xs off w (by omega)
    have h6:=ih hx
    rw [List.forIn_cons,if_pos h1,h2]
    rw [Sem.run_bind,Sem.run_bind,h5,Result.andThen_ok]
    simp only [Sem.run_pure,Result.andThen_ok]
    exact h6
theorem Og {fs:Array Field} {n:Nat} (hk:P.underlying kt=some (.struct fs)) (hs:Sz P kt n) (hf:FieldsK P D 0 fs.toList n) (hst:P.stoodInHeld kt=false):IntsK P kt n (D+1):=by
  refine ⟨by unfold Agg kF;rw [hk],hs,fun d xs ys w hx hy=>?_,fun b d xs w hx=>?_⟩
  · have hr:=hf.eqs (w:=w) xs ys d (by omega) (by omega)
    rw [Nat.sub_zero,sJ hx,sJ hy] at hr
    have hpg:(program:Sem Program).run P w = .ok P w:=rfl
    unfold ints
    rw [show d+(D+1)=(d+D)+1 from rfl,Op.equalIn]
    simp only [Sem.run_bind,bU hk,hpg,hst,Result.andThen_ok]
    simp at hr ⊢
    have hr2:=congrArg (fun r:Result (Option Bool×PUnit)=>r.andThen fun a w'=>Sem.run P (match a.fst with|some r=>pure r|none=>pure true) w') hr
    refine Eq.trans ?_ (hr2.trans (by by_cases h:xs=ys <;> simp [h]))
    refine congrArg _ ?_
    funext a w'
    cases a with|mk x y=>cases x <;> rfl
  · have hr:=hf.cks (w:=w) xs b d (by omega)
    unfold ints
    rw [show d+(D+1)=(d+D)+1 from rfl,Instr.checkKey]
    simp only [Sem.run_bind,bU hk,Result.andThen_ok]
    simp at hr ⊢
    exact congrArg (fun r:Result Unit=>r.andThen fun _ w'=>Result.ok () w') hr
def KeyN (n:Nat):Type:={ l:List Int // l.length=n }
instance {n:Nat}:DecidableEq (KeyN n):=fun a b=>if h:a.1=b.1 then .isTrue (Subtype.ext h) else .isFalse fun e=>h (congrArg Subtype.val e)
def encN {n:Nat} (k:KeyN n):Value:=ints k.1
theorem Iv (xs:List Int) (d:Nat):Instr.sameBits (d+1) (ints xs) (ints xs)=true:=by
  unfold ints
  rw [Instr.sameBits]
  simp only [beq_self_eq_true,Bool.true_and]
  rw [List.all_eq_true]
  rintro ⟨x,y⟩ h
  rw [List.zip_eq_zipWith] at h
  simp only [List.zipWith_self,List.mem_map] at h
  obtain ⟨v,hv,e⟩:=h
  cases e
  have hv':x ∈ xs.map fun x=>Value.int .i64 x:=by simpa using hv
  obtain ⟨q,_,rfl⟩:=List.mem_map.1 hv'
  simp [Instr.sameBits]
theorem Sp {n:Nat} (h:IntsK P kt n D) (hD:D≤100) (hwide:(match P.underlying kt with|some (.array _ _)|some (.struct _)=>true|_=>false)=true):KeyOk P kt (encN (n:=n)):=by
  have heq:∀ (k k':KeyN n) (w:World),(Op.equal kt (encN k) (encN k')).run P w = .ok (decide (k=k')) w:=fun k k' w=>by
    have:=h.eq (10000-D) k.1 k'.1 w k.2 k'.2
    rw [Nat.sub_add_cancel (by omega)] at this
    unfold Op.equal Op.maxDepth encN
    rw [this]
    congr 1
    exact decide_eq_decide.2 ⟨fun h=>Subtype.ext h,fun h=>congrArg Subtype.val h⟩
  refine ⟨fun l k es w he=>?_,fun m k w=>?_,fun k=>Iv _ _⟩
  · rw [run_findKey_eq w hwide]
    exact Ga heq k l es 0 he
  · have:=h.ck m (10000-D) k.1 w k.2
    rw [Nat.sub_add_cancel (by omega)] at this
    exact this
end
structure Unt where
  mach:Int
  every:Int
  seen:Int
  rates:List (Int×Int)
  RA:Option Addr
  rc:Nat
  worn:Int
  turns:Int
  age:Int
  uses:List Use
  UA:Option Addr
  uc:Nat
  old:Int
  tn:Int
  cl:Int
  kind:Int
def Unt.zero:Unt:=⟨0,0,0,[],none,0,0,0,0,[],none,0,0,0,0,0⟩
def Unt.cell (u:Unt):Nat→Value
  | 0 => .int .i64 u.mach
  | 1 => .int .i64 u.every
  | 2 => .int .i64 u.seen
  | 3 => .slice u.RA u.rates.length u.rc
  | 4 => .int .i64 u.worn
  | 5 => .int .i64 u.turns
  | 6 => .int .i64 u.age
  | 7 => .slice u.UA u.uses.length u.uc
  | 8 => .int .i64 u.old
  | 9 => .int .i64 u.tn
  | 10 => .int .i64 u.cl
  | _ => .int .i64 u.kind
def vcell (l:List Unt) (k j:Nat):Value:=(l.getD k Unt.zero).cell j
def Unt.part (u:Unt):Part:=⟨u.rates,u.worn,u.turns,u.age⟩
def Unt.same (u v:Unt):Prop:=v={ u with RA:=v.RA,rc:=v.rc,UA:=v.UA,uc:=v.uc }
structure Spr where
  day:Int
  kind:Int
  many:Int
def Spr.zero:Spr:=⟨0,0,0⟩
def Spr.cell (s:Spr):Nat→Value
  | 0 => .int .i64 s.day
  | 1 => .int .i64 s.kind
  | _ => .int .i64 s.many
def uQ (l:List Spr) (k j:Nat):Value:=(l.getD k Spr.zero).cell j
structure Tsk where
  day:Int
  unit:Int
  kind:Int
deriving instance DecidableEq for Tsk
def Tsk.zero:Tsk:=⟨0,0,0⟩
def Tsk.cell (t:Tsk):Nat→Value
  | 0 => .int .i64 t.day
  | 1 => .int .i64 t.unit
  | _ => .int .i64 t.kind
def cM (l:List Tsk) (k j:Nat):Value:=(l.getD k Tsk.zero).cell j
structure Yr where
  days:Int
  pl:Int
  ps:List Psg
  PA:Option Addr
  pc:Nat
  xs:List Int
  XA:Option Addr
  xc:Nat
  pe:List Int
  BA:Option Addr
  bc:Nat
  limit:Int
  help:Bool
  prs:List Prm
  QA:Option Addr
  qc:Nat
  us:List Unt
  VA:Option Addr
  vc:Nat
  crew:Int
  sps:List Spr
  SA:Option Addr
  sc:Nat
def Yr.cells (y:Yr):List Value:=[.int .i64 y.days,.int .i64 y.pl,.slice y.PA y.ps.length y.pc,.slice y.XA y.xs.length y.xc,.slice y.BA y.pe.length y.bc,.int .i64 y.limit,.bool y.help,.slice y.QA y.prs.length y.qc,.slice y.VA y.us.length y.vc,.int .i64 y.crew,.slice y.SA y.sps.length y.sc]
abbrev Yr.st (y:Yr):Value := .agg [.int .i64 y.pl,.slice y.PA y.ps.length y.pc,.slice y.XA y.xs.length y.xc].toArray
abbrev Yr.u (y:Yr) (k:Nat):Unt:=y.us.getD k Unt.zero
structure YIn (w:World) (F:Nat→Prop) (y:Yr):Prop where
  ps:InS w F 7 y.PA y.ps.length (pcell y.ps)
  xs:InS w F 1 y.XA y.xs.length (icl y.xs)
  pe:InS w F 1 y.BA y.pe.length (icl y.pe)
  prs:InS w F 5 y.QA y.prs.length (nW y.prs)
  us:InS w F 12 y.VA y.us.length (vcell y.us)
  sps:InS w F 3 y.SA y.sps.length (uQ y.sps)
  rt:∀ k,k<y.us.length→InS w F 2 (y.us.getD k Unt.zero).RA (y.us.getD k Unt.zero).rates.length (scell (y.us.getD k Unt.zero).rates)
  ul:∀ k,k<y.us.length→InS w F 6 (y.us.getD k Unt.zero).UA (y.us.getD k Unt.zero).uses.length (ucell (y.us.getD k Unt.zero).uses)
structure YBd (y:Yr):Prop where
  ps:y.ps.length*56≤140737488351232
  xs:y.xs.length*8≤140737488351232
  pe:y.pe.length*8≤140737488351232
  prs:y.prs.length*40≤140737488351232
  us:y.us.length*120≤140737488351232
  sps:y.sps.length*24≤140737488351232
  rt:∀ k,k<y.us.length→(y.us.getD k Unt.zero).rates.length*16≤140737488351232
  ul:∀ k,k<y.us.length→(y.us.getD k Unt.zero).uses.length*48≤140737488351232
  cap:∀ k,k<y.us.length→(y.us.getD k Unt.zero).uses.length≤(y.us.getD k Unt.zero).uc
section
variable {w w0:World} {F F0:Nat→Prop} {R:List Mem} {y:Yr}
theorem YIn.now (h:YIn w0 F0 y) (S:St w0 F0 R w):YIn w noF y:=
  ⟨h.ps.now S,h.xs.now S,h.pe.now S,h.prs.now S,h.us.now S,h.sps.now S,fun k hk=>(h.rt k hk).now S,fun k hk=>(h.ul k hk).now S⟩
theorem YBd.psn (h:YBd y):y.ps.length≤9223372036854775807:=by have:=h.ps;omega
theorem YBd.xsn (h:YBd y):y.xs.length≤9223372036854775807:=by have:=h.xs;omega
theorem YBd.pen (h:YBd y):y.pe.length≤9223372036854775807:=by have:=h.pe;omega
theorem YBd.prn (h:YBd y):y.prs.length≤9223372036854775807:=by have:=h.prs;omega
theorem YBd.usn (h:YBd y):y.us.length≤9223372036854775807:=by have:=h.us;omega
theorem YBd.spn (h:YBd y):y.sps.length≤9223372036854775807:=by have:=h.sps;omega
theorem YBd.rtn (h:YBd y) {k:Nat} (hk:k<y.us.length):(y.us.getD k Unt.zero).rates.length≤9223372036854775807:=by have:=h.rt k hk;omega
theorem YBd.uln (h:YBd y) {k:Nat} (hk:k<y.us.length):(y.us.getD k Unt.zero).uses.length≤9223372036854775807:=by have:=h.ul k hk;omega
end
def untI (u:Unt):Prop:=(1≤u.every∧u.every≤20)∧(-20≤u.seen∧u.seen≤0)∧(0≤u.kind∧u.kind≤3)∧u.uses.length≤20∧(prevD u.uses u.uses.length≤u.old∧u.old≤99980)∧(0≤u.tn∧u.tn≤1000000)∧(0≤u.cl∧u.cl≤(u.rates.length:Int)-1)
instance (u:Unt):Decidable (untI u):=by unfold untI;exact inferInstance
def freeN (ps:List Psg) (us:List Unt) (n i:Nat) (m:Int):Bool:=!allN (fun k=>!(decide (0≤(ps.getD k Psg.zero).mach)&&decide ((ps.getD k Psg.zero).mach=m))) n&&allN (fun k=>!decide ((us.getD k Unt.zero).mach=m)) i
def freeM (ps:List Psg) (us:List Unt) (i:Nat) (m:Int):Bool:=freeN ps us ps.length i m
noncomputable def untU (ps:List Psg) (us:List Unt) (i:Nat) (u:Unt):Bool:=freeM ps us i u.mach&&(decide (untI u)&&decide (wearE u.part u.uses=0))
noncomputable def untB (ps:List Psg) (us:List Unt) (i:Nat):Bool:=untU ps us i (us.getD i Unt.zero)
def sprB (days:Int) (s:Spr):Bool:=decide ((0≤s.day∧s.day≤days-1)∧(0≤s.kind∧s.kind≤3)∧(1≤s.many∧s.many≤8))
def yrI (y:Yr):Prop:=(1≤y.days∧y.days≤20)∧((y.pe.length:Int)=y.pl∧∀ k,k<y.pe.length→0≤y.pe.getD k 0∧y.pe.getD k 0≤1000)∧(0≤y.limit∧y.limit≤60)∧(0≤y.crew∧y.crew≤8)∧y.sps.length≤20∧∀ k,k<y.sps.length→sprB y.days (y.sps.getD k Spr.zero)=true
open Classical in
noncomputable def yearE (y:Yr):Int:=if keptE y.pl y.ps y.xs [] y.prs≠0 then keptE y.pl y.ps y.xs [] y.prs else if ¬ yrI y then 120 else if 6<y.us.length then 2 else if allN (untB y.ps y.us) y.us.length=true then 0 else 121
def befB (a b:Tsk):Bool:=if a.day≠b.day then decide (a.day<b.day) else if a.unit≠b.unit then decide (a.unit<b.unit) else decide (a.kind<b.kind)
def tskB (y:Yr) (l:List Tsk) (i:Nat):Bool:=decide ((0≤(l.getD i Tsk.zero).day∧(l.getD i Tsk.zero).day≤y.days-1)∧(0≤(l.getD i Tsk.zero).unit∧(l.getD i Tsk.zero).unit≤(y.us.length:Int)-1)∧(1≤(l.getD i Tsk.zero).kind∧(l.getD i Tsk.zero).kind≤2))&&(decide (i=0)||befB (l.getD (i-1) Tsk.zero) (l.getD i Tsk.zero))
noncomputable def taskE (y:Yr) (l:List Tsk):Int:=if yearE y≠0 then yearE y else if 60<l.length then 2 else if allN (tskB y l) l.length=true then 0 else 122
structure YOk (y:Yr):Prop where
  kept:keptE y.pl y.ps y.xs [] y.prs=0
  yr:yrI y
  many:y.us.length≤6
  un:∀ k,k<y.us.length→untB y.ps y.us k=true
section
variable {y:Yr} {l:List Tsk} {i k:Nat} {ps:List Psg} {us:List Unt}
theorem nZ (h:keptE y.pl y.ps y.xs [] y.prs≠0):yearE y=keptE y.pl y.ps y.xs [] y.prs:=by unfold yearE;rw [if_pos h]
theorem pK (h:keptE y.pl y.ps y.xs [] y.prs=0) (h1:¬ yrI y):yearE y=120:=by unfold yearE;rw [if_neg (by omega),if_pos h1]
theorem uR (h:keptE y.pl y.ps y.xs [] y.prs=0) (h1:yrI y) (h2:6<y.us.length):yearE y=2:=by unfold yearE;rw [if_neg (by omega),if_neg (fun h=>h h1),if_pos h2]
theorem uS (h:keptE y.pl y.ps y.xs [] y.prs=0) (h1:yrI y) (h2:¬ 6<y.us.length) (hk:k<y.us.length) (h3:untB y.ps y.us k=false):yearE y=121:=by
  unfold yearE;rw [if_neg (by omega),if_neg (fun h=>h h1),if_neg h2,if_neg]
  rw [bX]
  intro h4
  rw [h4 k hk] at h3
  cases h3
theorem Bj (h:keptE y.pl y.ps y.xs [] y.prs=0) (h1:yrI y) (h2:¬ 6<y.us.length) (h3:allN (untB y.ps y.us) y.us.length=true):yearE y=0:=by
  unfold yearE;rw [if_neg (by omega),if_neg (fun h=>h h1),if_neg h2,if_pos h3]
theorem pL (h:yearE y=0):YOk y:=by
  unfold yearE at h
  split at h
  · omega
  · split at h
    · cases h
    · split at h
      · cases h
      · split at h
        · rename_i h1 h2 h3 h4
          exact ⟨by omega,Classical.not_not.1 h2,by omega,bX.1 h4⟩
        · cases h
theorem uT (h:yearE y≠0):taskE y l=yearE y:=by unfold taskE;rw [if_pos h]
theorem uU (h:yearE y=0) (h1:60<l.length):taskE y l=2:=by unfold taskE;rw [if_neg (by omega),if_pos h1]
theorem gJ (h:yearE y=0) (h1:¬ 60<l.length) (hi:i<l.length) (h2:tskB y l i=false):taskE y l=122:=by
  unfold taskE;rw [if_neg (by omega),if_neg h1,if_neg]
  rw [bX]
  intro h4
  rw [h4 i hi] at h2
  cases h2
theorem uV (h:yearE y=0) (h1:¬ 60<l.length) (h2:allN (tskB y l) l.length=true):taskE y l=0:=by unfold taskE;rw [if_neg (by omega),if_neg h1,if_pos h2]
theorem pM (h:taskE y l=0):yearE y=0∧l.length≤60∧∀ k,k<l.length→tskB y l k=true:=by
  unfold taskE at h
  split at h
  · omega
  · split at h
    · cases h
    · split at h
      · rename_i h1 h2 h3
        exact ⟨by omega,by omega,bX.1 h3⟩
      · cases h
theorem yP (h:tskB y l i=true):(0≤(l.getD i Tsk.zero).day∧(l.getD i Tsk.zero).day≤y.days-1)∧(0≤(l.getD i Tsk.zero).unit∧(l.getD i Tsk.zero).unit≤(y.us.length:Int)-1)∧(1≤(l.getD i Tsk.zero).kind∧(l.getD i Tsk.zero).kind≤2):=by
  unfold tskB at h
  rw [Bool.and_eq_true] at h
  exact of_decide_eq_true h.1
theorem Gd (h:tskB y l i=true) (hi:0<i):befB (l.getD (i-1) Tsk.zero) (l.getD i Tsk.zero)=true:=by
  unfold tskB at h
  rw [Bool.and_eq_true,Bool.or_eq_true] at h
  rcases h.2 with h|h
  · have:=of_decide_eq_true h;omega
  · exact h
theorem Iw {m:Int}:freeM ps us i m=true↔(∃ k,k<ps.length∧0≤(ps.getD k Psg.zero).mach∧(ps.getD k Psg.zero).mach=m)∧∀ k,k<i→(us.getD k Unt.zero).mach≠m:=by
  unfold freeM freeN
  rw [Bool.and_eq_true,Bool.not_eq_true',←Bool.not_eq_true,bX,bX]
  constructor
  · rintro ⟨h1,h2⟩
    refine ⟨Classical.byContradiction fun h3=>h1 fun k hk=>?_,fun k hk=>?_⟩
    · rw [Bool.not_eq_true',←Bool.not_eq_true,Bool.and_eq_true,decide_eq_true_eq,decide_eq_true_eq]
      exact fun h4=>h3 ⟨k,hk,h4⟩
    · have:=h2 k hk
      rw [Bool.not_eq_true'] at this
      exact of_decide_eq_false this
  · rintro ⟨⟨k,hk,h1⟩,h2⟩
    refine ⟨fun h3=>?_,fun k hk=>by rw [decide_eq_false (h2 k hk)];rfl⟩
    have:=h3 k hk
    rw [decide_eq_true h1.1,decide_eq_true h1.2] at this
    cases this
structure UntOk (ps:List Psg) (us:List Unt) (u:Unt) (i:Nat):Prop where
  free:freeM ps us i u.mach=true
  i:untI u
  wear:wearE u.part u.uses=0
theorem uW {u:Unt}:untU ps us i u=true↔UntOk ps us u i:=by
  unfold untU
  rw [Bool.and_eq_true,Bool.and_eq_true,decide_eq_true_eq,decide_eq_true_eq]
  exact ⟨fun h=>⟨h.1,h.2.1,h.2.2⟩,fun h=>⟨h.free,h.i,h.wear⟩⟩
theorem iT:untB ps us i=true↔UntOk ps us (us.getD i Unt.zero) i:=uW
theorem Bk {u:Unt} (h:¬ UntOk ps us u i):untU ps us i u=false:=by rw [←Bool.not_eq_true,uW];exact h
def macP (ps:List Psg) (us:List Unt) (n i:Nat) (h:Int→Option Value):Prop:=∀ m,(h m).getD (.bool false) = .bool (freeN ps us n i m)
theorem Ix:macP ps us 0 0 (fun _=>none):=fun m=>rfl
theorem Bl {n:Nat} {m:Int}:freeN ps us (n+1) 0 m=(freeN ps us n 0 m||(decide (0≤(ps.getD n Psg.zero).mach)&&decide ((ps.getD n Psg.zero).mach=m))):=by
  unfold freeN
  simp only [allN,Bool.and_true,Bool.not_and,Bool.not_not,Bool.not_or]
theorem Sq {n:Nat} (hd:∀ j,j<n→0≤(ps.getD n Psg.zero).mach→(ps.getD j Psg.zero).mach≠(ps.getD n Psg.zero).mach) (hn:∀ j,j<n→(ps.getD n Psg.zero).mach<0→(ps.getD j Psg.zero).mach=(ps.getD n Psg.zero).mach→(ps.getD j Psg.zero).mach<0) :
    ∀ h,macP ps us n 0 h→macP ps us (n+1) 0 (fun k'=>if k'=(ps.getD n Psg.zero).mach then some (.bool (decide (0≤(ps.getD n Psg.zero).mach))) else h k'):=fun h hh m=>by
  dsimp only
  rw [Bl]
  by_cases e:m=(ps.getD n Psg.zero).mach
  · subst e
    rw [if_pos rfl,decide_eq_true (p:=(ps.getD n Psg.zero).mach=(ps.getD n Psg.zero).mach) rfl,Bool.and_true]
    by_cases h0:0≤(ps.getD n Psg.zero).mach
    · rw [decide_eq_true h0,Bool.or_true];rfl
    · rw [decide_eq_false h0,Bool.or_false]
      have:freeN ps us n 0 (ps.getD n Psg.zero).mach=false:=by
        unfold freeN
        rw [Bool.and_eq_false_iff]
        left
        rw [Bool.not_eq_false',bX]
        intro k hk
        rw [Bool.not_eq_true',Bool.and_eq_false_iff,decide_eq_false_iff_not,decide_eq_false_iff_not]
        by_cases e2:(ps.getD k Psg.zero).mach=(ps.getD n Psg.zero).mach
        · left;omega
        · exact .inr e2
      rw [this];rfl
  · rw [if_neg e,decide_eq_false (p:=(ps.getD n Psg.zero).mach=m) (fun h=>e h.symm),Bool.and_false,Bool.or_false]
    exact hh m
theorem Sr {i:Nat}:∀ h,macP ps us ps.length i h→macP ps us ps.length (i+1) (fun k'=>if k'=(us.getD i Unt.zero).mach then some (.bool false) else h k'):=fun h hh m=>by
  dsimp only
  have e0:freeN ps us ps.length (i+1) m=(freeN ps us ps.length i m&&!decide ((us.getD i Unt.zero).mach=m)):=by
    unfold freeN
    show (_&&(allN _ i&&_))=_
    rw [Bool.and_assoc]
  rw [e0]
  by_cases e:m=(us.getD i Unt.zero).mach
  · subst e
    rw [if_pos rfl,decide_eq_true rfl,Bool.not_true,Bool.and_false];rfl
  · rw [if_neg e,decide_eq_false (fun h=>e h.symm),Bool.not_false,Bool.and_true]
    exact hh m
theorem Bm (h:¬ UntOk ps us (us.getD i Unt.zero) i):untB ps us i=false:=by rw [←Bool.not_eq_true,iT];exact h
end
def bsum (f:Nat→Bool):Nat→Int
  | 0=>0
  | n+1=>bsum f n+if f n=true then 2^n else 0
theorem pN (n:Nat):(0:Int)<2^n:=Int.pow_pos (by decide)
theorem sK (f:Nat→Bool):∀ n,0≤bsum f n∧bsum f n<2^n:=by
  intro n
  induction n with
  | zero=>exact ⟨Int.le_refl 0,(by decide:(0:Int)<2^0)⟩
  | succ n ih=>
    have h:=pN n
    rw [bsum,Int.pow_succ]
    split <;> omega
theorem Ss {x:Int} {n:Nat} (h0:0≤x) (h1:x<2^n):x/2^n%2=0∧(x+2^n)/2^n%2=1:=by
  have hp:=pN n
  have e1:x/2^n=0:=Int.ediv_eq_zero_of_lt h0 h1
  refine ⟨by rw [e1];rfl,?_⟩
  have e2:(x+2^n)/2^n=x/2^n+1:=by
    have:=Int.add_mul_ediv_right x 1 (show (2:Int)^n≠0 by omega)
    rw [Int.one_mul] at this
    exact this
  rw [e2,e1];rfl
theorem Su {x:Int} {n d:Nat} (hd:d<n):(x+2^n)/2^d%2=x/2^d%2:=by
  have hp:=pN d
  have e:(2:Int)^n=(2^(n-d-1)*2)*2^d:=by
    rw [←Int.pow_succ,←Int.pow_add]
    congr 1;omega
  rw [e,Int.add_mul_ediv_right _ _ (by omega)]
  omega
theorem uX {f:Nat→Bool}:∀ {n d:Nat},d<n→bsum f n/2^d%2=if f d=true then 1 else 0:=by
  intro n
  induction n with
  | zero=>intro d h;omega
  | succ n ih=>
    intro d hd
    have hb:=sK f n
    rw [bsum]
    by_cases e:d=n
    · subst e
      have h:=Ss hb.1 hb.2
      split
      · exact h.2
      · rw [Int.add_zero];exact h.1
    · split
      · rw [Su (by omega)];exact ih (by omega)
      · rw [Int.add_zero];exact ih (by omega)
theorem Ge {f:Nat→Bool} {n d:Nat} (h:n≤d):bsum f n/2^d%2=0:=by
  have hb:=sK f n
  have hp:(2:Int)^n≤2^d:=by
    have h1:2^n≤2^d:=Nat.pow_le_pow_right (by decide) h
    exact_mod_cast h1
  rw [Int.ediv_eq_zero_of_lt hb.1 (by omega)];rfl
theorem wL (f:Nat→Bool) {n:Nat} (h:n≤39):0≤bsum f n∧bsum f n<2^40:=by
  have hb:=sK f n
  have hp:(2:Int)^n≤2^39:=by
    have h1:2^n≤2^39:=Nat.pow_le_pow_right (by decide) h
    exact_mod_cast h1
  omega
theorem Ed {d:Nat} (h:d≤39):i64ok (1*2^((d:Nat):Int).toNat):=by
  have hp:(2:Int)^d≤2^39:=by
    have h1:2^d≤2^39:=Nat.pow_le_pow_right (by decide) h
    exact_mod_cast h1
  have h0:=pN d
  rw [Int.toNat_natCast]
  unfold i64ok
  omega
theorem Oh {f:Nat→Bool} {n:Nat} (h:f n=true):bsum f n+2^((n:Nat):Int).toNat=bsum f (n+1):=by rw [bsum,if_pos h];rfl
theorem Oi {f:Nat→Bool} {n:Nat} (h:f n=false):bsum f n=bsum f (n+1):=by rw [bsum,if_neg (by rw [h];simp),Int.add_zero]
theorem oA {f g:Nat→Bool}:∀ {n:Nat},(∀ i,i<n→f i=g i)→bsum f n=bsum g n:=by
  intro n
  induction n with
  | zero=>intro _;rfl
  | succ n ih=>intro h;rw [bsum,bsum,ih fun i hi=>h i (by omega),h n (by omega)]
theorem Sv {m k:Nat} (hm:m<2^40) (hk:k<40) (h:m/2^k%2=0):IntKind.i64.wrap ((BitVec.ofInt 64 (m:Int) ||| BitVec.ofInt 64 ((2^k:Nat):Int)).toNat:Int)=((m+2^k:Nat):Int):=by
  have hp:2^k≤2^39:=Nat.pow_le_pow_right (by omega) (by omega)
  have e:((BitVec.ofInt 64 (m:Int) ||| BitVec.ofInt 64 ((2^k:Nat):Int)).toNat)=m+2^k:=by
    rw [BitVec.toNat_or,BitVec.ofInt_natCast,BitVec.ofInt_natCast,BitVec.toNat_ofNat,BitVec.toNat_ofNat,Nat.mod_eq_of_lt (by omega),Nat.mod_eq_of_lt (by omega)]
    exact Dd h
  rw [e]
  exact i64ok.eq ⟨by omega,by omega⟩
section
variable {P:Program} {L:List (Nat×Value)} {w:World} {d:Option Nat} {ty:TypeId} {pos:String} {af:Array Edge} {g:Option (Nat×Bool)}
theorem uY {x y:Operand} {xt yt:TypeId} {m k:Int} (hx:ev L x=some (.int .i64 m)) (hy:ev L y=some (.int .i64 (1*2^k.toNat))) (hm:0≤m∧m<2^40) (hk:0≤k∧k<40) (h:m/2^k.toNat%2=0) :
    Does P L ⟨d,.binOp .or xt x y yt,ty,pos,af,g⟩ w (.int .i64 (m+2^k.toNat)):=fun ρ hρ=>by
  obtain ⟨m,rfl⟩:∃ n:Nat,m=n:=⟨m.toNat,by omega⟩
  have e1:(1:Int)*2^k.toNat=((2^k.toNat:Nat):Int):=by push_cast;omega
  have h1:m/2^k.toNat%2=0:=by
    have h2:((m/2^k.toNat%2:Nat):Int)=0:=by push_cast;exact h
    omega
  have e2:(m:Int)+2^k.toNat=((m+2^k.toNat:Nat):Int):=by push_cast;rfl
  have e:Op.intBits .or .i64 (m:Int) (1*2^k.toNat)=pure (.int .i64 ((m:Int)+2^k.toNat)):=by
    rw [e1,e2]
    exact congrArg (fun z=>(pure (Value.int .i64 z):Sem Value)) (Sv (by have:=hm.2;omega) (by omega) h1)
  rw [Int.one_mul] at e
  simp [execOp,hρ _ _ hx,hρ _ _ hy,eqGuard,binOp,e]
end
structure LSt where
  uses:List Use
  born:Int
  seen:Int
def insp (j:Int):Bool:=decide (j/2^(1:Int).toNat%2=1)
def renw (j:Int):Bool:=decide (j/2^(2:Int).toNat%2=1)
def useAt (u:Unt) (d born:Int):Use:=⟨d-born,u.tn,u.cl,false,0,0⟩
noncomputable def bydB (p:Part) (l:List Use):Bool:=!decide ((fM p l Prod.snd).2=0)||decide (0≤(fM p l Prod.snd).1)
def seenN (s:LSt) (j:Int) (d:Nat):Int:=if insp j=true then (d:Int) else s.seen
def certN (u:Unt) (s:LSt) (j:Int) (d:Nat):Bool:=decide ((d:Int)-seenN s j d≤u.every)
noncomputable def runN (u:Unt) (s:LSt) (j:Int) (d:Nat):Bool:=(decide (j=0)&&certN u s j d)&&!bydB u.part (s.uses++[useAt u d s.born])
noncomputable def stepL (u:Unt) (s:LSt) (j:Int) (d:Nat):LSt:=⟨if renw j=true then [] else if runN u s j d=true then s.uses++[useAt u d s.born] else s.uses,if renw j=true then (d:Int) else s.born,seenN s j d⟩
noncomputable def lifeS (u:Unt) (J:Nat→Int):Nat→LSt
  | 0=>⟨u.uses,-u.old,u.seen⟩
  | d+1=>stepL u (lifeS u J d) (J d) d
noncomputable def certB (u:Unt) (J:Nat→Int) (d:Nat):Bool:=certN u (lifeS u J d) (J d) d
noncomputable def runB' (u:Unt) (J:Nat→Int) (d:Nat):Bool:=runN u (lifeS u J d) (J d) d
section
variable {u:Unt} {J J':Nat→Int} {d n:Nat}
theorem Iy:∀ d,(lifeS u J d).uses.length≤u.uses.length+d:=by
  intro d
  induction d with
  | zero=>exact Nat.le_refl _
  | succ d ih=>
    show (stepL u (lifeS u J d) (J d) d).uses.length≤_
    unfold stepL
    dsimp only
    split
    · simp
    · split
      · rw [List.length_append];show _+1≤_;omega
      · omega
theorem Ee (ho:0≤u.old∧u.old≤99980):∀ d,-99980≤(lifeS u J d).born∧(lifeS u J d).born≤d:=by
  intro d
  induction d with
  | zero=>exact ⟨by show -99980 ≤ -u.old;omega,by show -u.old≤((0:Nat):Int);omega⟩
  | succ d ih=>
    show -99980≤(stepL u (lifeS u J d) (J d) d).born∧(stepL u (lifeS u J d) (J d) d).born≤((d+1:Nat):Int)
    unfold stepL
    dsimp only
    split <;> omega
theorem Bn {s:LSt} {j:Int} (h : -20≤s.seen∧s.seen≤d) : -20≤seenN s j d∧seenN s j d≤d:=by
  unfold seenN
  split <;> omega
theorem Ef (ho : -20≤u.seen∧u.seen≤0):∀ d:Nat,-20≤(lifeS u J d).seen∧(lifeS u J d).seen≤d:=by
  intro d
  induction d with
  | zero=>exact ⟨ho.1,ho.2⟩
  | succ d ih=>
    have h:=Bn (j:=J d) ih
    show -20≤seenN (lifeS u J d) (J d) d∧seenN (lifeS u J d) (J d) d≤((d+1:Nat):Int)
    omega
theorem rK:∀ d,(∀ i,i<d→J i=J' i)→lifeS u J d=lifeS u J' d:=by
  intro d
  induction d with
  | zero=>intro _;rfl
  | succ d ih=>intro h;rw [lifeS,lifeS,ih fun i hi=>h i (by omega),h d (by omega)]
theorem Eh (h:∀ i,i≤d→J i=J' i):runB' u J d=runB' u J' d:=by unfold runB';rw [rK d fun i hi=>h i (by omega),h d (Nat.le_refl d)]
theorem Bo (h:∀ i,i≤d→J i=J' i):certB u J d=certB u J' d:=by unfold certB;rw [rK d fun i hi=>h i (by omega),h d (Nat.le_refl d)]
end
theorem Sw {w w0:World} {F0:Nat→Prop} {R:List Mem} {i b ty n:Nat} {f:Nat→Value} (S:St w0 F0 R w) (hi:R[i]?=some (boxM b ty ((List.range n).map f))) (hn:n≤maxLen):St w0 F0 (R.set i (ownM ty 1 (some ⟨b,0,none⟩) n n (fun k _=>f k))) w:=by
  refine S.imp hi (fun h => .inr ⟨b,_,rfl,h,Nat.le_refl _,hn,by simp,fun k j hk hj=>?_⟩) (fun k hk=>by obtain ⟨a,e,h⟩:=hk;cases e;exact h.symm)
  have:j=0:=by omega
  subst this
  simp [hk]
theorem Gf (u:Unt) (J:Nat→Int) (d:Nat) (x:Int) (h:x=seenN (lifeS u J d) (J d) d):((decide (J d=0)&&decide ((d:Int)-x≤u.every))&&!bydB u.part ((lifeS u J d).uses++[⟨(d:Int)-(lifeS u J d).born,u.tn,u.cl,false,0,0⟩]))=runB' u J d:=by subst h;rfl
theorem Bp (u:Unt) (J:Nat→Int) (d:Nat) (x:Int) (h:x=seenN (lifeS u J d) (J d) d):decide ((d:Int)-x≤u.every)=certB u J d:=by subst h;rfl
noncomputable def usesN (u:Unt) (J:Nat→Int) (d:Nat):List Use:=if runB' u J d=true then (lifeS u J d).uses++[useAt u d (lifeS u J d).born] else (lifeS u J d).uses
theorem Wn {u:Unt} {J:Nat→Int} {d:Nat} {x:Int} (h:renw (J d)=true) (hx:x=seenN (lifeS u J d) (J d) d):(⟨[],(d:Int),x⟩:LSt)=lifeS u J (d+1):=by
  subst hx
  show _=stepL u (lifeS u J d) (J d) d
  unfold stepL
  simp only [h,if_true]
theorem Wo {u:Unt} {J:Nat→Int} {d:Nat} {x:Int} (h:renw (J d)=false) (hx:x=seenN (lifeS u J d) (J d) d):(⟨usesN u J d,(lifeS u J d).born,x⟩:LSt)=lifeS u J (d+1):=by
  subst hx
  show _=stepL u (lifeS u J d) (J d) d
  unfold stepL usesN
  simp only [h,Bool.false_eq_true,if_false]
  rfl
theorem Gg {u:Unt} {J:Nat→Int} {d:Nat} (h:runB' u J d=true):usesN u J d=(lifeS u J d).uses++[useAt u d (lifeS u J d).born]:=if_pos h
theorem yQ {u:Unt} {J:Nat→Int} {d:Nat} (h:runB' u J d=false):usesN u J d=(lifeS u J d).uses:=if_neg (by rw [h];simp)
def hasT (l:List Tsk) (d u k:Int):Bool:=l.any fun t=>decide (t.day=d∧t.unit=u∧t.kind=k)
def jobV (l:List Tsk) (u d:Int):Int:=(if hasT l d u 1=true then 2 else 0)+(if hasT l d u 2=true then 4 else 0)
theorem wM {l:List Tsk} {u d:Int}:decide (jobV l u d=0)=(!hasT l d u 1&&!hasT l d u 2):=by
  unfold jobV
  cases hasT l d u 1 <;> cases hasT l d u 2 <;> decide
theorem Sx (l:List Tsk) (u d:Int):0≤jobV l u d∧jobV l u d≤6:=by
  unfold jobV
  cases hasT l d u 1 <;> cases hasT l d u 2 <;> decide
theorem Bq (l m:List Tsk) (d u k:Int):hasT (l++m) d u k=(hasT l d u k||hasT m d u k):=by unfold hasT;rw [List.any_append]
def jobF (l:List Tsk) (u:Nat):Nat→Int:=fun d=>jobV l u d
noncomputable def runsY (y:Yr) (l:List Tsk) (i d:Nat):Bool:=runB' (y.us.getD i Unt.zero) (jobF l i) d
noncomputable def outY (y:Yr) (l:List Tsk) (d:Nat):Nat→Int
  | 0=>0
  | i+1=>outY y l d i+if runsY y l i d=true then 0 else 2^(y.us.getD i Unt.zero).mach.toNat
def frzM (B:Nat→Prop) (wz:World):Mem where
  fp:=B
  holds:=fun w=>∀ k,B k→w.heap[k]?=wz.heap[k]?
  stable:=fun _ _ h h' k hk=>(h k hk).trans (h' k hk)
def RdF (w0:World) (F0 B:Nat→Prop) (wz:World) (sz:Nat) (A:Option Addr) (n:Nat) (cell:Nat→Nat→Value):Prop:=
  0<n→∃ b o,A=some ⟨b,o,none⟩∧((b<w0.heap.size∧¬ F0 b∧∀ k j,k<n→j<sz→w0.cell? ⟨b,o+k*sz+j,none⟩=some (cell k j))∨(B b∧b<wz.heap.size∧∀ k j,k<n→j<sz→wz.cell? ⟨b,o+k*sz+j,none⟩=some (cell k j)))
section
variable {w w0 wz:World} {F0 B:Nat→Prop} {R:List Mem} {sz n c i:Nat} {A:Option Addr} {cell:Nat→Nat→Value} {e:TypeId}
theorem RdF.base (h:InS w0 F0 sz A n cell):RdF w0 F0 B wz sz A n cell:=fun hn=>by
  obtain ⟨b,o,e,h1,h2,h3⟩:=h hn
  exact ⟨b,o,e,.inl ⟨h1,h2,h3⟩⟩
theorem RdF.nil:RdF w0 F0 B wz sz A 0 cell:=fun hn=>absurd hn (Nat.lt_irrefl 0)
theorem RdF.now (h:RdF w0 F0 B wz sz A n cell) (S:St w0 F0 R w) (hi:R[i]?=some (frzM B wz)):InS w noF sz A n cell:=fun hn=>by
  obtain ⟨b,o,e,h⟩:=h hn
  rcases h with ⟨h1,h2,h3⟩|⟨h1,h2,h3⟩
  · refine ⟨b,o,e,Nat.lt_of_lt_of_le h1 S.size,fun h=>h,fun k j hk hj=>?_⟩
    rw [←h3 k j hk hj]
    exact World.cell?_of_block (w:=w0) (S.ro b h1 h2)
  · refine ⟨b,o,e,(S.inn _ (List.mem_of_getElem? hi) b h1).1,fun h=>h,fun k j hk hj=>?_⟩
    rw [←h3 k j hk hj]
    exact World.cell?_of_block (w:=wz) (S.holds hi b h1)
theorem RdF.nowR {R':List Mem} (h:RdF w0 F0 B wz sz A n cell) (S:St w0 F0 R w) (hi:R[i]?=some (frzM B wz)) (hR:∀ m ∈ R',∃ j,j≠i∧R[j]?=some m):InS w (fps R') sz A n cell:=fun hn=>by
  obtain ⟨b,o,e,h⟩:=h hn
  rcases h with ⟨h1,h2,h3⟩|⟨h1,h2,h3⟩
  · refine ⟨b,o,e,Nat.lt_of_lt_of_le h1 S.size,fun ⟨m,hm,hmb⟩=>?_,fun k j hk hj=>?_⟩
    · obtain ⟨j,_,hj⟩:=hR m hm
      exact h2 ((S.inn m (List.mem_of_getElem? hj) b hmb).2 h1)
    · rw [←h3 k j hk hj]
      exact World.cell?_of_block (w:=w0) (S.ro b h1 h2)
  · refine ⟨b,o,e,(S.inn _ (List.mem_of_getElem? hi) b h1).1,fun ⟨m,hm,hmb⟩=>?_,fun k j hk hj=>?_⟩
    · obtain ⟨j,hji,hj⟩:=hR m hm
      exact S.disj j i m _ hj hi hji b hmb h1
    · rw [←h3 k j hk hj]
      exact World.cell?_of_block (w:=wz) (S.holds hi b h1)
theorem RdF.adr (h:RdF w0 F0 B wz sz A n cell) (hn:0<n):A=some ⟨(Go.Proofs.YtoekeohiokcefaaGreat.adr A).block,(Go.Proofs.YtoekeohiokcefaaGreat.adr A).off,none⟩:=by
  obtain ⟨b,o,rfl,_⟩:=h hn
  rfl
theorem RdF.rd (h:RdF w0 F0 B wz sz A n cell) (S:St w0 F0 R w) (hi:R[i]?=some (frzM B wz)) {k j:Nat} (hk:k<n) (hj:j<sz):w.cell? (pt A sz k j)=some (cell k j):=(h.now S hi).rd (St.start w) hk hj
theorem RdF.congr {cell':Nat→Nat→Value} (h:RdF w0 F0 B wz sz A n cell) (hc:∀ k j,k<n→j<sz→cell k j=cell' k j):RdF w0 F0 B wz sz A n cell':=fun hn=>by
  obtain ⟨b,o,e,h⟩:=h hn
  rcases h with ⟨h1,h2,h3⟩|⟨h1,h2,h3⟩
  · exact ⟨b,o,e,.inl ⟨h1,h2,fun k j hk hj=>by rw [h3 k j hk hj,hc k j hk hj]⟩⟩
  · exact ⟨b,o,e,.inr ⟨h1,h2,fun k j hk hj=>by rw [h3 k j hk hj,hc k j hk hj]⟩⟩
theorem St.frz0 (S:St w0 F0 R w):St w0 F0 (frzM noF w::R) w:=S.new (Keeps.refl _ _) (fun _ h=>h.elim) (fun _ h=>h.elim)
theorem RdF.grow {B':Nat→Prop} (h:RdF w0 F0 B wz sz A n cell) (S:St w0 F0 R w) (hi:R[i]?=some (frzM B wz)) (hB:∀ k,B k→B' k):RdF w0 F0 B' w sz A n cell:=fun hn=>by
  obtain ⟨b,o,e,h⟩:=h hn
  rcases h with h|⟨h1,h2,h3⟩
  · exact ⟨b,o,e,.inl h⟩
  · refine ⟨b,o,e,.inr ⟨hB b h1,(S.inn _ (List.mem_of_getElem? hi) b h1).1,fun k j hk hj=>?_⟩⟩
    rw [←h3 k j hk hj]
    exact World.cell?_of_block (w:=wz) (S.holds hi b h1)
theorem St.freeze (S:St w0 F0 (ownM e sz A n c cell::R) w) (hi:R[i]?=some (frzM B wz)) :
    ∃ B',St w0 F0 (R.set i (frzM B' w)) w∧RdF w0 F0 B' w sz A n cell∧∀ sz' A' n' cell',RdF w0 F0 B wz sz' A' n' cell'→RdF w0 F0 B' w sz' A' n' cell':=by
  refine ⟨fun k=>B k∨(ownM e sz A n c cell).fp k,S.merge (i:=i) hi (fun _ _=>rfl) (fun k h=>h.symm),fun hn=>?_,fun sz' A' n' cell' h=>h.grow S (i:=i+1) (by simpa using hi) fun _ h => .inl h⟩
  have hown:=S.holds (i:=0) rfl
  rcases hown with ⟨_,h,_⟩|⟨b,cs,rfl,hb,h1,h2,h3,h4⟩
  · omega
  · refine ⟨b,0,rfl,.inr ⟨.inr ⟨_,rfl,rfl⟩,dQ hb,fun k j hk hj=>?_⟩⟩
    rw [←h4 k j hk hj,Nat.zero_add]
    exact cell_of_row w b (k*sz+j) cs e (0,0) hb
end
section
variable {P:Program} {ops:Array Oper} {w w0:World} {F0:Nat→Prop} {R:List Mem} {Q:Exit→Act→World→Prop} {rest:List Oper} {N:FN} {L:List (Nat×Value)} {a:Act} {ty:TypeId} {pos:String} {af:Array Edge}
theorem pO {d t e sz by_ n c m c':Nat} {x y:Operand} {zs:List Value} {A B:Option Addr} {cell cell':Nat→Nat→Value} (H:Fr N L a) (hd:Nat.blt d N.n=true) (S:St w0 F0 R w) (ht:SlT P t e) (hs:Sz P e sz) (hz:Zero P e zs) (hby:Bytes P e by_) (hzs:Nat.beq zs.length sz=true) (hpos:Nat.blt 0 sz=true)
    (hx:ev L x=some (.slice A n c)) (hy:ev L y=some (.slice B m c')) (hA:InS w noF sz A n cell) (hn:A=none→n=0∧c=0) (hfull:c<n+m) (hm:0<m) (hB:InS w noF sz B m cell') (hone:∀ k j,k<m→j<sz→(cell' k j).oneCell'=true)
    (hlen:(n+m)*by_≤140737488355328) (hlen2:n+m≤9223372036854775807)
    (k:∀ A' c1 w' a',St w0 F0 (ownM e sz A' (n+m) c1 (capp n cell cell')::R) w'→Fr N ((d,.slice A' (n+m) c1)::L) a'→wpList P ops Q rest a' w') :
    wpList P ops Q (⟨some d,.call ⟨.builtin .append,#[x,y],#[t,t]⟩,ty,pos,af,none⟩::rest) a w:=by
  have hpos':0<sz:=by simpa using hpos
  have hzs':zs.length=sz:=Nat.eq_of_beq_eq_true hzs
  have hflat:∀ (q:Nat) (C:Option Addr) (cl:Nat→Nat→Value),InS w noF sz C q cl→∀ b,C=some b→∀ (j:Nat) u,(flat sz q cl)[j]?=some u→w.cell? (b.add j)=some u:=by
    intro q C cl h b hb j u hu
    have hjl:j<q*sz:=by
      have:=(List.getElem?_eq_some_iff.1 hu).1
      simpa [flat] using this
    have hq0:0<q:=by
      rcases Nat.eq_zero_or_pos q with h0|h0
      · subst h0;omega
      · exact h0
    obtain ⟨b',o,hC,_,_,hc⟩:=h hq0
    rw [hb] at hC
    injection hC with hC
    subst hC
    rw [fG]
    have hk:j/sz<q:=(Nat.div_lt_iff_lt_mul hpos').2 hjl
    have hj:j%sz<sz:=Nat.mod_lt _ hpos'
    have he:j/sz*sz+j%sz=j:=by rw [Nat.mul_comm];exact Nat.div_add_mod j sz
    have h1:=hc _ _ hk hj
    have h2:=jK (cell:=cl) hk hj
    rw [he,hu,Option.some.injEq] at h2
    rw [Nat.add_assoc,he] at h1
    rw [h1,h2]
  unfold Zero at hz
  unfold Sz at hs
  unfold Bytes at hby
  cases hi:P.info? e with
  | none=>rw [hi] at hz;simp at hz
  | some i=>
    rw [hi] at hz hs hby
    simp at hz hs hby
    obtain ⟨z,hz1,hz2⟩:=hz
    have hzsz:z.cells.size=sz:=by rw [←hzs',←hz2];simp
    obtain ⟨bb,bo,hBe,_⟩:=hB hm
    have hone':∀ u ∈ flat sz m cell',u.oneCell'=true:=by
      intro u hu
      simp only [flat,List.mem_map,List.mem_range] at hu
      obtain ⟨q,hq,rfl⟩:=hu
      exact hone _ _ ((Nat.div_lt_iff_lt_mul hpos').2 hq) (Nat.mod_lt _ hpos')
    refine wpList_append_grows (w:=w) rfl x y t rfl e i z sz by_ ht hi hz1 hs hby hzsz hpos' A n c (flat sz n cell) (H.eval hx) hn (by simp [flat]) (hflat n A cell hA) ⟨bb,bo,none⟩ m c' (flat sz m cell') (by rw [H.eval hy,hBe]) (by simp [flat]) (fun j u hu=>hflat m B cell' hB ⟨bb,bo,none⟩ hBe j u hu) hone' hfull (by simp only [maxLen];omega) hlen ?_
    intro v' w' hown hgrow
    have hfl:∀ k j,k<n+m→j<sz→(flat sz n cell++flat sz m cell')[k*sz+j]?=some (capp n cell cell' k j):=by
      intro k j hk hj
      have hl:(flat sz n cell).length=n*sz:=by simp [flat]
      unfold capp
      by_cases hkn:k<n
      · rw [if_pos hkn]
        have hlt:k*sz+j<n*sz:=by
          have:(k+1)*sz≤n*sz:=Nat.mul_le_mul_right _ (by omega)
          rw [Nat.add_mul] at this
          omega
        rw [List.getElem?_append_left (by omega)]
        exact jK hkn hj
      · rw [if_neg hkn]
        have hge:n*sz≤k*sz:=Nat.mul_le_mul_right _ (by omega)
        rw [List.getElem?_append_right (by omega),hl]
        have:k*sz+j-n*sz=(k-n)*sz+j:=by rw [Nat.sub_mul];omega
        rw [this]
        exact jK (by omega) hj
    have hown0:w'.ownsRow 0 e sz v' (n+m) (flat sz n cell++flat sz m cell'):=⟨hown.1,hown.2.imp (fun h=>h) fun ⟨g,cap,cur,h1,h2,h3⟩=>⟨g,cap,cur,h1,Nat.zero_le _,h3⟩⟩
    obtain ⟨A',c1,rfl,h6,h7⟩:=xE (cell:=capp n cell cell') hown0 hfl
    refine k A' c1 w' _ (S.new ((Keeps.of_grown hgrow).mono fun k hk=>by cases hk) h6 ?_) (H.put _ hd)
    rintro q ⟨aa,rfl,rfl⟩
    rcases hown.2 with ⟨h,_⟩|⟨g,cap,cur,h,h1,h2,_⟩
    · cases h
    · injection h with h _ _
      injection h with h
      subst h
      exact ⟨h1,dQ h2⟩
end
theorem rL {P:Program} {L:List (Nat×Value)} {w:World} {d:Option Nat} {ty:TypeId} {pos:String} {af:Array Edge} {g:Option (Nat×Bool)} {t e sz:Nat} {x y z:Operand} {A:Option Addr} {n c hi:Nat} {k1 k2:IntKind} (ht:SlT P t e) (hs:Sz P e sz) (hx:ev L x=some (.slice A n c)) (hy:ev L y=some (.int k1 (hi:Int))) (hz:ev L z=some (.int k2 (hi:Int))) (h:hi≤c) :
    Does P L ⟨d,.slice t x none (some y) (some z),ty,pos,af,g⟩ w (.slice A hi hi):=fun ρ hρ=>by
  have hb:(Instr.sliceBounds true n c none (some (.int k1 (hi:Int))) (some (.int k2 (hi:Int)))).run P w = .ok (0,hi,hi) w:=by
    simp [Instr.sliceBounds,Instr.sliceBound,asIntOf,h]
  have e1:(Instr.sliceAt t (.slice A n c) none (some (.int k1 (hi:Int))) (some (.int k2 (hi:Int)))).run P w = .ok (.slice A hi hi) w:=by
    unfold Instr.sliceAt
    simp only [Sem.run_bind,bU ht,Result.andThen_ok,Instr.slice,hb,hs.run,Sem.run_pure]
    have e0:(if hi=0 then A else A.map (·.add (0*sz)))=A:=by
      split
      · rfl
      · cases A with
        | none=>rfl
        | some ad=>simp [Addr.add]
    rw [e0]
    rfl
  simp [execOp,hρ _ _ hx,hρ _ _ hy,hρ _ _ hz,e1]
section
variable {w w0:World} {F0:Nat→Prop} {R:List Mem} {i b:Nat} {κ:Type} [DecidableEq κ] {enc:κ→Value} {Φ Φ':(κ→Option Value)→Prop}
theorem mapK.fix (S:St w0 F0 R w) (hi:R[i]?=some (mapK enc b Φ)):∃ h0,Φ h0∧St w0 F0 (R.set i (mapK enc b (fun h=>h=h0))) w:=by
  obtain ⟨es,ck,l,h1,h2,h3,h4,h5⟩:=S.holds hi
  exact ⟨getL l,h5,S.imp hi (fun _=>⟨es,ck,l,h1,h2,h3,h4,rfl⟩) (fun _ h=>h)⟩
theorem mapK.weak (S:St w0 F0 R w) (hi:R[i]?=some (mapK enc b Φ)) (h:∀ g,Φ g→Φ' g):St w0 F0 (R.set i (mapK enc b Φ')) w:=
  S.imp hi (fun ⟨es,ck,l,h1,h2,h3,h4,h5⟩=>⟨es,ck,l,h1,h2,h3,h4,h _ h5⟩) (fun _ h=>h)
theorem Br {ty:TypeId} {cs:List Value} (S:St w0 F0 R w) (hi:R[i]?=some (boxM b ty cs)) (hn:cs.length≤maxLen):St w0 F0 (R.set i (ownM ty 1 (some ⟨b,0,none⟩) cs.length cs.length (fun k _=>cs.getD k undef))) w:=by
  refine S.imp hi (fun h => .inr ⟨b,_,rfl,h,Nat.le_refl _,hn,by simp,fun k j hk hj=>?_⟩) (fun k hk=>by obtain ⟨a,e,h⟩:=hk;cases e;exact h.symm)
  have:j=0:=by omega
  subst this
  simp [hk]
theorem Sy {ty:TypeId} {n:Nat} {cell:Nat→Nat→Value} (S:St w0 F0 R w) (hi:R[i]?=some (ownM ty 1 (some ⟨b,0,none⟩) n n cell)):St w0 F0 (R.set i (boxM b ty ((List.range n).map fun k=>cell k 0))) w:=by
  refine S.imp hi (fun h=>?_) (fun k hk=>⟨_,rfl,hk.symm⟩)
  rcases h with ⟨h,_⟩|⟨b',cs,hA,hb,h1,h2,h3,h4⟩
  · cases h
  · injection hA with hA
    injection hA with hA
    subst hA
    show w.heap[b]?=_
    rw [hb]
    have e:cs=((List.range n).map fun k=>cell k 0).toArray:=by
      apply Array.ext
      · simp;omega
      · intro k hk1 hk2
        have hk:k<n:=by simpa using hk2
        have:=h4 k 0 hk (by omega)
        rw [Nat.mul_one,Nat.add_zero,Array.getElem?_eq_getElem hk1,Option.some.injEq] at this
        rw [this];simp
    rw [e]
end
def orJ (j k:Int):Int:=if k=1 then (if j/2%2=1 then j else j+2) else (if j/4%2=1 then j else j+4)
theorem Oj {P:Program} {L:List (Nat×Value)} {w:World} {d:Option Nat} {ty:TypeId} {pos:String} {af:Array Edge} {g:Option (Nat×Bool)} {x y:Operand} {xt yt:TypeId} {j k:Int} (hx:ev L x=some (.int .i64 j)) (hy:ev L y=some (.int .i64 (1*2^k.toNat))) (hj:j=0∨j=2∨j=4∨j=6) (hk:1≤k∧k≤2) :
    Does P L ⟨d,.binOp .or xt x y yt,ty,pos,af,g⟩ w (.int .i64 (orJ j k)):=fun ρ hρ=>by
  have hk':k=1∨k=2:=by omega
  have e:Op.intBits .or .i64 j (1*2^k.toNat)=pure (.int .i64 (orJ j k)):=by
    rcases hk' with rfl|rfl <;> rcases hj with rfl|rfl|rfl|rfl <;> rfl
  simp only [execOp,hρ _ _ hx,hρ _ _ hy]
  rw [Int.one_mul] at e
  simp [eqGuard,binOp,e]
theorem Iz (l:List Tsk) (u d:Int):jobV l u d=0∨jobV l u d=2∨jobV l u d=4∨jobV l u d=6:=by
  unfold jobV
  cases hasT l d u 1 <;> cases hasT l d u 2 <;> decide
theorem Ol (t:Tsk) (d u k:Int):hasT [t] d u k=decide (t.day=d∧t.unit=u∧t.kind=k):=by
  unfold hasT;simp
theorem uZ {l:List Tsk} {t:Tsk} {u d:Int} (hk:1≤t.kind∧t.kind≤2):jobV (l++[t]) u d=if t.unit=u∧t.day=d then orJ (jobV l u d) t.kind else jobV l u d:=by
  have h1:=Bq l [t] d u 1
  have h2:=Bq l [t] d u 2
  rw [Ol] at h1 h2
  by_cases h:t.unit=u∧t.day=d
  · rw [if_pos h]
    have hk':t.kind=1∨t.kind=2:=by omega
    unfold jobV
    rw [h1,h2]
    rcases hk' with e|e
    · rw [e,decide_eq_true (show t.day=d∧t.unit=u∧(1:Int)=1 from ⟨h.2,h.1,rfl⟩),decide_eq_false (show ¬ (t.day=d∧t.unit=u∧(1:Int)=2) from fun h=>by omega)]
      cases hasT l d u 1 <;> cases hasT l d u 2 <;> decide
    · rw [e,decide_eq_false (show ¬ (t.day=d∧t.unit=u∧(2:Int)=1) from fun h=>by omega),decide_eq_true (show t.day=d∧t.unit=u∧(2:Int)=2 from ⟨h.2,h.1,rfl⟩)]
      cases hasT l d u 1 <;> cases hasT l d u 2 <;> decide
  · rw [if_neg h]
    unfold jobV
    rw [h1,h2,decide_eq_false (fun h9=>h ⟨h9.2.1,h9.1⟩),decide_eq_false (fun h9=>h ⟨h9.2.1,h9.1⟩),Bool.or_false,Bool.or_false]
theorem wN {l:List Tsk} {k:Nat} (hk:k<l.length):l.take (k+1)=l.take k++[l.getD k Tsk.zero]:=by
  rw [List.take_succ_eq_append_getElem hk,List.getD_eq_getElem?_getD,List.getElem?_eq_getElem hk]
  rfl
def kcl (i:Nat) (J:Nat→Int) (k _j:Nat):Value:=if k=0 then .int .i64 i else .int .i64 (J (k-1))
def jobP (l:List Tsk) (n i:Nat):Nat→Int:=fun d=>jobV (l.take n) i d
theorem Om (l:List Tsk) (i:Nat):jobP l l.length i=jobF l i:=by
  funext d;unfold jobP jobF;rw [List.take_length]
theorem Ja (l:List Tsk) (i:Nat):jobP l 0 i=fun _=>0:=by funext d;rfl
theorem On {l:List Tsk} {i k j:Nat} (hk:k<21) (hj:j<1):(([.int .i64 (i:Int),.int .i64 0,.int .i64 0,.int .i64 0,.int .i64 0,.int .i64 0,.int .i64 0,.int .i64 0,.int .i64 0,.int .i64 0,.int .i64 0,.int .i64 0,.int .i64 0,.int .i64 0,.int .i64 0,.int .i64 0,.int .i64 0,.int .i64 0,.int .i64 0,.int .i64 0,.int .i64 0]:List Value).getD k undef)=kcl i (jobP l 0 i) k j:=by
  rw [Ja]
  unfold kcl
  rcases Nat.eq_zero_or_pos k with e|e
  · subst e;rfl
  · rw [if_neg (by omega)]
    obtain ⟨q,rfl⟩:∃ q,k=q+1:=⟨k-1,by omega⟩
    have hq:q<20:=by omega
    show ((List.replicate 20 (Value.int .i64 0)).getD q undef)=_
    rw [List.getD_eq_getElem?_getD,List.getElem?_replicate,if_pos hq]
    rfl
theorem Ta {k:Int} (h:1≤k∧k≤2):i64ok (1*2^k.toNat):=by
  have hk':k=1∨k=2:=by omega
  rcases hk' with rfl|rfl <;> (unfold i64ok;decide)
theorem Tb {l:List Tsk} {n i:Nat} (hn:n<l.length) (hk:1≤(l.getD n Tsk.zero).kind∧(l.getD n Tsk.zero).kind≤2) (h:¬ (l.getD n Tsk.zero).unit=(i:Int)):jobP l (n+1) i=jobP l n i:=by
  funext d
  unfold jobP
  rw [wN hn,uZ hk,if_neg (fun h9=>h h9.1)]
theorem Tc {l:List Tsk} {n i d:Nat} (hn:n<l.length) (hk:1≤(l.getD n Tsk.zero).kind∧(l.getD n Tsk.zero).kind≤2) (h:(l.getD n Tsk.zero).unit=(i:Int)) (hd:(l.getD n Tsk.zero).day=(d:Int)) :
    ∀ k j,j<1→cput (kcl i (jobP l n i)) (d+1) 0 (.int .i64 (orJ (jobP l n i d) (l.getD n Tsk.zero).kind)) k j=kcl i (jobP l (n+1) i) k j:=by
  intro k j hj
  have hj0:j=0:=by omega
  subst hj0
  unfold cput kcl jobP
  rw [wN hn]
  by_cases e:k=d+1
  · subst e
    rw [if_pos ⟨rfl,rfl⟩,if_neg (by omega),Nat.add_sub_cancel,uZ hk,if_pos ⟨h,hd⟩]
  · rw [if_neg (fun h9=>e h9.1)]
    by_cases e0:k=0
    · rw [if_pos e0,if_pos e0]
    · rw [if_neg e0,if_neg e0,uZ hk,if_neg (fun h9=>by omega)]
def keyOf (i:Nat) (J:Nat→Int):KeyN 21:=⟨(i:Int)::(List.range 20).map J,by simp⟩
noncomputable def lifeV (u:Unt) (J:Nat→Int) (n:Nat):Value := .agg [.int .i64 (bsum (runB' u J) n),.int .i64 (bsum (certB u J) n)].toArray
theorem Bs {u:Unt} {J J':Nat→Int} {n:Nat} (h:∀ d,d<n→J d=J' d):lifeV u J n=lifeV u J' n:=by
  unfold lifeV
  rw [oA (f:=runB' u J) (g:=runB' u J') fun d hd=>Eh fun i hi=>h i (by omega),oA (f:=certB u J) (g:=certB u J') fun d hd=>Bo fun i hi=>h i (by omega)]
theorem Jb {i i':Nat} {J J':Nat→Int} (h:keyOf i J=keyOf i' J'):i=i'∧∀ d,d<20→J d=J' d:=by
  have h1:(i:Int)::(List.range 20).map J=(i':Int)::(List.range 20).map J':=congrArg Subtype.val h
  injection h1 with h2 h3
  refine ⟨by omega,fun d hd=>?_⟩
  have h4:=congrArg (fun l=>l[d]?) h3
  simp only [List.getElem?_map,List.getElem?_range hd,Option.map_some,Option.some.injEq] at h4
  exact h4
def livP (y:Yr) (h:KeyN 21→Option Value):Prop:=∀ i J v,i<y.us.length→h (keyOf i J)=some v→v=lifeV (y.us.getD i Unt.zero) J y.days.toNat
theorem Jc {y:Yr}:livP y (fun _=>none):=fun _ _ _ _ h=>by cases h
theorem Oo {y:Yr} {i:Nat} {J:Nat→Int} {v:Value} (hd:y.days.toNat≤20) (hv:v=lifeV (y.us.getD i Unt.zero) J y.days.toNat):∀ h,livP y h→livP y (fun k'=>if k'=keyOf i J then some v else h k'):=fun h hh i' J' v' hi' hv'=>by
  dsimp only at hv'
  split at hv'
  · rename_i e
    obtain ⟨e1,e2⟩:=Jb e
    subst e1
    rw [Option.some.injEq] at hv'
    rw [←hv',hv]
    exact Bs fun d hd'=>(e2 d (by omega)).symm
  · exact hh i' J' v' hi' hv'
noncomputable def leavB (y:Yr) (out:Int):Bool:=decide (mfv y.pl.toNat y.limit.toNat y.pe y.xs (hds out y.xs y.ps)=sumI y.pe y.pe.length)
def safP (y:Yr) (h:Int→Option Value):Prop:=∀ o v,(0≤o∧o≤4095)→h o=some v→v = .bool (leavB y o)
theorem Jd {y:Yr}:safP y (fun _=>none):=fun _ _ _ h=>by cases h
theorem Oq {y:Yr} {o:Int} {v:Value} (hv:v = .bool (leavB y o)):∀ h,safP y h→safP y (fun k'=>if k'=o then some v else h k'):=fun h hh o' v' ho' hv'=>by
  dsimp only at hv'
  split at hv'
  · rename_i e;subst e;rw [Option.some.injEq] at hv';rw [←hv',hv]
  · exact hh o' v' ho' hv'
noncomputable def prmB (y:Yr) (d out:Int) (k:Nat):Bool:=!(decide ((y.prs.getD k Prm.zero).first≤d)&&decide (d≤(y.prs.getD k Prm.zero).last))||decide (0≤dst y.pl.toNat y.ps out (y.help&&(y.prs.getD k Prm.zero).helped) (y.prs.getD k Prm.zero).to.toNat (y.prs.getD k Prm.zero).fr.toNat)
noncomputable def keepB (y:Yr) (d out:Int):Bool:=allN (prmB y d out) y.prs.length
def kepP (y:Yr) (h:Int×Int→Option Value):Prop:=∀ d o v,(0≤o∧o≤4095)→h (d,o)=some v→v = .bool (keepB y d o)
theorem Je {y:Yr}:kepP y (fun _=>none):=fun _ _ _ _ h=>by cases h
theorem Ot {y:Yr} {d o:Int} {v:Value} (hv:v = .bool (keepB y d o)):∀ h,kepP y h→kepP y (fun k'=>if k'=(d,o) then some v else h k'):=fun h hh d' o' v' ho' hv'=>by
  dsimp only at hv'
  split at hv'
  · rename_i e;cases e;rw [Option.some.injEq] at hv';rw [←hv',hv]
  · exact hh d' o' v' ho' hv'
theorem Ou {f g:Nat→Bool} {n:Nat} (h1:f n=false) (h2:g n=true) (h3:∀ i,i≠n→g i=f i):∀ N,bsum g N=bsum f N+if n<N then 2^n else 0:=by
  intro N
  induction N with
  | zero=>rw [if_neg (by omega)];rfl
  | succ N ih=>
    rw [bsum,bsum,ih]
    by_cases e:N=n
    · subst e
      rw [h1,h2,if_neg (Nat.lt_irrefl N),if_pos (c:=N<N+1) (by omega)]
      simp
    · rw [h3 N e]
      generalize (if f N=true then (2:Int)^N else 0)=z
      by_cases h4:n<N
      · rw [if_pos h4,if_pos (c:=n<N+1) (by omega)];omega
      · rw [if_neg h4,if_neg (c:=n<N+1) (by omega)];omega
noncomputable def outM (y:Yr) (l:List Tsk) (d k m:Nat):Bool:=!allN (fun i=>!(decide ((y.us.getD i Unt.zero).mach=(m:Int))&&!runsY y l i d)) k
section
variable {y:Yr} {l:List Tsk} {d k m:Nat}
theorem qR:outM y l d (k+1) m=(outM y l d k m||(decide ((y.us.getD k Unt.zero).mach=(m:Int))&&!runsY y l k d)):=by
  unfold outM
  simp only [allN,Bool.not_and,Bool.not_not,Bool.not_or]
theorem Bt:outM y l d k m=true↔∃ i,i<k∧(y.us.getD i Unt.zero).mach=(m:Int)∧runsY y l i d=false:=by
  unfold outM
  rw [Bool.not_eq_true',←Bool.not_eq_true,bX]
  constructor
  · intro h
    refine Classical.byContradiction fun h2=>h fun i hi=>?_
    rw [Bool.not_eq_true',←Bool.not_eq_true,Bool.and_eq_true,decide_eq_true_eq,Bool.not_eq_true']
    exact fun h3=>h2 ⟨i,hi,h3⟩
  · rintro ⟨i,hi,h1,h2⟩ h
    have:=h i hi
    rw [h1,h2] at this
    simp at this
theorem jJ {ps:List Psg} {us:List Unt} {P:Int} {xs:List Int} (V:StV P ps xs) {u:Unt} {i:Nat} (h:UntOk ps us u i):(0≤u.mach∧u.mach≤11)∧∀ j,j<i→(us.getD j Unt.zero).mach≠u.mach:=by
  obtain ⟨⟨k,hk,h1,h2⟩,h3⟩:=Iw.1 h.free
  have h4:=dD.1 (V.pas k hk)
  exact ⟨by omega,h3⟩
theorem YOk.V (h:YOk y):StV y.pl y.ps y.xs:=gV (pE (pF h.kept).1).1
theorem vA (h:YOk y) (hk:k<y.us.length):outM y l d k (y.us.getD k Unt.zero).mach.toNat=false:=by
  have h1:=jJ h.V (iT.1 (h.un k hk))
  rw [←Bool.not_eq_true,Bt]
  rintro ⟨i,hi,h2,_⟩
  have:=h1.2 i hi
  omega
theorem wO (h:YOk y):∀ k,k≤y.us.length→outY y l d k=bsum (outM y l d k) 12:=by
  intro k
  induction k with
  | zero=>
    intro _
    have:∀ N,bsum (outM y l d 0) N=0:=fun N=>by
      induction N with
      | zero=>rfl
      | succ N ih=>rw [bsum,ih];rfl
    rw [this];rfl
  | succ k ih=>
    intro hk
    have h1:=jJ h.V (iT.1 (h.un k (by omega)))
    have hf:=vA (l:=l) (d:=d) h (show k<y.us.length by omega)
    rw [outY,ih (by omega)]
    by_cases hr:runsY y l k d=true
    · rw [if_pos hr,Int.add_zero]
      refine oA fun i _=>?_
      rw [qR,hr]
      simp
    · rw [if_neg hr]
      rw [Bool.not_eq_true] at hr
      rw [Ou (g:=outM y l d (k+1)) (n:=(y.us.getD k Unt.zero).mach.toNat) hf (by rw [qR,hr,decide_eq_true (by omega)];simp) (fun i hi=>by rw [qR,decide_eq_false (by omega)];simp),if_pos (by omega)]
theorem sM (h:YOk y) (hk:k≤y.us.length):0≤outY y l d k∧outY y l d k≤4095:=by
  rw [wO h k hk]
  have:=sK (outM y l d k) 12
  have e:(2:Int)^12=4096:=by decide
  omega
theorem Bu (h:YOk y) (hk:k≤y.us.length) (hm:m<12):outY y l d k/2^m%2=if outM y l d k m=true then 1 else 0:=by
  rw [wO h k hk];exact uX hm
theorem Ei (h:YOk y) (hk:k<y.us.length):outY y l d k/2^(y.us.getD k Unt.zero).mach.toNat%2=0:=by
  have h1:=jJ h.V (iT.1 (h.un k hk))
  rw [Bu h (by omega) (by omega),vA h hk];rfl
theorem Ov (hr:runsY y l k d=true):outY y l d (k+1)=outY y l d k:=by rw [outY,if_pos hr,Int.add_zero]
theorem Ow (hr:runsY y l k d=false):outY y l d (k+1)=outY y l d k+2^(y.us.getD k Unt.zero).mach.toNat:=by rw [outY,if_neg (by rw [hr];simp)]
noncomputable def setsQ (y:Yr) (l:List Tsk) (k q:Nat) (d _j:Nat):Value := .int .i64 (if d<q then outY y l d (k+1) else outY y l d k)
noncomputable def setsV (y:Yr) (l:List Tsk) (k:Nat) (d _j:Nat):Value := .int .i64 (outY y l d k)
theorem Ej:setsQ y l k 0=setsV y l k:=by
  funext d j;unfold setsQ setsV;rw [if_neg (by omega)]
theorem Jf {n:Nat}:∀ d j,d<n→j<1→setsQ y l k n d j=setsV y l (k+1) d j:=fun d j hd _=>by
  unfold setsQ setsV;rw [if_pos hd]
theorem Jg {q:Nat} (hr:runsY y l k q=true):setsQ y l k q=setsQ y l k (q+1):=by
  funext d j
  unfold setsQ
  by_cases e:d=q
  · subst e;rw [if_neg (by omega),if_pos (by omega),Ov hr]
  · by_cases h:d<q
    · rw [if_pos h,if_pos (by omega)]
    · rw [if_neg h,if_neg (by omega)]
theorem Jh {q:Nat} {v:Int} (hr:runsY y l k q=false) (hv:v=outY y l q k+2^(y.us.getD k Unt.zero).mach.toNat):∀ d j,j<1→cput (setsQ y l k q) q 0 (.int .i64 v) d j=setsQ y l k (q+1) d j:=fun d j hj=>by
  subst hv
  have:j=0:=by omega
  subst this
  unfold cput setsQ
  by_cases e:d=q
  · subst e;rw [if_pos ⟨rfl,rfl⟩,if_pos (by omega),Ow hr]
  · rw [if_neg (fun h=>e h.1)]
    by_cases h:d<q
    · rw [if_pos h,if_pos (by omega)]
    · rw [if_neg h,if_neg (by omega)]
theorem Za {n q:Nat} (hq:q<n) (h:bsum (runB' (y.us.getD k Unt.zero) (jobF l k)) n/2^((q:Nat):Int).toNat%2=0):runsY y l k q=false:=by
  rw [Int.toNat_natCast,uX hq] at h
  rw [←Bool.not_eq_true]
  intro h2
  have h3:runB' (y.us.getD k Unt.zero) (jobF l k) q=true:=h2
  rw [if_pos h3] at h
  cases h
theorem Zb {n q:Nat} (hq:q<n) (h:¬ bsum (runB' (y.us.getD k Unt.zero) (jobF l k)) n/2^((q:Nat):Int).toNat%2=0):runsY y l k q=true:=by
  rw [Int.toNat_natCast,uX hq] at h
  refine Classical.byContradiction fun h2=>h ?_
  rw [if_neg (show ¬ runB' (y.us.getD k Unt.zero) (jobF l k) q=true from h2)]
theorem YOk.leave (h:YOk y) {out:Int} (ho:0≤out∧out≤4095):cH y.pl y.ps y.xs out y.pe y.limit=0:=by
  have h1:=(pE (pF h.kept).1).1
  have h2:=h.yr
  unfold yrI at h2
  unfold cH
  rw [if_neg (by omega),if_pos]
  have h4:eG y.pl y.pe=true:=by unfold eG;rw [decide_eq_true h2.2.1.1,Bool.and_true,bX];exact fun k hk=>decide_eq_true (h2.2.1.2 k hk)
  rw [h4,decide_eq_true ho,decide_eq_true h2.2.2.1]
  rfl
end
def spS (y:Yr) (d k:Nat):Nat→Int
  | 0=>0
  | n+1=>spS y d k n+if (y.sps.getD n Spr.zero).day=(d:Int)∧(y.sps.getD n Spr.zero).kind=(k:Int) then (y.sps.getD n Spr.zero).many else 0
def tkK (y:Yr) (l:List Tsk) (n:Nat):Int:=(y.us.getD (l.getD n Tsk.zero).unit.toNat Unt.zero).kind
def ovS (y:Yr) (l:List Tsk) (d k:Nat):Nat→Int
  | 0=>0
  | n+1=>ovS y l d k n+if ((l.getD n Tsk.zero).day=(d:Int)∧(l.getD n Tsk.zero).kind=2)∧tkK y l n=(k:Int) then 1 else 0
def stk (y:Yr) (l:List Tsk) (k:Nat):Nat→Int
  | 0=>0
  | d+1=>stk y l k d+spS y d k y.sps.length-ovS y l d k l.length
def jbS (l:List Tsk) (d:Nat):Nat→Int
  | 0=>0
  | n+1=>jbS l d n+if (l.getD n Tsk.zero).day=(d:Int) then 1 else 0
def shS (y:Yr) (l:List Tsk) (d:Nat):Nat→Bool
  | 0=>false
  | n+1=>shS y l d n||(decide ((l.getD n Tsk.zero).day=(d:Int)∧(l.getD n Tsk.zero).kind=2)&&decide (stk y l (tkK y l n).toNat d+spS y d (tkK y l n).toNat y.sps.length-ovS y l d (tkK y l n).toNat (n+1)<0))
noncomputable def cR (y:Yr) (l:List Tsk) (d:Nat):Int:=if y.crew<jbS l d l.length then 1 else if shS y l d l.length=true then 2 else if keepB y d (outY y l d y.us.length)=false then 3 else if leavB y (outY y l d y.us.length)=false then 4 else 0
noncomputable def qS (y:Yr) (l:List Tsk):Nat:=fstB (fun d=>decide (cR y l d≠0)) y.days.toNat
noncomputable def gF (y:Yr) (l:List Tsk):Int×Int:=if qS y l<y.days.toNat then ((qS y l:Int),cR y l (qS y l)) else (0,0)
section
variable {y:Yr} {l:List Tsk} {d k n m:Nat}
theorem pP (hd:d<y.days.toNat) (h:∀ q,q<d→cR y l q=0) (hf:cR y l d≠0):gF y l=((d:Int),cR y l d):=by
  have e:qS y l=d:=yC (f:=fun d=>decide (cR y l d≠0)) (fun q hq=>decide_eq_false (fun h9=>h9 (h q hq))) (decide_eq_true hf) hd
  unfold gF
  rw [e,if_pos hd]
theorem Ek (h:∀ q,q<y.days.toNat→cR y l q=0):gF y l=(0,0):=by
  have e:qS y l=y.days.toNat:=kR (fun q hq=>decide_eq_false (fun h9=>h9 (h q hq)))
  unfold gF
  rw [e,if_neg (Nat.lt_irrefl _)]
theorem yR (h:YOk y):∀ n,n≤y.sps.length→0≤spS y d k n∧spS y d k n≤8*(n:Int):=by
  intro n
  induction n with
  | zero=>intro _;exact ⟨Int.le_refl 0,Int.le_refl 0⟩
  | succ n ih=>
    intro hn
    have h1:=ih (by omega)
    have h2:=h.yr.2.2.2.2.2 n (by omega)
    unfold sprB at h2
    have h3:=of_decide_eq_true h2
    rw [spS]
    split <;> omega
theorem El:∀ n,0≤ovS y l d k n∧ovS y l d k n≤n:=by
  intro n
  induction n with
  | zero=>exact ⟨Int.le_refl 0,Int.le_refl 0⟩
  | succ n ih=>rw [ovS];split <;> omega
theorem Wp:∀ n,0≤jbS l d n∧jbS l d n≤n:=by
  intro n
  induction n with
  | zero=>exact ⟨Int.le_refl 0,Int.le_refl 0⟩
  | succ n ih=>rw [jbS];split <;> omega
theorem Ox (h:YOk y) (hl:l.length≤1000):∀ d:Nat,-1000*(d:Int)≤stk y l k d∧stk y l k d≤160*d:=by
  intro d
  induction d with
  | zero=>exact ⟨Int.le_refl 0,Int.le_refl 0⟩
  | succ d ih=>
    have h1:=yR (d:=d) (k:=k) h y.sps.length (Nat.le_refl _)
    have h2:=El (y:=y) (l:=l) (d:=d) (k:=k) l.length
    have h3:=h.yr.2.2.2.2.1
    rw [stk]
    omega
def stkC (y:Yr) (l:List Tsk) (d n m k _j:Nat):Value := .int .i64 (stk y l k d+spS y d k n-ovS y l d k m)
theorem Ji:stkC y l d y.sps.length l.length=stkC y l (d+1) 0 0:=by
  funext k j;unfold stkC;rw [stk];simp [spS,ovS]
theorem Td {x:Int} {q:Nat} (hd:(y.sps.getD n Spr.zero).day=(d:Int)) (hq:(y.sps.getD n Spr.zero).kind=(q:Int)) (hx:x=stk y l q d+spS y d q n-ovS y l d q 0+(y.sps.getD n Spr.zero).many):∀ k j,j<1→cput (stkC y l d n 0) q 0 (.int .i64 x) k j=stkC y l d (n+1) 0 k j:=fun k j hj=>by
  subst hx
  have:j=0:=by omega
  subst this
  unfold cput stkC
  by_cases e:k=q
  · subst e;rw [if_pos ⟨rfl,rfl⟩,spS,if_pos ⟨hd,hq⟩];congr 1;omega
  · rw [if_neg (fun h=>e h.1),spS,if_neg (fun h=>e (by omega))];congr 1;omega
theorem Te (hd:¬ (y.sps.getD n Spr.zero).day=(d:Int)):stkC y l d n 0=stkC y l d (n+1) 0:=by
  funext k j;unfold stkC;rw [spS,if_neg (fun h=>hd h.1)];congr 1;omega
theorem Tf {x:Int} {q:Nat} (hd:(l.getD m Tsk.zero).day=(d:Int)∧(l.getD m Tsk.zero).kind=2) (hq:tkK y l m=(q:Int)) (hx:x=stk y l q d+spS y d q n-ovS y l d q m-1):∀ k j,j<1→cput (stkC y l d n m) q 0 (.int .i64 x) k j=stkC y l d n (m+1) k j:=fun k j hj=>by
  subst hx
  have:j=0:=by omega
  subst this
  unfold cput stkC
  by_cases e:k=q
  · subst e;rw [if_pos ⟨rfl,rfl⟩,ovS,if_pos ⟨hd,hq⟩];congr 1;omega
  · rw [if_neg (fun h=>e h.1),ovS,if_neg (fun h=>e (by omega))];congr 1;omega
theorem Bv (hd:¬ ((l.getD m Tsk.zero).day=(d:Int)∧(l.getD m Tsk.zero).kind=2)):stkC y l d n m=stkC y l d n (m+1):=by
  funext k j;unfold stkC;rw [ovS,if_neg (fun h=>hd h.1)];congr 1;omega
theorem Zc {b:Int} (hb:b=jbS l d m) (hd:¬ (l.getD m Tsk.zero).day=(d:Int)):b=jbS l d (m+1):=by rw [jbS,if_neg hd,hb];omega
theorem Oy {b:Int} (hb:b=jbS l d m) (hd:(l.getD m Tsk.zero).day=(d:Int)):b+1=jbS l d (m+1):=by rw [jbS,if_pos hd,hb]
theorem Vj {s:Bool} (hs:s=shS y l d m) (hd:¬ ((l.getD m Tsk.zero).day=(d:Int)∧(l.getD m Tsk.zero).kind=2)):s=shS y l d (m+1):=by
  rw [shS,decide_eq_false hd,Bool.false_and,Bool.or_false,hs]
theorem Wq {s:Bool} {q:Nat} {x:Int} (hs:s=shS y l d m) (hd:(l.getD m Tsk.zero).day=(d:Int)∧(l.getD m Tsk.zero).kind=2) (hq:tkK y l m=(q:Int)) (hx:x=stk y l q d+spS y d q y.sps.length-ovS y l d q (m+1)):(s||decide (x<0))=shS y l d (m+1):=by
  subst hx
  rw [shS,decide_eq_true hd,Bool.true_and,hs,show (tkK y l m).toNat=q by omega]
theorem yS (h:y.crew<jbS l d l.length):cR y l d=1:=by unfold cR;rw [if_pos h]
theorem yT (h:¬ y.crew<jbS l d l.length) (h2:shS y l d l.length=true):cR y l d=2:=by unfold cR;rw [if_neg h,if_pos h2]
theorem yU (h:¬ y.crew<jbS l d l.length) (h2:shS y l d l.length=false) (h3:keepB y d (outY y l d y.us.length)=false):cR y l d=3:=by unfold cR;rw [if_neg h,if_neg (by rw [h2];simp),if_pos h3]
theorem yV (h:¬ y.crew<jbS l d l.length) (h2:shS y l d l.length=false) (h3:keepB y d (outY y l d y.us.length)=true) (h4:leavB y (outY y l d y.us.length)=false):cR y l d=4:=by unfold cR;rw [if_neg h,if_neg (by rw [h2];simp),if_neg (by rw [h3];simp),if_pos h4]
theorem Gh (h:¬ y.crew<jbS l d l.length) (h2:shS y l d l.length=false) (h3:keepB y d (outY y l d y.us.length)=true) (h4:leavB y (outY y l d y.us.length)=true):cR y l d=0:=by unfold cR;rw [if_neg h,if_neg (by rw [h2];simp),if_neg (by rw [h3];simp),if_neg (by rw [h4];simp)]
theorem Oz (h:∀ q,q<d→cR y l q=0) (h2:cR y l d=0):∀ q,q<d+1→cR y l q=0:=fun q hq=>by
  by_cases e:q=d
  · subst e;exact h2
  · exact h q (by omega)
end
section
variable {y:Yr} {l:List Tsk} {u:Int} {f:Nat→Bool} {n:Nat}
end
section
variable {y:Yr} {l:List Tsk} {i d k:Nat} {f:Nat→Bool}
theorem Tg {g:Nat→Bool}:∀ {n q},q<fstB g n→g q=false:=by
  intro n
  induction n with
  | zero=>intro q hq;exact absurd hq (Nat.not_lt_zero q)
  | succ n ih=>
    intro q hq
    rw [fstB] at hq
    split at hq
    · exact ih hq
    · rename_i h1
      have h2:=Mr (f:=g) n
      split at hq
      · exact ih (by omega)
      · rename_i h3
        by_cases e:q=n
        · subst e;simpa using h3
        · exact ih (by omega)
theorem Th {g:Nat→Bool}:∀ {n},fstB g n<n→g (fstB g n)=true:=by
  intro n
  induction n with
  | zero=>intro h;exact absurd h (Nat.not_lt_zero _)
  | succ n ih=>
    intro h
    rw [fstB] at h ⊢
    split
    · rename_i h1;exact ih h1
    · rename_i h1
      rw [if_neg h1] at h
      split
      · rename_i h2;exact h2
      · rename_i h2;rw [if_neg h2] at h;omega
end
end
section
theorem Pa {w:World} {p:Part} {l:List Use} {v:Value} {w':World} (h:WearR w p l v w'):∃ A n c,v = .tuple #[.slice A n c,.int .i64 (wearE p l)]∧St w noF [] w':=by
  rcases h with ⟨h0,A,c,rfl,S⟩|⟨_,rfl,S⟩
  · exact ⟨A,_,c,by rw [h0],S.sel [] rfl rfl⟩
  · exact ⟨none,0,0,rfl,S⟩
theorem oB {l:List Use} {k:Nat} (h:k+1=l.length):(l.getD k Use.zero).day=prevD l l.length:=by rw [←h];rfl
theorem vB {p:Part} {l:List Use} (h:wearE p l=0):0≤prevD l l.length∧p.rates.length≤4:=by
  have h1:=mZ (lH h).1
  have h2:=h1.hdr
  unfold iO at h2
  simp only [decide_eq_true_eq] at h2
  exact ⟨pI h1.uses,h2.2.1⟩
theorem Bw {P:Int} {ps:List Psg} {xs:List Int} (V:StV P ps xs) {n:Nat} (hn:n<ps.length):(∀ j,j<n→0≤(ps.getD n Psg.zero).mach→(ps.getD j Psg.zero).mach≠(ps.getD n Psg.zero).mach)∧∀ j,j<n→(ps.getD n Psg.zero).mach<0→(ps.getD j Psg.zero).mach=(ps.getD n Psg.zero).mach→(ps.getD j Psg.zero).mach<0:=
  ⟨fun j hj h0=>V.mach n hn h0 j hj,fun j _ h0 e=>by omega⟩
theorem Ti {pl:Int} {ps:List Psg} {xs:List Int} {day:List Hq} {l:List Prm} (h:keptE pl ps xs day l=0):StV pl ps xs:=gV (pE (pF h).1).1
theorem Tj {pl:Int} {ps:List Psg} {xs:List Int} {day:List Hq} {l:List Prm}:(keptV pl ps xs day l).2.2.2=keptE pl ps xs day l:=by
  unfold keptV
  split
  · rfl
  · split
    · dsimp only;omega
    · dsimp only;omega
theorem mH {days:Int} {s:Spr}:sprB days s=true↔((0≤s.day∧s.day≤days-1)∧(0≤s.kind∧s.kind≤3)∧(1≤s.many∧s.many≤8)):=by unfold sprB;rw [decide_eq_true_eq]
theorem Pb {pe:List Int} {k:Nat} (h:∀ q,q<k→0≤pe.getD q 0∧pe.getD q 0≤1000) (hk:0≤pe.getD k 0∧pe.getD k 0≤1000):∀ q,q<k+1→0≤pe.getD q 0∧pe.getD q 0≤1000:=fun q hq=>by
  by_cases e:q=k
  · subst e;exact hk
  · exact h q (by omega)
theorem eW {f:Nat→Bool} {k:Nat} (h:∀ q,q<k→f q=true) (hk:f k=true):∀ q,q<k+1→f q=true:=fun q hq=>by
  by_cases e:q=k
  · subst e;exact hk
  · exact h q (by omega)
theorem bO (n lo hi:Int) (w:World) :
    Calls Tryz.prog 38 [.int .i64 n,.int .i64 lo,.int .i64 hi].toArray w (Ret (fun v w'=>v = .bool (decide (lo≤n)&&decide (n≤hi))∧w'=w)):=by
 refine enter Tryz.func38 rfl Tryz.ntmps38 rfl (fun a H=>?_)
 have S:=St.start w
 refine sS H fun K1 k1=>sr 1 rfl<|sE ?_;clear H a;intro a H
 refine k1 _ ?_;clear k1 K1
 replace H:=H.keep [0,1,2] rfl
 refine sS H fun K2 k2=>sr 4 rfl<|sg 3 3 10 13 true G G (fun hg4=>sy hg4<|sr 1 rfl<|sy hg4<|sr 1 rfl<|sy hg4<|sr 1 rfl<|sz 3 G G G)<|sa G G G<|sr 1 rfl<|sE ?_;clear H a;intro a H
 refine k2 _ ?_;clear k2 K2
 refine wp_ret ?_
 refine ret1 (fn:=Tryz.f38) rfl H rfl ?_
 exact ⟨rfl,rfl⟩
theorem Tk (u:Unt) (ps:List Psg) (us:List Unt) (i mb:Nat) (w:World) (F:Nat→Prop) (S:St w F [mapK (fun n:Int=>Value.int .i64 n) mb (macP ps us ps.length i)] w) (hur:InS w F 2 u.RA u.rates.length (scell u.rates)) (hurn:u.rates.length≤9223372036854775807) (huu:InS w F 6 u.UA u.uses.length (ucell u.uses)) (huun:u.uses.length≤9223372036854775807) :
    Calls Tryz.prog 66 [.agg [.int .i64 u.mach,.int .i64 u.every,.int .i64 u.seen,.slice u.RA u.rates.length u.rc,.int .i64 u.worn,.int .i64 u.turns,.int .i64 u.age,.slice u.UA u.uses.length u.uc,.int .i64 u.old,.int .i64 u.tn,.int .i64 u.cl,.int .i64 u.kind].toArray,.map (some mb)].toArray w (Ret (fun v w'=>v = .bool (untU ps us i u)∧St w F [mapK (fun n:Int=>Value.int .i64 n) mb (macP ps us ps.length i)] w')):=by
 refine enter Tryz.func66 rfl Tryz.ntmps66 rfl (fun a H=>?_)
 skip
 refine seq_list fun K1 k1=>?_
 refine aO H rfl S G G ?_;clear H a S;intro b2 _ a hb2 hbw2 S H
 refine ls 1 H<|sr 1 rfl<|sE ?_;clear H a;intro a H
 refine k1 _ _ ?_;clear k1 K1
 refine wp_seq_k fun K2 k2=>?_
 replace H:=H.keep [1,2] rfl
 refine sS H fun K3 k3=>sr 1 rfl<|sf iL rfl<|sl S 0 aD G G G<|sd ((yO S (i:=1) rfl qM (fH rfl) G G G (fun h hh=>hh u.mach):Does _ _ _ _ (.bool (freeM ps us i u.mach))))<|sr 2 rfl<|sg 4 5 14 18 false G G (fun hg6=>sy hg6<|sf rY rfl<|sy hg6<|sl S 0 aD G G G<|sy hg6<|sc rfl Tryz.func38 G G (bO _ _ _ _)<|sy hg6<|sr 1 rfl<|sz 4 G G G)<|so G G G<|sr 1 rfl<|sg 4 11 20 24 false G G (fun hg12=>sy hg12<|sf xV rfl<|sy hg12<|sl S 0 aD G G G<|sy hg12<|sc rfl Tryz.func38 G G (bO _ _ _ _)<|sy hg12<|sr 1 rfl<|sz 4 G G G)<|so G G G<|sr 1 rfl<|sg 4 17 26 30 false G G (fun hg18=>sy hg18<|sf xW rfl<|sy hg18<|sl S 0 aD G G G<|sy hg18<|sc rfl Tryz.func38 G G (bO _ _ _ _)<|sy hg18<|sr 1 rfl<|sz 4 G G G)<|so G G G<|sE ?_;clear H a;intro a H
 refine k3 _ ?_;clear k3 K3
 refine cond_ H rfl (fun hc1=>?_) (fun hc1=>?_)
 ·skip
  try simp only [o1,o2,o3,o4,o5,o6,o7,o8,o9,oa] at hc1
  replace H:=H.keep [] rfl
  refine sS H fun K4 k4=>sr 1 rfl<|sE ?_;clear H a;intro a H
  refine k4 _ ?_;clear k4 K4
  refine wp_ret ?_
  refine ret1 (fn:=Tryz.f66) rfl H rfl ?_
  rw [Bk (ps:=ps) (us:=us) (i:=i) (u:=u) (fun h=>by have h1:=h.free;have h2:=h.i;unfold untI at h2;rw [h1] at hc1;simp only [Bool.true_eq_false,Bool.not_true,Bool.false_eq_true,not_true_eq_false,false_or] at hc1;omega)];exact ⟨rfl,(S.sel [1] G G)⟩
 try simp only [o1,o2,o3,o4,o5,o6,o7,o8,o9,oa] at hc1
 refine wp_skip ?_
 refine k2 _ _ ?_
 refine wp_seq_k fun K5 k5=>?_
 replace H:=H.keep [2] rfl
 refine seq_list fun K6 k6=>?_
 refine ls 4 H<|sf mQ rfl<|sd ((aC fB hZ rfl S (i:=0) G G))<|sf gR rfl<|sl S 0 jL G G G<|sE ?_;clear H a;intro a H
 refine aA H G G Tryz.func102 G G (eD (nX u.rates u.worn u.turns u.age u.RA u.rc u.uses u.UA u.uc _ (hur.now S) hurn (huu.now S) huun) (fun _ _ h=>Pa h)) ?_;clear H a
 rintro _ _ a ⟨WA,wn,wc,rfl,S2⟩ H
 replace S:=S.call S2;clear S2
 refine ls 5 H<|sr 5 rfl<|sE ?_;clear H a;intro a H
 refine k6 _ _ ?_;clear k6 K6
 replace H:=H.keep [2,6] rfl
 refine sS H fun K7 k7=>sr 3 rfl<|sg 4 2 42 46 false G G (fun hg3=>sy hg3<|sf gR rfl<|sy hg3<|sl S 0 jL G G G<|sy hg3<|sL dJ rfl<|sy hg3<|sr 1 rfl<|sz 4 G G G)<|so G G G<|sE ?_;clear H a;intro a H
 refine k7 _ ?_;clear k7 K7
 refine cond_ H rfl (fun hc2=>?_) (fun hc2=>?_)
 ·skip
  try simp only [o1,o2,o3,o4,o5,o6,o7,o8,o9,oa] at hc2
  refine sS H fun K8 k8=>sr 1 rfl<|sE ?_;clear H a;intro a H
  refine k8 _ ?_;clear k8 K8
  refine wp_ret ?_
  refine ret1 (fn:=Tryz.f66) rfl H rfl ?_
  rw [Bk (ps:=ps) (us:=us) (i:=i) (u:=u) (fun h=>by have h1:=h.wear;have h2:=h.i;unfold untI at h2;rcases hc2 with h9|h9;exact h9 h1;omega)];exact ⟨rfl,(S.sel [1] rfl rfl)⟩
 try simp only [o1,o2,o3,o4,o5,o6,o7,o8,o9,oa] at hc2
 have hwe:wearE u.part u.uses=0:=by have h9:=hc2;show wearE ⟨u.rates,u.worn,u.turns,u.age⟩ u.uses=0;omega
 have hpv:=vB hwe
 refine wp_skip ?_
 refine k5 _ _ ?_
 replace H:=H.keep [2] rfl
 refine sS H fun K9 k9=>sr 1 rfl<|sE ?_;clear H a;intro a H
 refine k9 _ ?_;clear k9 K9
 have SR:=(S.sel [0,1] G G)
 refine meet_sr (X:=Int) [2] H rfl (fun x=>[(7,.int .i64 x)]) (fun x=>[]) (fun x=>x=prevD u.uses u.uses.length) SR (fun K11 k11=>?_) ?_
 ·skip
  refine sS H fun K12 k12=>sf gR rfl<|sl S 0 jL G G G<|sL dJ rfl<|sr 1 rfl<|sE ?_;clear H a;intro a H
  refine k12 _ ?_;clear k12 K12
  refine sS H fun K13 k13=>sr 2 rfl<|sE ?_;clear H a;intro a H
  refine k13 _ ?_;clear k13 K13
  refine condL H rfl (fun hc3=>?_) (fun hc3=>?_)
  ·skip
   replace H:=H.keep [2,8] rfl
   refine sO H<|sf gR rfl<|sl S 0 jL G G G<|sr 1 rfl<|sd (aU G G (by unfold i64ok;omega))<|sI dJ cY G G (huu.adr (by omega)) (by omega) (by omega)<|sp gS rfl<|slm aD rfl (huu.rd S (by omega) (by omega))<|sr 1 rfl<|sE ?_;clear H a;intro a H
   exact k11 _ a _ (oB (k:=((u.uses.length:Int)-1).toNat) (by omega)) (S.sel [0,1] G G) (H.keep [7,2] rfl)
  refine wp_skip ?_
  exact k11 _ a _ (by rw [show u.uses.length=0 by omega];rfl) (S.sel [0,1] G G) (H.keep [7,2] rfl)
 clear SR H S a
 intro xm a wm hp S H
 obtain ⟨x,rfl⟩:∃ y,y=xm:=⟨_,rfl⟩
 replace H:=H.keep [2,7] rfl
 refine sS H fun K15 k15=>sf rZ rfl<|sl S 0 aD G G G<|sr 1 rfl<|sc rfl Tryz.func38 G G (bO _ _ _ _)<|sr 1 rfl<|sg 3 4 64 67 true G G (fun hg5=>sy hg5<|sf sA rfl<|sy hg5<|sl S 0 aD G G G<|sy hg5<|sc rfl Tryz.func38 G G (bO _ _ _ _)<|sz 3 G G G)<|sa G G G<|sr 1 rfl<|sg 8 9 69 77 true G G (fun hg10=>sy hg10<|sf sB rfl<|sy hg10<|sl S 0 aD G G G<|sy hg10<|sf mQ rfl<|sy hg10<|sf fJ rfl<|sy hg10<|sl S 0 iD G G G<|sy hg10<|sL dM rfl<|sy hg10<|sd (aU G G (by unfold i64ok;omega))<|sy hg10<|sc rfl Tryz.func38 G G (bO _ _ _ _)<|sz 8 G G G)<|sa G G G<|sr 1 rfl<|sE ?_;clear H a;intro a H
 refine k15 _ ?_;clear k15 K15
 refine wp_ret ?_
 refine ret1 (fn:=Tryz.f66) rfl H rfl ?_
 refine ⟨congrArg Value.bool ?_,(S.sel [1] G G)⟩
 rw [Bool.eq_iff_iff,uW]
 simp only [Bool.and_eq_true,decide_eq_true_eq]
 constructor
 · intro h9
   refine ⟨?_,?_,hwe⟩
   · rcases hc1 with ⟨⟨⟨h1,_⟩,_⟩,_⟩;exact h1
   · unfold untI;omega
 · intro h9
   have h2:=h9.i
   unfold untI at h2
   omega
theorem Tl (y:Yr) (w:World) (hy:YIn w noF y) (hyb:YBd y) :
    Calls Tryz.prog 37 [.agg [.int .i64 y.days,.int .i64 y.pl,.slice y.PA y.ps.length y.pc,.slice y.XA y.xs.length y.xc,.slice y.BA y.pe.length y.bc,.int .i64 y.limit,.bool y.help,.slice y.QA y.prs.length y.qc,.slice y.VA y.us.length y.vc,.int .i64 y.crew,.slice y.SA y.sps.length y.sc].toArray].toArray w (Ret (fun v w'=>v = .int .i64 (yearE y)∧St w noF [] w')):=by
 have hn1:=hyb.psn;have hn2:=hyb.pen;have hn3:=hyb.usn;have hn4:=hyb.spn
 refine enter Tryz.func37 rfl Tryz.ntmps37 rfl (fun a H=>?_)
 have S:=St.start w
 refine seq_list fun K1 k1=>?_
 refine aO H rfl S G G ?_;clear H a S;intro b1 _ a hb1 hbw1 S H
 refine ls 1 H<|sr 1 rfl<|sE ?_;clear H a;intro a H
 refine k1 _ _ ?_;clear k1 K1
 refine wp_seq_k fun K2 k2=>?_
 replace H:=H.keep [1] rfl
 refine seq_list fun K3 k3=>?_
 refine ls 4 H<|sf eB rfl<|sd ((aC cA cZ rfl S (i:=0) G G))<|sf rW rfl<|sl S 0 xM G G G<|sE ?_;clear H a;intro a H
 refine aA H G G Tryz.func65 G G (Im y.pl y.ps y.PA y.pc y.xs y.XA y.xc ([]:List Hq) none 0 (fun _=>none) (fun _=>0) y.prs y.QA y.qc _ (hy.ps.now S) hyb.psn (hy.xs.now S) hyb.xsn InS.nil (by decide) (fun k hk=>absurd hk (Nat.not_lt_zero k)) (fun k hk=>absurd hk (Nat.not_lt_zero k)) (hy.prs.now S) hyb.prn) ?_;clear H a
 rintro _ _ a ⟨rfl,S2⟩ H
 replace S:=S.call S2;clear S2
 rw [Tj] at H
 refine ls 9 H<|sr 9 rfl<|sE ?_;clear H a;intro a H
 refine k3 _ _ ?_;clear k3 K3
 replace H:=H.keep [1,6] rfl
 refine sS H fun K4 k4=>sr 2 rfl<|sE ?_;clear H a;intro a H
 refine k4 _ ?_;clear k4 K4
 refine condN H rfl (fun hc1=>?_) (fun hc1=>?_)
 ·skip
  refine sS H fun K5 k5=>sr 2 rfl<|sE ?_;clear H a;intro a H
  refine k5 _ ?_;clear k5 K5
  refine wp_ret ?_
  refine ret1 (fn:=Tryz.f37) rfl H rfl ?_
  exact ⟨congrArg _ (nZ hc1).symm,(S.sel [] G G)⟩
 have hke:keptE y.pl y.ps y.xs [] y.prs=0:=by omega
 have hV:=Ti hke
 refine wp_skip ?_
 refine k2 _ _ ?_
 refine wp_seq_k fun K6 k6=>?_
 replace H:=H.keep [1] rfl
 refine sS H fun K7 k7=>sf dH rfl<|sl S 0 aD G G G<|sc rfl Tryz.func38 G G (bO _ _ _ _)<|sr 2 rfl<|sg 7 4 33 40 false G G (fun hg5=>by
     have hq5:=hg5;try simp only [o1,o2,o3,o4,o5,o6,o7,o8,o9,oa] at hq5
     exact sy hg5<|sf iK rfl<|sy hg5<|sl S 0 bM G G G<|sy hg5<|sL aT rfl<|sy hg5<|sf eB rfl<|sy hg5<|sf dU rfl<|sy hg5<|sl S 0 aD G G G<|sy hg5<|sr 1 rfl<|sz 7 G G G)<|so G G G<|sr 1 rfl<|sg 4 13 42 46 false G G (fun hg14=>by
     have hq14:=hg14;try simp only [o1,o2,o3,o4,o5,o6,o7,o8,o9,oa] at hq14
     exact sy hg14<|sf jZ rfl<|sy hg14<|sl S 0 aD G G G<|sy hg14<|sc rfl Tryz.func38 G G (bO _ _ _ _)<|sy hg14<|sr 1 rfl<|sz 4 G G G)<|so G G G<|sr 1 rfl<|sg 4 19 48 52 false G G (fun hg20=>by
     have hq20:=hg20;try simp only [o1,o2,o3,o4,o5,o6,o7,o8,o9,oa] at hq20
     exact sy hg20<|sf xT rfl<|sy hg20<|sl S 0 aD G G G<|sy hg20<|sc rfl Tryz.func38 G G (bO _ _ _ _)<|sy hg20<|sr 1 rfl<|sz 4 G G G)<|so G G G<|sr 1 rfl<|sg 4 25 54 58 false G G (fun hg26=>by
     have hq26:=hg26;try simp only [o1,o2,o3,o4,o5,o6,o7,o8,o9,oa] at hq26
     exact sy hg26<|sf lC rfl<|sy hg26<|sl S 0 nQ G G G<|sy hg26<|sL oO rfl<|sy hg26<|sr 1 rfl<|sz 4 G G G)<|so G G G<|sE ?_;clear H a;intro a H
 refine k7 _ ?_;clear k7 K7
 refine cond_ H rfl (fun hc2=>?_) (fun hc2=>?_)
 ·skip
  try simp only [o1,o2,o3,o4,o5,o6,o7,o8,o9,oa] at hc2
  replace H:=H.keep [] rfl
  refine sS H fun K8 k8=>sr 1 rfl<|sE ?_;clear H a;intro a H
  refine k8 _ ?_;clear k8 K8
  refine wp_ret ?_
  refine ret1 (fn:=Tryz.f37) rfl H rfl ?_
  rw [pK hke (fun h=>by unfold yrI at h;omega)];exact ⟨rfl,(S.sel [] G G)⟩
 try simp only [o1,o2,o3,o4,o5,o6,o7,o8,o9,oa] at hc2
 refine wp_skip ?_
 refine k6 _ _ ?_
 refine wp_seq_k fun K9 k9=>?_
 refine sS H fun K10 k10=>sf iK rfl<|sl S 0 bM G G G<|sL aT rfl<|sr 1 rfl<|sE ?_;clear H a;intro a H
 refine k10 _ ?_;clear k10 K10
 refine wp_block ?_
 refine loop_st (X:=Nat) (R0:=_) [1,61,62] H rfl (fun k=>[(63,.int .i64 (k:Int))]) (fun k=>[]) (fun g k=>k≤y.pe.length∧g+k=y.pe.length∧∀ q,q<k→0≤y.pe.getD q 0∧y.pe.getD q 0≤1000) (y.pe.length) 0 ?_ (S.sel [0] G G) (H.keep [63,1,61,62] rfl) ?_
 · exact ⟨by omega,by omega,fun q hq=>absurd hq (Nat.not_lt_zero q)⟩
 clear H S a
 intro g1 x1 a w1 hp S H K11 k11
 obtain ⟨k,rfl⟩:∃ y,y=x1:=⟨_,rfl⟩
 refine sS H fun K12 k12=>sr 1 rfl<|sE ?_;clear H a;intro a H
 refine k12 _ ?_;clear k12 K12
 refine wp_seq_k fun K13 k13=>?_
 refine condL H rfl (fun hc3=>?_) (fun hc3=>?_)
 ·skip
  refine wp_skip ?_
  refine k13 _ _ ?_
  refine wp_seq_k fun K14 k14=>?_
  refine wp_block ?_
  refine sS H fun K15 k15=>si aT bA G G (hy.pe.adr (by omega)) (by omega)<|slm aD rfl (hy.pe.rd S (by omega) (by omega))<|sr 1 rfl<|sE ?_;clear H a;intro a H
  refine k15 _ ?_;clear k15 K15
  refine sS H fun K16 k16=>sr 1 rfl<|sc rfl Tryz.func38 G G (bO _ _ _ _)<|sr 1 rfl<|sE ?_;clear H a;intro a H
  refine k16 _ ?_;clear k16 K16
  refine cond_ H rfl (fun hc4=>?_) (fun hc4=>?_)
  ·skip
   try simp only [o1,o2,o3,o4,o5,o6,o7,o8,o9,oa] at hc4
   refine sS H fun K17 k17=>sr 1 rfl<|sE ?_;clear H a;intro a H
   refine k17 _ ?_;clear k17 K17
   refine wp_ret ?_
   refine ret1 (fn:=Tryz.f37) rfl H rfl ?_
   rw [pK hke (fun h=>by have h9:=h.2.1.2 k (by omega);omega)];exact ⟨rfl,(S.sel [] G G)⟩
  try simp only [o1,o2,o3,o4,o5,o6,o7,o8,o9,oa] at hc4
  refine wp_skip ?_
  refine k14 _ _ ?_
  replace H:=H.keep [1,61,62,63] rfl
  refine sO H<|sd (aK G G (by unfold i64ok;omega))<|sr 1 rfl<|sE ?_;clear H a;intro a H
  exact k11 (g1-1) (k+1) a _ (by omega) (⟨by omega,by omega,Pb hp.2.2 (by omega)⟩) (S.sel [0] G G) (H.keep [63,1,61,62] rfl)
 refine wp_exit ?_
 refine k9 _ _ ?_
 refine wp_seq_k fun K19 k19=>?_
 refine sS H fun K20 k20=>sf lC rfl<|sl S 0 nQ G G G<|sL oO rfl<|sr 1 rfl<|sE ?_;clear H a;intro a H
 refine k20 _ ?_;clear k20 K20
 refine wp_block ?_
 have hpe9:∀ q,q<y.pe.length→0≤y.pe.getD q 0∧y.pe.getD q 0≤1000:=fun q hq=>hp.2.2 q (by omega)
 refine loop_st (X:=Nat) (R0:=_) [1,72,73] H rfl (fun k=>[(74,.int .i64 (k:Int))]) (fun k=>[]) (fun g k=>k≤y.sps.length∧g+k=y.sps.length∧∀ q,q<k→sprB y.days (y.sps.getD q Spr.zero)=true) (y.sps.length) 0 ?_ (S.sel [0] G G) (H.keep [74,1,72,73] rfl) ?_
 · exact ⟨by omega,by omega,fun q hq=>absurd hq (Nat.not_lt_zero q)⟩
 clear H S a
 intro g2 x2 a w2 hp S H K21 k21
 obtain ⟨k,rfl⟩:∃ y,y=x2:=⟨_,rfl⟩
 refine sS H fun K22 k22=>sr 1 rfl<|sE ?_;clear H a;intro a H
 refine k22 _ ?_;clear k22 K22
 refine wp_seq_k fun K23 k23=>?_
 refine condL H rfl (fun hc5=>?_) (fun hc5=>?_)
 ·skip
  refine wp_skip ?_
  refine k23 _ _ ?_
  refine wp_seq_k fun K24 k24=>?_
  refine wp_block ?_
  refine seq_list fun K25 k25=>?_
  refine ls 2 H<|si oO kZ G G (hy.sps.adr (by omega)) (by omega)<|sd ((aW xQ kZ rfl S hy.sps (by omega) (by omega)))<|sE ?_;clear H a;intro a H
  refine aI H rfl S Dj ?_;clear H a S;intro b10 _ a hb10 hbw10 S H
  refine aF H S (i:=0) G G G G kZ G G ?_
  clear H a S;intro _ a S H
  refine k25 _ _ ?_;clear k25 K25
  replace H:=H.keep [1,10,72,73,74] rfl
  refine sS H fun K26 k26=>sf tM rfl<|sl S 0 aD G G G<|sf dH rfl<|sl S 1 aD G G G<|sd (aU G G (by unfold i64ok;omega))<|sc rfl Tryz.func38 G G (bO _ _ _ _)<|sr 2 rfl<|sg 4 7 85 89 false G G (fun hg8=>by
      have hq8:=hg8;try simp only [o1,o2,o3,o4,o5,o6,o7,o8,o9,oa] at hq8
      exact sy hg8<|sf tN rfl<|sy hg8<|sl S 0 aD G G G<|sy hg8<|sc rfl Tryz.func38 G G (bO _ _ _ _)<|sy hg8<|sr 1 rfl<|sz 4 G G G)<|so G G G<|sr 1 rfl<|sg 4 13 91 95 false G G (fun hg14=>by
      have hq14:=hg14;try simp only [o1,o2,o3,o4,o5,o6,o7,o8,o9,oa] at hq14
      exact sy hg14<|sf tO rfl<|sy hg14<|sl S 0 aD G G G<|sy hg14<|sc rfl Tryz.func38 G G (bO _ _ _ _)<|sy hg14<|sr 1 rfl<|sz 4 G G G)<|so G G G<|sE ?_;clear H a;intro a H
  refine k26 _ ?_;clear k26 K26
  refine cond_ H rfl (fun hc6=>?_) (fun hc6=>?_)
  ·skip
   try simp only [o1,o2,o3,o4,o5,o6,o7,o8,o9,oa] at hc6
   replace H:=H.keep [] rfl
   refine sS H fun K27 k27=>sr 1 rfl<|sE ?_;clear H a;intro a H
   refine k27 _ ?_;clear k27 K27
   refine wp_ret ?_
   refine ret1 (fn:=Tryz.f37) rfl H rfl ?_
   rw [pK hke (fun h=>by have h9:=mH.1 (h.2.2.2.2.2 k (by omega));omega)];exact ⟨rfl,(S.sel [] G G)⟩
  try simp only [o1,o2,o3,o4,o5,o6,o7,o8,o9,oa] at hc6
  refine wp_skip ?_
  refine k24 _ _ ?_
  refine sO H<|sd (aK G G (by unfold i64ok;omega))<|sr 1 rfl<|sE ?_;clear H a;intro a H
  exact k21 (g2-1) (k+1) a _ (by omega) (⟨by omega,by omega,eW (f:=fun q=>sprB y.days (y.sps.getD q Spr.zero)) hp.2.2 (mH.2 (by omega))⟩) (S.sel [1] G G) (H.keep [74,1,72,73] rfl)
 refine wp_exit ?_
 refine k19 _ _ ?_
 refine wp_seq_k fun K29 k29=>?_
 refine sS H fun K30 k30=>sf cP rfl<|sl S 0 dT G G G<|sL eM rfl<|sr 1 rfl<|sE ?_;clear H a;intro a H
 refine k30 _ ?_;clear k30 K30
 refine condL H rfl (fun hc7=>?_) (fun hc7=>?_)
 ·skip
  refine sS H fun K31 k31=>sr 1 rfl<|sE ?_;clear H a;intro a H
  refine k31 _ ?_;clear k31 K31
  refine wp_ret ?_
  refine ret1 (fn:=Tryz.f37) rfl H rfl ?_
  rw [uR hke (by
    unfold yrI
    have h9:=hp.2.2
    exact ⟨by omega,⟨by omega,hpe9⟩,by omega,by omega,by omega,fun q hq=>h9 q (by omega)⟩) (by omega)];exact ⟨rfl,(S.sel [] G G)⟩
 refine wp_skip ?_
 refine k29 _ _ ?_
 replace H:=H.keep [1] rfl
 refine seq_list fun K32 k32=>?_
 refine iP (fun n:Int=>Value.int .i64 n) (macP y.ps y.us 0 0) Ix H rfl S ?_;clear H a S;intro mb _ a hmb S H
 refine ls 1 H<|sr 1 rfl<|sE ?_;clear H a;intro a H
 refine k32 _ _ ?_;clear k32 K32
 refine wp_seq_k fun K33 k33=>?_
 refine sS H fun K34 k34=>sf eB rfl<|sf eO rfl<|sl S 1 fZ G G G<|sL fS rfl<|sr 1 rfl<|sE ?_;clear H a;intro a H
 refine k34 _ ?_;clear k34 K34
 refine wp_block ?_
 have hyi:yrI y:=by
   unfold yrI
   have h9:=hp.2.2
   exact ⟨by omega,⟨by omega,hpe9⟩,by omega,by omega,by omega,fun q hq=>h9 q (by omega)⟩
 refine loop_st (X:=Nat) (R0:=_) [1,11,105,106] H rfl (fun k=>[(107,.int .i64 (k:Int))]) (fun k=>[mapK (fun n:Int=>Value.int .i64 n) mb (macP y.ps y.us k 0)]) (fun g k=>k≤y.ps.length∧g+k=y.ps.length) (y.ps.length) 0 ?_ (S.sel [0,1] G G) (H.keep [107,1,11,105,106] rfl) ?_
 · exact ⟨by omega,by omega⟩
 clear H S a
 intro g3 x3 a w3 hp S H K35 k35
 obtain ⟨k,rfl⟩:∃ y,y=x3:=⟨_,rfl⟩
 refine sS H fun K36 k36=>sr 1 rfl<|sE ?_;clear H a;intro a H
 refine k36 _ ?_;clear k36 K36
 refine wp_seq_k fun K37 k37=>?_
 refine condL H rfl (fun hc8=>?_) (fun hc8=>?_)
 ·skip
  refine wp_skip ?_
  refine k37 _ _ ?_
  refine wp_seq_k fun K38 k38=>?_
  refine wp_block ?_
  refine seq_list fun K39 k39=>?_
  refine ls 2 H<|si fS eK G G (hy.ps.adr (by omega)) (by omega)<|sd ((aW jM eK rfl S hy.ps (by omega) (by omega)))<|sE ?_;clear H a;intro a H
  refine aI H rfl S rE ?_;clear H a S;intro b13 _ a hb13 hbw13 S H
  refine aF H S (i:=0) G G G G eK G G ?_
  clear H a S;intro _ a S H
  refine k39 _ _ ?_;clear k39 K39
  replace H:=H.keep [1,11,13,105,106,107] rfl
  refine one_list ?_
  refine ls 6 H<|sr 1 rfl<|sf dO rfl<|sl S 0 aD G G G<|sf dO rfl<|sl S 0 aD G G G<|sr 1 rfl<|sE ?_;clear H a;intro a H
  refine eV (k:=(y.ps.getD k Psg.zero).mach) (macP y.ps y.us (k+1) 0) H S (i:=1) rfl qM (fH rfl) G G G (Sq (Bw hV (by omega)).1 (Bw hV (by omega)).2) ?_;clear H a S;intro _ a S H
  refine k38 _ _ ?_
  refine sO H<|sd (aK G G (by unfold i64ok;omega))<|sr 1 rfl<|sE ?_;clear H a;intro a H
  exact k35 (g3-1) (k+1) a _ (by omega) (⟨by omega,by omega⟩) (S.sel [1,2] G G) (H.keep [107,1,11,105,106] rfl)
 refine wp_exit ?_
 refine k33 _ _ ?_
 refine wp_seq_k fun K42 k42=>?_
 replace H:=H.keep [1,11] rfl
 refine sS H fun K43 k43=>sf cP rfl<|sl S 1 dT G G G<|sL eM rfl<|sr 1 rfl<|sE ?_;clear H a;intro a H
 refine k43 _ ?_;clear k43 K43
 refine wp_block ?_
 obtain rfl:k=y.ps.length:=by omega
 refine loop_st (X:=Nat) (R0:=_) [11,119,120] H rfl (fun k=>[(121,.int .i64 (k:Int))]) (fun k=>[mapK (fun n:Int=>Value.int .i64 n) mb (macP y.ps y.us y.ps.length k)]) (fun g k=>k≤y.us.length∧g+k=y.us.length∧∀ q,q<k→untB y.ps y.us q=true) (y.us.length) 0 ?_ (S.sel [0,1] G G) (H.keep [121,11,119,120] rfl) ?_
 · exact ⟨by omega,by omega,fun q hq=>absurd hq (Nat.not_lt_zero q)⟩
 clear H S a
 intro g4 x4 a w4 hp S H K44 k44
 obtain ⟨k,rfl⟩:∃ y,y=x4:=⟨_,rfl⟩
 refine sS H fun K45 k45=>sr 1 rfl<|sE ?_;clear H a;intro a H
 refine k45 _ ?_;clear k45 K45
 refine wp_seq_k fun K46 k46=>?_
 refine condL H rfl (fun hc9=>?_) (fun hc9=>?_)
 ·skip
  refine wp_skip ?_
  refine k46 _ _ ?_
  refine wp_seq_k fun K47 k47=>?_
  refine wp_block ?_
  refine seq_list fun K48 k48=>?_
  refine ls 2 H<|si eM gN G G (hy.us.adr (by omega)) (by omega)<|sd ((aW qG gN rfl S hy.us (by omega) (by omega)))<|sE ?_;clear H a;intro a H
  refine aI H rfl S Lv ?_;clear H a S;intro b15 _ a hb15 hbw15 S H
  refine aF H S (i:=0) G G G G gN G G ?_
  clear H a S;intro _ a S H
  refine k48 _ _ ?_;clear k48 K48
  refine wp_seq_k fun K49 k49=>?_
  refine seq_list fun K50 k50=>?_
  refine ls 2 H<|sd ((aC qG gN rfl S (i:=0) G G))<|sr 1 rfl<|sE ?_;clear H a;intro a H
  refine aA H G G Tryz.func66 G G (Tk (y.u k) y.ps y.us k mb _ _ ((S.sel [1] G G).startR) ((hy.rt k (by omega)).nowR (S.sel [1] G G)) (hyb.rtn (by omega)) ((hy.ul k (by omega)).nowR (S.sel [1] G G)) (hyb.uln (by omega))) ?_;clear H a
  rintro _ _ a ⟨rfl,S2⟩ H
  replace S:=St.callR (M:=[_]) (S.sel [1,0,2] G G) S2;clear S2
  refine ls 1 H<|sr 1 rfl<|sE ?_;clear H a;intro a H
  refine k50 _ _ ?_;clear k50 K50
  refine cond_ H rfl (fun hc10=>?_) (fun hc10=>?_)
  ·skip
   try simp only [o1,o2,o3,o4,o5,o6,o7,o8,o9,oa] at hc10
   replace H:=H.keep [] rfl
   refine sS H fun K51 k51=>sr 1 rfl<|sE ?_;clear H a;intro a H
   refine k51 _ ?_;clear k51 K51
   refine wp_ret ?_
   refine ret1 (fn:=Tryz.f37) rfl H rfl ?_
   rw [uS hke hyi (by omega) (show k<y.us.length by omega) hc10];exact ⟨rfl,(S.sel [] G G)⟩
  try simp only [o1,o2,o3,o4,o5,o6,o7,o8,o9,oa] at hc10
  refine wp_skip ?_
  refine k49 _ _ ?_
  refine one_list ?_
  refine ls 3 H<|sr 1 rfl<|sf iL rfl<|sl S 1 aD G G G<|sE ?_;clear H a;intro a H
  refine eV (k:=(y.us.getD k Unt.zero).mach) (macP y.ps y.us y.ps.length (k+1)) H S (i:=0) rfl qM (fH rfl) G G G Sr ?_;clear H a S;intro _ a S H
  refine k47 _ _ ?_
  refine sO H<|sd (aK G G (by unfold i64ok;omega))<|sr 1 rfl<|sE ?_;clear H a;intro a H
  exact k44 (g4-1) (k+1) a _ (by omega) (⟨by omega,by omega,eW (f:=untB y.ps y.us) hp.2.2 hc10⟩) (S.sel [0,2] G G) (H.keep [121,11,119,120] rfl)
 refine wp_exit ?_
 refine k42 _ _ ?_
 refine sS H fun K54 k54=>sr 1 rfl<|sE ?_;clear H a;intro a H
 refine k54 _ ?_;clear k54 K54
 refine wp_ret ?_
 refine ret1 (fn:=Tryz.f37) rfl H rfl ?_
 rw [Bj hke hyi (by omega) (bX.2 fun q hq=>hp.2.2 q (by omega))];exact ⟨rfl,(S.sel [] G G)⟩
end
section
theorem chk5 (A B C:Prop) [Decidable A] [Decidable B] [Decidable C] (k:Nat):¬ A∨(A∧¬ B)∨(A∧B∧¬ C)∨(A∧B∧C∧k=0)∨(A∧B∧C∧0<k):=by
  by_cases hA:A <;> by_cases hB:B <;> by_cases hC:C <;> by_cases hk:k=0 <;> simp [hA,hB,hC,hk] <;> omega
section
variable {P:Program} {w:World} {L:List (Nat×Value)} {ty:TypeId} {pos:String} {af:Array Edge} {dd:Option Nat} {g:Option (Nat×Bool)}
theorem gK {x:Operand} {xt:TypeId} {lo n hi:Int} (hx:ev L x=some (.bool (decide (lo≤n)&&decide (n≤hi)))) (h:¬ (lo≤n∧n≤hi)):Does P L ⟨dd,.unOp .not xt x,ty,pos,af,g⟩ w (.bool true):=by
  have h1:=cL (P:=P) (d:=dd) (w:=w) (ty:=ty) (pos:=pos) (af:=af) (g:=g) (xt:=xt) hx
  have e:(!(decide (lo≤n)&&decide (n≤hi)))=true:=by simp only [Bool.not_eq_true',Bool.and_eq_false_iff,decide_eq_false_iff_not];omega
  rw [e] at h1
  exact h1
theorem bT {x:Operand} {xt:TypeId} {lo n hi:Int} (hx:ev L x=some (.bool (decide (lo≤n)&&decide (n≤hi)))) (h:lo≤n∧n≤hi):Does P L ⟨dd,.unOp .not xt x,ty,pos,af,g⟩ w (.bool false):=by
  have h1:=cL (P:=P) (d:=dd) (w:=w) (ty:=ty) (pos:=pos) (af:=af) (g:=g) (xt:=xt) hx
  rw [decide_eq_true h.1,decide_eq_true h.2] at h1
  exact h1
end
section
variable {y:Yr} {l:List Tsk} {k:Nat}
def tskI (y:Yr) (t:Tsk):Prop:=(0≤t.day∧t.day≤y.days-1)∧(0≤t.unit∧t.unit≤(y.us.length:Int)-1)∧(1≤t.kind∧t.kind≤2)
theorem kU (h:¬ ((0≤(l.getD k Tsk.zero).day∧(l.getD k Tsk.zero).day≤y.days-1)∧(0≤(l.getD k Tsk.zero).unit∧(l.getD k Tsk.zero).unit≤(y.us.length:Int)-1)∧(1≤(l.getD k Tsk.zero).kind∧(l.getD k Tsk.zero).kind≤2))):tskB y l k=false:=by
  unfold tskB;rw [decide_eq_false h,Bool.false_and]
theorem Bx (hB:(0≤(l.getD k Tsk.zero).day∧(l.getD k Tsk.zero).day≤y.days-1)∧(0≤(l.getD k Tsk.zero).unit∧(l.getD k Tsk.zero).unit≤(y.us.length:Int)-1)∧(1≤(l.getD k Tsk.zero).kind∧(l.getD k Tsk.zero).kind≤2)∧0<k) (h:befB (l.getD ((k:Int)-1).toNat Tsk.zero) (l.getD k Tsk.zero)=false):tskB y l k=false:=by
  rw [show ((k:Int)-1).toNat=k-1 by omega] at h
  unfold tskB;rw [h,decide_eq_false (show ¬ k=0 by omega),Bool.or_self,Bool.and_false]
theorem nA (hB:(0≤(l.getD k Tsk.zero).day∧(l.getD k Tsk.zero).day≤y.days-1)∧(0≤(l.getD k Tsk.zero).unit∧(l.getD k Tsk.zero).unit≤(y.us.length:Int)-1)∧(1≤(l.getD k Tsk.zero).kind∧(l.getD k Tsk.zero).kind≤2)∧k=0):tskB y l k=true:=by
  unfold tskB;rw [decide_eq_true ⟨hB.1,hB.2.1,hB.2.2.1⟩,decide_eq_true hB.2.2.2];rfl
theorem nB (hB:(0≤(l.getD k Tsk.zero).day∧(l.getD k Tsk.zero).day≤y.days-1)∧(0≤(l.getD k Tsk.zero).unit∧(l.getD k Tsk.zero).unit≤(y.us.length:Int)-1)∧(1≤(l.getD k Tsk.zero).kind∧(l.getD k Tsk.zero).kind≤2)∧0<k) (h:befB (l.getD ((k:Int)-1).toNat Tsk.zero) (l.getD k Tsk.zero)=true):tskB y l k=true:=by
  rw [show ((k:Int)-1).toNat=k-1 by omega] at h
  unfold tskB;rw [decide_eq_true ⟨hB.1,hB.2.1,hB.2.2.1⟩,h,Bool.or_true];rfl
end
theorem Jj (a b:Tsk) (w:World) :
    Calls Tryz.prog 39 [.agg [.int .i64 a.day,.int .i64 a.unit,.int .i64 a.kind].toArray,.agg [.int .i64 b.day,.int .i64 b.unit,.int .i64 b.kind].toArray].toArray w (Ret (fun v w'=>v = .bool (befB a b)∧St w noF [] w')):=by
 refine enter Tryz.func39 rfl Tryz.ntmps39 rfl (fun a H=>?_)
 have S:=St.start w
 refine seq_list fun K1 k1=>?_
 refine aO H rfl S G G ?_;clear H a S;intro b2 _ a hb2 hbw2 S H
 refine aO H rfl S G G ?_;clear H a S;intro b3 _ a hb3 hbw3 S H
 refine ls 1 H<|sr 1 rfl<|sE ?_;clear H a;intro a H
 refine k1 _ _ ?_;clear k1 K1
 refine wp_seq_k fun K2 k2=>?_
 refine sS H fun K3 k3=>sf cQ rfl<|sl S 1 aD G G G<|sf cQ rfl<|sl S 0 aD G G G<|sr 1 rfl<|sE ?_;clear H a;intro a H
 refine k3 _ ?_;clear k3 K3
 refine condN H rfl (fun hc1=>?_) (fun hc1=>?_)
 ·skip
  replace H:=H.keep [2,3] rfl
  refine sS H fun K4 k4=>sf cQ rfl<|sl S 1 aD G G G<|sf cQ rfl<|sl S 0 aD G G G<|sr 2 rfl<|sE ?_;clear H a;intro a H
  refine k4 _ ?_;clear k4 K4
  refine wp_ret ?_
  refine ret1 (fn:=Tryz.f39) rfl H rfl ?_
  refine ⟨?_,(S.sel [] G G)⟩;unfold befB;rw [if_pos hc1]
 refine wp_skip ?_
 refine k2 _ _ ?_
 refine wp_seq_k fun K5 k5=>?_
 replace H:=H.keep [2,3] rfl
 refine sS H fun K6 k6=>sf dN rfl<|sl S 1 aD G G G<|sf dN rfl<|sl S 0 aD G G G<|sr 1 rfl<|sE ?_;clear H a;intro a H
 refine k6 _ ?_;clear k6 K6
 refine condN H rfl (fun hc2=>?_) (fun hc2=>?_)
 ·skip
  replace H:=H.keep [2,3] rfl
  refine sS H fun K7 k7=>sf dN rfl<|sl S 1 aD G G G<|sf dN rfl<|sl S 0 aD G G G<|sr 2 rfl<|sE ?_;clear H a;intro a H
  refine k7 _ ?_;clear k7 K7
  refine wp_ret ?_
  refine ret1 (fn:=Tryz.f39) rfl H rfl ?_
  refine ⟨?_,(S.sel [] G G)⟩;unfold befB;rw [if_neg (fun h=>h (by omega)),if_pos hc2]
 refine wp_skip ?_
 refine k5 _ _ ?_
 replace H:=H.keep [2,3] rfl
 refine sS H fun K8 k8=>sf fV rfl<|sl S 1 aD G G G<|sf fV rfl<|sl S 0 aD G G G<|sr 2 rfl<|sE ?_;clear H a;intro a H
 refine k8 _ ?_;clear k8 K8
 refine wp_ret ?_
 refine ret1 (fn:=Tryz.f39) rfl H rfl ?_
 refine ⟨?_,(S.sel [] G G)⟩;unfold befB;rw [if_neg (fun h=>h (by omega)),if_neg (fun h=>h (by omega))]
theorem Bz (y:Yr) (l:List Tsk) (LA:Option Addr) (lc:Nat) (w:World) (hy:YIn w noF y) (hyb:YBd y) (hl:InS w noF 3 LA l.length (cM l)) (hln:l.length≤9223372036854775807) :
    Calls Tryz.prog 20 [.agg [.int .i64 y.days,.int .i64 y.pl,.slice y.PA y.ps.length y.pc,.slice y.XA y.xs.length y.xc,.slice y.BA y.pe.length y.bc,.int .i64 y.limit,.bool y.help,.slice y.QA y.prs.length y.qc,.slice y.VA y.us.length y.vc,.int .i64 y.crew,.slice y.SA y.sps.length y.sc].toArray,.slice LA l.length lc].toArray w (Ret (fun v w'=>v = .int .i64 (taskE y l)∧St w noF [] w')):=by
 have hn3:=hyb.usn
 refine enter Tryz.func20 rfl Tryz.ntmps20 rfl (fun a H=>?_)
 have S:=St.start w
 refine seq_list fun K1 k1=>?_
 refine aO H rfl S G G ?_;clear H a S;intro b2 _ a hb2 hbw2 S H
 refine ls 1 H<|sr 1 rfl<|sE ?_;clear H a;intro a H
 refine k1 _ _ ?_;clear k1 K1
 refine wp_seq_k fun K2 k2=>?_
 refine seq_list fun K3 k3=>?_
 refine ls 1 H<|sd ((aC fA hY rfl S (i:=0) G G))<|sE ?_;clear H a;intro a H
 refine aA H G G Tryz.func37 G G (Tl y _ (hy.now S) hyb) ?_;clear H a
 rintro _ _ a ⟨rfl,S2⟩ H
 replace S:=S.call S2;clear S2
 refine ls 1 H<|sr 1 rfl<|sE ?_;clear H a;intro a H
 refine k3 _ _ ?_;clear k3 K3
 refine sS H fun K4 k4=>sr 2 rfl<|sE ?_;clear H a;intro a H
 refine k4 _ ?_;clear k4 K4
 refine condN H rfl (fun hc1=>?_) (fun hc1=>?_)
 ·skip
  refine sS H fun K5 k5=>sr 2 rfl<|sE ?_;clear H a;intro a H
  refine k5 _ ?_;clear k5 K5
  refine wp_ret ?_
  refine ret1 (fn:=Tryz.f20) rfl H rfl ?_
  exact ⟨congrArg _ (uT hc1).symm,(S.sel [] G G)⟩
 have hye:yearE y=0:=by omega
 have hyi:=(pL hye).yr
 unfold yrI at hyi
 refine wp_skip ?_
 refine k2 _ _ ?_
 refine wp_seq_k fun K6 k6=>?_
 replace H:=H.keep [1,2] rfl
 refine sS H fun K7 k7=>sr 1 rfl<|sL dE rfl<|sr 1 rfl<|sE ?_;clear H a;intro a H
 refine k7 _ ?_;clear k7 K7
 refine condL H rfl (fun hc2=>?_) (fun hc2=>?_)
 ·skip
  refine sS H fun K8 k8=>sr 1 rfl<|sE ?_;clear H a;intro a H
  refine k8 _ ?_;clear k8 K8
  refine wp_ret ?_
  refine ret1 (fn:=Tryz.f20) rfl H rfl ?_
  rw [uU hye (by omega)];exact ⟨rfl,(S.sel [] G G)⟩
 refine wp_skip ?_
 refine k6 _ _ ?_
 refine wp_seq_k fun K9 k9=>?_
 refine sS H fun K10 k10=>sr 1 rfl<|sL dE rfl<|sr 1 rfl<|sE ?_;clear H a;intro a H
 refine k10 _ ?_;clear k10 K10
 refine wp_block ?_
 refine loop_st (X:=Nat) (R0:=_) [1,2,16,17] H rfl (fun k=>[(18,.int .i64 (k:Int))]) (fun k=>[]) (fun g k=>k≤l.length∧g+k=l.length∧∀ q,q<k→tskB y l q=true) (l.length) 0 ?_ (S.sel [0] G G) (H.keep [18,1,2,16,17] rfl) ?_
 · exact ⟨by omega,by omega,fun q hq=>absurd hq (Nat.not_lt_zero q)⟩
 clear H S a
 intro g1 x1 a w1 hp S H K11 k11
 obtain ⟨k,rfl⟩:∃ y,y=x1:=⟨_,rfl⟩
 refine sS H fun K12 k12=>sr 1 rfl<|sE ?_;clear H a;intro a H
 refine k12 _ ?_;clear k12 K12
 refine wp_seq_k fun K13 k13=>?_
 refine condL H rfl (fun hc3=>?_) (fun hc3=>?_)
 ·skip
  refine wp_skip ?_
  refine k13 _ _ ?_
  refine wp_seq_k fun K14 k14=>?_
  refine wp_block ?_
  refine seq_list fun K15 k15=>?_
  refine ls 3 H<|sr 1 rfl<|si dE cT G G (hl.adr (by omega)) (by omega)<|sd ((aW lU cT rfl S hl (by omega) (by omega)))<|sE ?_;clear H a;intro a H
  refine aI H rfl S rD ?_;clear H a S;intro b7 _ a hb7 hbw7 S H
  refine ls 1 H<|sr 1 rfl<|sE ?_;clear H a;intro a H
  refine aF H S (i:=0) G G G G cT G G ?_
  clear H a S;intro _ a S H
  refine k15 _ _ ?_;clear k15 K15
  rcases chk5 (0≤(l.getD k Tsk.zero).day∧(l.getD k Tsk.zero).day≤y.days-1) (0≤(l.getD k Tsk.zero).unit∧(l.getD k Tsk.zero).unit≤(y.us.length:Int)-1) (1≤(l.getD k Tsk.zero).kind∧(l.getD k Tsk.zero).kind≤2) k with hB|hB|hB|hB|hB
  ·skip
   skip
   replace H:=H.keep [1,2,6,7,16,17,18] rfl
   replace S:=S.drew
   refine seq_wq [(0,true),(1,true),(2,true),(3,true),(4,true),(5,false),(6,true),(7,true),(8,true),(9,true),(10,true),(11,true),(12,true),(13,true),(14,true),(15,true),(16,true),(17,true),(18,true),(19,true),(20,true),(21,true),(22,true),(23,true),(24,true),(25,true),(26,true),(27,true),(28,true),(29,true),(30,true),(31,true),(32,true),(33,true),(34,true),(35,true),(36,true)] (by kernel_rfl) (by kernel_rfl) (S.sel [0,1] G G) fun K16 k16=>?_
   refine qF H<|qd rfl (fun _ S=>(aB cQ rfl))<|qd rfl (fun _ S=>aE aD rfl (boxM.rd S (i:=0) G G))<|qd rfl (fun _ S=>(aB dH rfl))<|qd rfl (fun _ S=>aE aD rfl (boxM.rd S (i:=1) G G))<|qd rfl (fun _ S=>aU G G (by unfold i64ok;omega))<|qK ?_;clear H a;intro a H
   refine aS rfl ?_
   refine aA H G G Tryz.func38 G G (bO _ _ _ _) ?_;clear H a
   rintro _ _ a ⟨rfl,rfl⟩ H
   refine wpList_nil (And.intro (S.sel [0,1] G G) ?_)
   refine qF H<|qd rfl (fun _ S=>gK rfl (by omega))<|qr 1 rfl<|qK ?_;clear H a;intro a H
   refine aJ H G G G G G ?_;clear H a;intro a H
   refine aJ H G G G G G ?_;clear H a;intro a H
   refine aJ H G G G G G ?_;clear H a;intro a H
   refine aJ H G G G G G ?_;clear H a;intro a H
   refine aJ H G G G G G ?_;clear H a;intro a H
   refine aJ H G G G G G ?_;clear H a;intro a H
   refine aJ H G G G G G ?_;clear H a;intro a H
   refine aJ H G G G G G ?_;clear H a;intro a H
   refine qF H<|qd rfl (fun _ S=>(aR G G G))<|qr 1 rfl<|qK ?_;clear H a;intro a H
   refine aJ H G G G G G ?_;clear H a;intro a H
   refine aJ H G G G G G ?_;clear H a;intro a H
   refine aJ H G G G G G ?_;clear H a;intro a H
   refine aJ H G G G G G ?_;clear H a;intro a H
   refine qF H<|qd rfl (fun _ S=>(aR G G G))<|qr 1 rfl<|qK ?_;clear H a;intro a H
   refine aJ H G G G G G ?_;clear H a;intro a H
   refine aJ H G G G G G ?_;clear H a;intro a H
   refine aJ H G G G G G ?_;clear H a;intro a H
   refine bS H G G G G ?_;clear H a;intro a H
   refine bS H G G G G ?_;clear H a;intro a H
   refine bS H G G G G ?_;clear H a;intro a H
   refine bS H G G G G ?_;clear H a;intro a H
   refine bS H G G G G ?_;clear H a;intro a H
   refine bS H G G G G ?_;clear H a;intro a H
   refine bS H G G G G ?_;clear H a;intro a H
   refine bS H G G G G ?_;clear H a;intro a H
   refine aJ H G G G G G ?_;clear H a;intro a H
   refine qF H<|qd rfl (fun _ S=>(aR G G G))<|qK ?_;clear H a;intro a H
   refine bF ?_
   refine k16 _ _ ?_
   clear k16 K16
   refine cond_ H rfl (fun hc4=>?_) (fun hc4=>?_)
   ·skip
    skip
    replace H:=H.keep [] rfl
    refine sS H fun K17 k17=>sr 1 rfl<|sE ?_;clear H a;intro a H
    refine k17 _ ?_;clear k17 K17
    refine wp_ret ?_
    refine ret1 (fn:=Tryz.f20) rfl H rfl ?_
    rw [gJ hye (by omega) (show k<l.length by omega) (kU (by omega))];exact ⟨rfl,(S.sel [] G G)⟩
   skip
   cases hc4
  ·skip
   skip
   replace H:=H.keep [1,2,6,7,16,17,18] rfl
   replace S:=S.drew
   refine seq_wq [(0,true),(1,true),(2,true),(3,true),(4,true),(5,false),(6,true),(7,true),(8,true),(9,true),(10,true),(11,true),(12,true),(13,true),(14,false),(15,true),(16,true),(17,true),(18,true),(19,true),(20,true),(21,true),(22,true),(23,true),(24,true),(25,true),(26,true),(27,true),(28,true),(29,true),(30,true),(31,true),(32,true),(33,true),(34,true),(35,true),(36,true)] (by kernel_rfl) (by kernel_rfl) (S.sel [0,1] G G) fun K18 k18=>?_
   refine qF H<|qd rfl (fun _ S=>(aB cQ rfl))<|qd rfl (fun _ S=>aE aD rfl (boxM.rd S (i:=0) G G))<|qd rfl (fun _ S=>(aB dH rfl))<|qd rfl (fun _ S=>aE aD rfl (boxM.rd S (i:=1) G G))<|qd rfl (fun _ S=>aU G G (by unfold i64ok;omega))<|qK ?_;clear H a;intro a H
   refine aS rfl ?_
   refine aA H G G Tryz.func38 G G (bO _ _ _ _) ?_;clear H a
   rintro _ _ a ⟨rfl,rfl⟩ H
   refine wpList_nil (And.intro (S.sel [0,1] G G) ?_)
   refine qF H<|qd rfl (fun _ S=>bT rfl (by omega))<|qr 1 rfl<|qK ?_;clear H a;intro a H
   refine aG H G G G G (fun _ S=>(aB dN rfl)) ?_;clear H a;intro a H
   refine aG H G G G G (fun _ S=>aE aD rfl (boxM.rd S (i:=0) G G)) ?_;clear H a;intro a H
   refine aG H G G G G (fun _ S=>(aB cP rfl)) ?_;clear H a;intro a H
   refine aG H G G G G (fun _ S=>aE dT rfl (boxM.rd S (i:=1) G G)) ?_;clear H a;intro a H
   refine aG H G G G G (fun _ S=>cB eM rfl) ?_;clear H a;intro a H
   refine aG H G G G G (fun _ S=>aU G G (by unfold i64ok;omega)) ?_;clear H a;intro a H
   refine aS rfl ?_
   refine aX H G G ?_
   refine aA H G G Tryz.func38 G G (bO _ _ _ _) ?_;clear H a
   rintro _ _ a ⟨rfl,rfl⟩ H
   refine wpList_nil (And.intro (S.sel [0,1] G G) ?_)
   refine aG H G G G G (fun _ S=>gK rfl (by omega)) ?_;clear H a;intro a H
   refine qF H<|qd rfl (fun _ S=>(aY G G G))<|qr 1 rfl<|qK ?_;clear H a;intro a H
   refine aJ H G G G G G ?_;clear H a;intro a H
   refine aJ H G G G G G ?_;clear H a;intro a H
   refine aJ H G G G G G ?_;clear H a;intro a H
   refine aJ H G G G G G ?_;clear H a;intro a H
   refine qF H<|qd rfl (fun _ S=>(aR G G G))<|qr 1 rfl<|qK ?_;clear H a;intro a H
   refine aJ H G G G G G ?_;clear H a;intro a H
   refine aJ H G G G G G ?_;clear H a;intro a H
   refine aJ H G G G G G ?_;clear H a;intro a H
   refine bS H G G G G ?_;clear H a;intro a H
   refine bS H G G G G ?_;clear H a;intro a H
   refine bS H G G G G ?_;clear H a;intro a H
   refine bS H G G G G ?_;clear H a;intro a H
   refine bS H G G G G ?_;clear H a;intro a H
   refine bS H G G G G ?_;clear H a;intro a H
   refine bS H G G G G ?_;clear H a;intro a H
   refine bS H G G G G ?_;clear H a;intro a H
   refine aJ H G G G G G ?_;clear H a;intro a H
   refine qF H<|qd rfl (fun _ S=>(aR G G G))<|qK ?_;clear H a;intro a H
   refine bF ?_
   refine k18 _ _ ?_
   clear k18 K18
   refine cond_ H rfl (fun hc5=>?_) (fun hc5=>?_)
   ·skip
    skip
    replace H:=H.keep [] rfl
    refine sS H fun K19 k19=>sr 1 rfl<|sE ?_;clear H a;intro a H
    refine k19 _ ?_;clear k19 K19
    refine wp_ret ?_
    refine ret1 (fn:=Tryz.f20) rfl H rfl ?_
    rw [gJ hye (by omega) (show k<l.length by omega) (kU (by omega))];exact ⟨rfl,(S.sel [] G G)⟩
   skip
   cases hc5
  ·skip
   skip
   replace H:=H.keep [1,2,6,7,16,17,18] rfl
   replace S:=S.drew
   refine seq_wq [(0,true),(1,true),(2,true),(3,true),(4,true),(5,false),(6,true),(7,true),(8,true),(9,true),(10,true),(11,true),(12,true),(13,true),(14,false),(15,true),(16,true),(17,true),(18,true),(19,true),(20,false),(21,true),(22,true),(23,true),(24,true),(25,true),(26,true),(27,true),(28,true),(29,true),(30,true),(31,true),(32,true),(33,true),(34,true),(35,true),(36,true)] (by kernel_rfl) (by kernel_rfl) (S.sel [0,1] G G) fun K20 k20=>?_
   refine qF H<|qd rfl (fun _ S=>(aB cQ rfl))<|qd rfl (fun _ S=>aE aD rfl (boxM.rd S (i:=0) G G))<|qd rfl (fun _ S=>(aB dH rfl))<|qd rfl (fun _ S=>aE aD rfl (boxM.rd S (i:=1) G G))<|qd rfl (fun _ S=>aU G G (by unfold i64ok;omega))<|qK ?_;clear H a;intro a H
   refine aS rfl ?_
   refine aA H G G Tryz.func38 G G (bO _ _ _ _) ?_;clear H a
   rintro _ _ a ⟨rfl,rfl⟩ H
   refine wpList_nil (And.intro (S.sel [0,1] G G) ?_)
   refine qF H<|qd rfl (fun _ S=>bT rfl (by omega))<|qr 1 rfl<|qK ?_;clear H a;intro a H
   refine aG H G G G G (fun _ S=>(aB dN rfl)) ?_;clear H a;intro a H
   refine aG H G G G G (fun _ S=>aE aD rfl (boxM.rd S (i:=0) G G)) ?_;clear H a;intro a H
   refine aG H G G G G (fun _ S=>(aB cP rfl)) ?_;clear H a;intro a H
   refine aG H G G G G (fun _ S=>aE dT rfl (boxM.rd S (i:=1) G G)) ?_;clear H a;intro a H
   refine aG H G G G G (fun _ S=>cB eM rfl) ?_;clear H a;intro a H
   refine aG H G G G G (fun _ S=>aU G G (by unfold i64ok;omega)) ?_;clear H a;intro a H
   refine aS rfl ?_
   refine aX H G G ?_
   refine aA H G G Tryz.func38 G G (bO _ _ _ _) ?_;clear H a
   rintro _ _ a ⟨rfl,rfl⟩ H
   refine wpList_nil (And.intro (S.sel [0,1] G G) ?_)
   refine aG H G G G G (fun _ S=>bT rfl (by omega)) ?_;clear H a;intro a H
   refine qF H<|qd rfl (fun _ S=>(aY G G G))<|qr 1 rfl<|qK ?_;clear H a;intro a H
   refine aG H G G G G (fun _ S=>(aB fV rfl)) ?_;clear H a;intro a H
   refine aG H G G G G (fun _ S=>aE aD rfl (boxM.rd S (i:=0) G G)) ?_;clear H a;intro a H
   refine aS rfl ?_
   refine aX H G G ?_
   refine aA H G G Tryz.func38 G G (bO _ _ _ _) ?_;clear H a
   rintro _ _ a ⟨rfl,rfl⟩ H
   refine wpList_nil (And.intro (S.sel [0,1] G G) ?_)
   refine aG H G G G G (fun _ S=>gK rfl (by omega)) ?_;clear H a;intro a H
   refine qF H<|qd rfl (fun _ S=>(aY G G G))<|qr 1 rfl<|qK ?_;clear H a;intro a H
   refine aJ H G G G G G ?_;clear H a;intro a H
   refine aJ H G G G G G ?_;clear H a;intro a H
   refine aJ H G G G G G ?_;clear H a;intro a H
   refine bS H G G G G ?_;clear H a;intro a H
   refine bS H G G G G ?_;clear H a;intro a H
   refine bS H G G G G ?_;clear H a;intro a H
   refine bS H G G G G ?_;clear H a;intro a H
   refine bS H G G G G ?_;clear H a;intro a H
   refine bS H G G G G ?_;clear H a;intro a H
   refine bS H G G G G ?_;clear H a;intro a H
   refine bS H G G G G ?_;clear H a;intro a H
   refine aJ H G G G G G ?_;clear H a;intro a H
   refine qF H<|qd rfl (fun _ S=>(aR G G G))<|qK ?_;clear H a;intro a H
   refine bF ?_
   refine k20 _ _ ?_
   clear k20 K20
   refine cond_ H rfl (fun hc6=>?_) (fun hc6=>?_)
   ·skip
    skip
    replace H:=H.keep [] rfl
    refine sS H fun K21 k21=>sr 1 rfl<|sE ?_;clear H a;intro a H
    refine k21 _ ?_;clear k21 K21
    refine wp_ret ?_
    refine ret1 (fn:=Tryz.f20) rfl H rfl ?_
    rw [gJ hye (by omega) (show k<l.length by omega) (kU (by omega))];exact ⟨rfl,(S.sel [] G G)⟩
   skip
   cases hc6
  ·skip
   skip
   replace H:=H.keep [1,2,6,7,16,17,18] rfl
   replace S:=S.drew
   refine seq_wq [(0,true),(1,true),(2,true),(3,true),(4,true),(5,false),(6,true),(7,true),(8,true),(9,true),(10,true),(11,true),(12,true),(13,true),(14,false),(15,true),(16,true),(17,true),(18,true),(19,true),(20,false),(21,true),(22,true),(23,true),(24,true),(25,true),(26,true),(27,true),(28,true),(29,true),(30,true),(31,true),(32,true),(33,true),(34,true),(35,true),(36,true)] (by kernel_rfl) (by kernel_rfl) (S.sel [0,1] G G) fun K22 k22=>?_
   refine qF H<|qd rfl (fun _ S=>(aB cQ rfl))<|qd rfl (fun _ S=>aE aD rfl (boxM.rd S (i:=0) G G))<|qd rfl (fun _ S=>(aB dH rfl))<|qd rfl (fun _ S=>aE aD rfl (boxM.rd S (i:=1) G G))<|qd rfl (fun _ S=>aU G G (by unfold i64ok;omega))<|qK ?_;clear H a;intro a H
   refine aS rfl ?_
   refine aA H G G Tryz.func38 G G (bO _ _ _ _) ?_;clear H a
   rintro _ _ a ⟨rfl,rfl⟩ H
   refine wpList_nil (And.intro (S.sel [0,1] G G) ?_)
   refine qF H<|qd rfl (fun _ S=>bT rfl (by omega))<|qr 1 rfl<|qK ?_;clear H a;intro a H
   refine aG H G G G G (fun _ S=>(aB dN rfl)) ?_;clear H a;intro a H
   refine aG H G G G G (fun _ S=>aE aD rfl (boxM.rd S (i:=0) G G)) ?_;clear H a;intro a H
   refine aG H G G G G (fun _ S=>(aB cP rfl)) ?_;clear H a;intro a H
   refine aG H G G G G (fun _ S=>aE dT rfl (boxM.rd S (i:=1) G G)) ?_;clear H a;intro a H
   refine aG H G G G G (fun _ S=>cB eM rfl) ?_;clear H a;intro a H
   refine aG H G G G G (fun _ S=>aU G G (by unfold i64ok;omega)) ?_;clear H a;intro a H
   refine aS rfl ?_
   refine aX H G G ?_
   refine aA H G G Tryz.func38 G G (bO _ _ _ _) ?_;clear H a
   rintro _ _ a ⟨rfl,rfl⟩ H
   refine wpList_nil (And.intro (S.sel [0,1] G G) ?_)
   refine aG H G G G G (fun _ S=>bT rfl (by omega)) ?_;clear H a;intro a H
   refine qF H<|qd rfl (fun _ S=>(aY G G G))<|qr 1 rfl<|qK ?_;clear H a;intro a H
   refine aG H G G G G (fun _ S=>(aB fV rfl)) ?_;clear H a;intro a H
   refine aG H G G G G (fun _ S=>aE aD rfl (boxM.rd S (i:=0) G G)) ?_;clear H a;intro a H
   refine aS rfl ?_
   refine aX H G G ?_
   refine aA H G G Tryz.func38 G G (bO _ _ _ _) ?_;clear H a
   rintro _ _ a ⟨rfl,rfl⟩ H
   refine wpList_nil (And.intro (S.sel [0,1] G G) ?_)
   refine aG H G G G G (fun _ S=>bT rfl (by omega)) ?_;clear H a;intro a H
   refine qF H<|qd rfl (fun _ S=>(aY G G G))<|qr 1 rfl<|qK ?_;clear H a;intro a H
   refine aG H G G G G (fun _ S=>aL rfl) ?_;clear H a;intro a H
   refine aG H G G G G (fun _ S=>pZ G G (by omega)) ?_;clear H a;intro a H
   refine aG H G G G G (fun _ S=>aL rfl) ?_;clear H a;intro a H
   refine aJ H G G G G G ?_;clear H a;intro a H
   refine aJ H G G G G G ?_;clear H a;intro a H
   refine aJ H G G G G G ?_;clear H a;intro a H
   refine aJ H G G G G G ?_;clear H a;intro a H
   refine aJ H G G G G G ?_;clear H a;intro a H
   refine aJ H G G G G G ?_;clear H a;intro a H
   refine aJ H G G G G G ?_;clear H a;intro a H
   refine aJ H G G G G G ?_;clear H a;intro a H
   refine aG H G G G G (fun _ S=>(aR G G G)) ?_;clear H a;intro a H
   refine qF H<|qd rfl (fun _ S=>(aY G G G))<|qK ?_;clear H a;intro a H
   refine bF ?_
   refine k22 _ _ ?_
   clear k22 K22
   refine cond_ H rfl (fun hc7=>?_) (fun hc7=>?_)
   ·skip
    skip
    cases hc7
   skip
   refine wp_skip ?_
   refine k14 _ _ ?_
   replace H:=H.keep [1,2,16,17,18] rfl
   refine sO H<|sd (aK G G (by unfold i64ok;omega))<|sr 1 rfl<|sE ?_;clear H a;intro a H
   exact k11 (g1-1) (k+1) a _ (by omega) (by first|exact ⟨by omega,by omega,eW (f:=tskB y l) hp.2.2 (nA hB)⟩|exact ⟨by omega,by omega,eW (f:=tskB y l) hp.2.2 (nB hB hc8)⟩) (S.sel [1] G G) (H.keep [18,1,2,16,17] rfl)
  skip
  replace H:=H.keep [1,2,6,7,16,17,18] rfl
  replace S:=S.drew
  refine seq_wq [(0,true),(1,true),(2,true),(3,true),(4,true),(5,false),(6,true),(7,true),(8,true),(9,true),(10,true),(11,true),(12,true),(13,true),(14,false),(15,true),(16,true),(17,true),(18,true),(19,true),(20,false),(21,true),(22,true),(23,true),(24,true),(25,true),(26,true),(27,true),(28,true),(29,true),(30,true),(31,true),(32,true),(33,false),(34,true),(35,true),(36,true)] (by kernel_rfl) (by kernel_rfl) (S.sel [0,1] G G) fun K24 k24=>?_
  refine qF H<|qd rfl (fun _ S=>(aB cQ rfl))<|qd rfl (fun _ S=>aE aD rfl (boxM.rd S (i:=0) G G))<|qd rfl (fun _ S=>(aB dH rfl))<|qd rfl (fun _ S=>aE aD rfl (boxM.rd S (i:=1) G G))<|qd rfl (fun _ S=>aU G G (by unfold i64ok;omega))<|qK ?_;clear H a;intro a H
  refine aS rfl ?_
  refine aA H G G Tryz.func38 G G (bO _ _ _ _) ?_;clear H a
  rintro _ _ a ⟨rfl,rfl⟩ H
  refine wpList_nil (And.intro (S.sel [0,1] G G) ?_)
  refine qF H<|qd rfl (fun _ S=>bT rfl (by omega))<|qr 1 rfl<|qK ?_;clear H a;intro a H
  refine aG H G G G G (fun _ S=>(aB dN rfl)) ?_;clear H a;intro a H
  refine aG H G G G G (fun _ S=>aE aD rfl (boxM.rd S (i:=0) G G)) ?_;clear H a;intro a H
  refine aG H G G G G (fun _ S=>(aB cP rfl)) ?_;clear H a;intro a H
  refine aG H G G G G (fun _ S=>aE dT rfl (boxM.rd S (i:=1) G G)) ?_;clear H a;intro a H
  refine aG H G G G G (fun _ S=>cB eM rfl) ?_;clear H a;intro a H
  refine aG H G G G G (fun _ S=>aU G G (by unfold i64ok;omega)) ?_;clear H a;intro a H
  refine aS rfl ?_
  refine aX H G G ?_
  refine aA H G G Tryz.func38 G G (bO _ _ _ _) ?_;clear H a
  rintro _ _ a ⟨rfl,rfl⟩ H
  refine wpList_nil (And.intro (S.sel [0,1] G G) ?_)
  refine aG H G G G G (fun _ S=>bT rfl (by omega)) ?_;clear H a;intro a H
  refine qF H<|qd rfl (fun _ S=>(aY G G G))<|qr 1 rfl<|qK ?_;clear H a;intro a H
  refine aG H G G G G (fun _ S=>(aB fV rfl)) ?_;clear H a;intro a H
  refine aG H G G G G (fun _ S=>aE aD rfl (boxM.rd S (i:=0) G G)) ?_;clear H a;intro a H
  refine aS rfl ?_
  refine aX H G G ?_
  refine aA H G G Tryz.func38 G G (bO _ _ _ _) ?_;clear H a
  rintro _ _ a ⟨rfl,rfl⟩ H
  refine wpList_nil (And.intro (S.sel [0,1] G G) ?_)
  refine aG H G G G G (fun _ S=>bT rfl (by omega)) ?_;clear H a;intro a H
  refine qF H<|qd rfl (fun _ S=>(aY G G G))<|qr 1 rfl<|qK ?_;clear H a;intro a H
  refine aG H G G G G (fun _ S=>aL rfl) ?_;clear H a;intro a H
  refine aG H G G G G (fun _ S=>pY G G (by omega)) ?_;clear H a;intro a H
  refine aG H G G G G (fun _ S=>aL rfl) ?_;clear H a;intro a H
  refine aG H G G G G (fun _ S=>aL rfl) ?_;clear H a;intro a H
  refine aG H G G G G (fun _ S=>aL rfl) ?_;clear H a;intro a H
  refine aG H G G G G (fun _ S=>aU G G (by unfold i64ok;omega)) ?_;clear H a;intro a H
  refine aG H G G G G (fun _ S=>bY dE cT G G (hl.adr (by omega)) (by omega) (by omega)) ?_;clear H a;intro a H
  refine aG H G G G G (fun _ S=>(aW lU cT rfl S hl (by omega) (by omega))) ?_;clear H a;intro a H
  refine aG H G G G G (fun _ S=>(aC lU cT rfl S (i:=0) G G)) ?_;clear H a;intro a H
  refine aS rfl ?_
  refine aX H G G ?_
  refine aA H G G Tryz.func39 G G (Jj (l.getD ((k:Int)-1).toNat Tsk.zero) (l.getD k Tsk.zero) _) ?_;clear H a
  rintro _ _ a ⟨rfl,S2⟩ H
  replace S:=S.call S2;clear S2
  refine wpList_nil (And.intro (S.sel [0,1] G G) ?_)
  refine aG H G G G G (fun _ S=>cL rfl) ?_;clear H a;intro a H
  refine aG H G G G G (fun _ S=>(fD G G G)) ?_;clear H a;intro a H
  refine qF H<|qd rfl (fun _ S=>(aY G G G))<|qK ?_;clear H a;intro a H
  refine bF ?_
  refine k24 _ _ ?_
  clear k24 K24
  refine cond_ H rfl (fun hc8=>?_) (fun hc8=>?_)
  ·skip
   try simp only [o1,o2,o3,o4,o5,o6,o7,o8,o9,oa] at hc8
   replace hc8:befB (l.getD ((k:Int)-1).toNat Tsk.zero) (l.getD k Tsk.zero)=false:=by simpa using hc8
   replace H:=H.keep [] rfl
   refine sS H fun K25 k25=>sr 1 rfl<|sE ?_;clear H a;intro a H
   refine k25 _ ?_;clear k25 K25
   refine wp_ret ?_
   refine ret1 (fn:=Tryz.f20) rfl H rfl ?_
   rw [gJ hye (by omega) (show k<l.length by omega) (Bx hB hc8)];exact ⟨rfl,(S.sel [] G G)⟩
  try simp only [o1,o2,o3,o4,o5,o6,o7,o8,o9,oa] at hc8
  replace hc8:befB (l.getD ((k:Int)-1).toNat Tsk.zero) (l.getD k Tsk.zero)=true:=by simpa using hc8
  refine wp_skip ?_
  refine k14 _ _ ?_
  refine sO H<|sd (aK G G (by unfold i64ok;omega))<|sr 1 rfl<|sE ?_;clear H a;intro a H
  exact k11 (g1-1) (k+1) a _ (by omega) (by first|exact ⟨by omega,by omega,eW (f:=tskB y l) hp.2.2 (nA hB)⟩|exact ⟨by omega,by omega,eW (f:=tskB y l) hp.2.2 (nB hB hc8)⟩) (S.sel [1] G G) (H.keep [18,1,2,16,17] rfl)
 refine wp_exit ?_
 refine k9 _ _ ?_
 refine sS H fun K27 k27=>sr 1 rfl<|sE ?_;clear H a;intro a H
 refine k27 _ ?_;clear k27 K27
 refine wp_ret ?_
 refine ret1 (fn:=Tryz.f20) rfl H rfl ?_
 rw [uV hye (by omega) (bX.2 fun q hq=>hp.2.2 q (by omega))];exact ⟨rfl,(S.sel [] G G)⟩
end
section
theorem six {p:Nat→Prop} (h0:p 0) (h1:p 1) (h2:p 2) (h3:p 3) (h4:p 4) (h5:p 5):∀ j,j<6→p j:=by
  intro j hj
  match j,hj with
  | 0,_=>exact h0
  | 1,_=>exact h1
  | 2,_=>exact h2
  | 3,_=>exact h3
  | 4,_=>exact h4
  | 5,_=>exact h5
theorem vC {l:List Use} {x:Use} {vs:List Value} (h:∀ j,j<6→vs.getD j undef=x.cell j):∀ q j,q<l.length+1→j<6→capp l.length (ucell l) (fun k' j=>([vs].getD k' []).getD j undef) q j=ucell (l++[x]) q j:=by
  intro q j hq hj
  unfold capp ucell
  by_cases h1:q<l.length
  · rw [if_pos h1,List.getD_eq_getElem?_getD,List.getD_eq_getElem?_getD,List.getElem?_append_left h1]
  · rw [if_neg h1]
    have e:q=l.length:=by omega
    subst e
    rw [Nat.sub_self,List.getD_eq_getElem?_getD (l:=l++[x]),List.getElem?_append_right (Nat.le_refl _),Nat.sub_self]
    exact h j hj
theorem Tm {w:World} {p:Part} {l:List Use} {v:Value} {w':World} (h:v = .tuple #[.int .i64 (fM p l Prod.snd).1,.int .i64 (fM p l Prod.snd).2]∧St w noF [] w'):∃ n e:Int,v = .tuple #[.int .i64 n,.int .i64 e]∧bydB p l=(!decide (e=0)||decide (0≤n))∧St w noF [] w':=⟨_,_,h.1,rfl,h.2⟩
theorem Pc {w:World} {F:Nat→Prop} {sz n:Nat} {A:Option Addr} {cell:Nat→Nat→Value} (h:InS w F sz A n cell):A=none→n=0∧n=0:=fun e=>by
  rcases Nat.eq_zero_or_pos n with h0|h0
  · exact ⟨h0,h0⟩
  · obtain ⟨b,o,h1,_⟩:=h h0
    rw [e] at h1;cases h1
theorem Jk (u:Unt) (l:List Use) (LA:Option Addr) (lc:Nat) (age:Int) (w:World) (hur:InS w noF 2 u.RA u.rates.length (scell u.rates)) (hurn:u.rates.length≤9223372036854775807) (huu:InS w noF 6 u.UA u.uses.length (ucell u.uses)) (huun:u.uses.length≤9223372036854775807) (hl:InS w noF 6 LA l.length (ucell l)) (hln:l.length≤1000000) (hlc:l.length≤lc) :
    Calls Tryz.prog 106 [.agg [.int .i64 u.mach,.int .i64 u.every,.int .i64 u.seen,.slice u.RA u.rates.length u.rc,.int .i64 u.worn,.int .i64 u.turns,.int .i64 u.age,.slice u.UA u.uses.length u.uc,.int .i64 u.old,.int .i64 u.tn,.int .i64 u.cl,.int .i64 u.kind].toArray,.slice LA l.length lc,.int .i64 age].toArray w (Ret (fun v w'=>v = .bool (bydB u.part (l++[⟨age,u.tn,u.cl,false,0,0⟩]))∧St w noF [] w')):=by
 refine enter Tryz.func106 rfl Tryz.ntmps106 rfl (fun a H=>?_)
 have S:=St.start w
 refine seq_list fun K1 k1=>?_
 refine aO H rfl S G G ?_;clear H a S;intro b3 _ a hb3 hbw3 S H
 refine ls 1 H<|sr 1 rfl<|sE ?_;clear H a;intro a H
 refine k1 _ _ ?_;clear k1 K1
 replace H:=H.keep [1,2,3] rfl
 refine seq_list fun K2 k2=>?_
 refine ls 6 H<|sr 1 rfl<|sf sA rfl<|sl S 0 aD G G G<|sf sB rfl<|sl S 0 aD G G G<|sd (aN Mh G G)<|sE ?_;clear H a;intro a H
 refine aI H rfl S kI ?_;clear H a S;intro b7 _ a hb7 hbw7 S H
 refine aF H S (i:=0) G G G G cY G G ?_
 clear H a S;intro _ a S H
 refine k2 _ _ ?_;clear k2 K2
 replace H:=H.keep [1,3,7] rfl
 replace S:=S.drew
 refine seq_wt 999999 (.q 0 (.q 1 (.q 2 (.q 3 (.q 4 (.q 5 (.q 6 (.q 7 (.q 8 (.e 9 (.e 10 (.e 11 (.q 12 (.q 13 (.q 14 (.q 15 (.q 16 .nil))))))))))))))))) (by kernel_rfl) (by kernel_rfl) (S.sel [0,1] G G) fun K3 k3=>?_
 refine aH H G G (fun _ S=>(aB mQ rfl)) ?_;clear H a;intro a H
 refine aH H G G (fun _ S=>(aC fB hZ rfl S (i:=1) G G)) ?_;clear H a;intro a H
 refine aH H G G (fun _ S=>aL rfl) ?_;clear H a;intro a H
 refine aH H G G (fun _ S=>aL rfl) ?_;clear H a;intro a H
 refine aH H G G (fun _ S=>cB dJ rfl) ?_;clear H a;intro a H
 refine aH H G G (fun _ S=>aL rfl) ?_;clear H a;intro a H
 refine aH H G G (fun _ S=>cB dJ rfl) ?_;clear H a;intro a H
 refine aH H G G (fun _ S=>rL dJ cY G G G hlc) ?_;clear H a;intro a H
 refine aH H G G (fun _ S=>(aC jW cY rfl S (i:=0) G G)) ?_;clear H a;intro a H
 refine aM rfl ?_
 refine aZ H rfl S dJ cY kI G G G G G G G G G ?_;clear H a S;intro A1 _ a hA1 S H
 refine wpList_nil (And.intro (Or.inr (S.sel [1,2] G G)) ?_)
 refine aM rfl ?_
 refine pO H rfl S dJ cY kI Ly G G G G (n:=l.length) (cell:=ucell l) (cell':=_) (hl.now S) (Pc (hl.now S)) (by omega) (by omega) (ownM.inS S (i:=0) rfl) (jS (six G G G G G G)) (by omega) (by omega) ?_;clear H a S;intro A2 c2 _ a S H
 replace S:=S.recell (i:=0) rfl (cell':=ucell (l++[⟨age,u.tn,u.cl,false,0,0⟩])) (vC (x:=⟨age,u.tn,u.cl,false,0,0⟩) (six G G G G G G))
 refine wpList_nil (And.intro (Or.inr (S.sel [2,3] G G)) ?_)
 refine aM rfl ?_
 rw [show l.length+1=(l++[(⟨age,u.tn,u.cl,false,0,0⟩:Use)]).length by simp] at H S
 have hcl9:=eD (yN u.rates u.worn u.turns u.age u.RA u.rc (l++[⟨age,u.tn,u.cl,false,0,0⟩]) A2 c2 _ (hur.now S) hurn ((ownM.inS S (i:=0) rfl)) (by simp;omega)) (fun _ _ h=>Tm h)
 refine aA H G G Tryz.func122 G G hcl9 ?_;clear H a hcl9
 rintro _ _ a ⟨n9,e9,rfl,hb9,S2⟩ H
 replace S:=S.call S2;clear S2
 refine wpList_nil (And.intro (Or.inr (S.sel [2,3] G G)) ?_)
 refine aH H G G (fun _ S=>aL rfl) ?_;clear H a;intro a H
 refine aH H G G (fun _ S=>aP G G) ?_;clear H a;intro a H
 refine aH H G G (fun _ S=>aP G G) ?_;clear H a;intro a H
 refine aH H G G (fun _ S=>bJ rfl) ?_;clear H a;intro a H
 refine aH H G G (fun _ S=>bJ rfl) ?_;clear H a;intro a H
 refine bE ?_
 refine k3 _ _ ?_
 clear k3 K3
 replace H:=H.keep [8,9] rfl
 refine sS H fun K4 k4=>sr 3 rfl<|sg 2 2 33 35 false G G (fun hg3=>sy hg3<|sr 1 rfl<|sy hg3<|sr 1 rfl<|sz 2 G G G)<|so G G G<|sr 1 rfl<|sE ?_;clear H a;intro a H
 refine k4 _ ?_;clear k4 K4
 refine wp_ret ?_
 refine ret1 (fn:=Tryz.f106) rfl H rfl ?_
 exact ⟨congrArg Value.bool hb9.symm,(S.sel [] G G)⟩
theorem Tn (u:Unt) (J:Nat→Int) (dy:Nat) (w:World) (hur:InS w noF 2 u.RA u.rates.length (scell u.rates)) (hurn:u.rates.length≤9223372036854775807) (huu:InS w noF 6 u.UA u.uses.length (ucell u.uses)) (huun:u.uses.length≤9223372036854775807) (hucp:u.uses.length≤u.uc) (hui:untI u) (ho0:0≤u.old) (hJ:∀ d,0≤J d∧J d≤6) (hdy:dy≤20) :
    Calls Tryz.prog 69 [.agg [.int .i64 u.mach,.int .i64 u.every,.int .i64 u.seen,.slice u.RA u.rates.length u.rc,.int .i64 u.worn,.int .i64 u.turns,.int .i64 u.age,.slice u.UA u.uses.length u.uc,.int .i64 u.old,.int .i64 u.tn,.int .i64 u.cl,.int .i64 u.kind].toArray,.agg ((List.range 20).map fun k=>Value.int .i64 (J k)).toArray,.int .i64 (dy:Int)].toArray w (Ret (fun v w'=>v = .agg [.int .i64 (bsum (runB' u J) dy),.int .i64 (bsum (certB u J) dy)].toArray∧St w noF [] w')):=by
 have hmx:maxLen=9223372036854775807:=rfl
 unfold untI at hui
 refine enter Tryz.func69 rfl Tryz.ntmps69 rfl (fun a H=>?_)
 have S:=St.start w
 refine seq_list fun K1 k1=>?_
 refine aO H rfl S G G ?_;clear H a S;intro b3 _ a hb3 hbw3 S H
 refine aO H rfl S G G ?_;clear H a S;intro b4 _ a hb4 hbw4 S H
 refine aI H rfl S qI ?_;clear H a S;intro b6 _ a hb6 hbw6 S H
 refine k1 _ _ ?_;clear k1 K1
 replace S:=Sw S (i:=1) rfl (by omega)
 refine seq_list fun K2 k2=>?_
 refine aI H rfl S qI ?_;clear H a S;intro b7 _ a hb7 hbw7 S H
 refine k2 _ _ ?_;clear k2 K2
 replace H:=H.keep [2,3,4,6,7] rfl
 replace S:=S.drew
 refine sD H fun K3 k3=>sf gR rfl<|sl S 3 jL G G G<|sf rZ rfl<|sl S 3 aD G G G<|sd (iS rfl (by unfold i64ok;omega))<|sf xV rfl<|sl S 3 aD G G G<|sr 3 rfl<|sE ?_;clear H a;intro a H
 refine k3 _ ?_;clear k3 K3
 refine wp_seq_k fun K4 k4=>?_
 replace H:=H.keep [2,3,4,6,7,8,9,10] rfl
 refine sS H fun K5 k5=>sr 2 rfl<|sE ?_;clear H a;intro a H
 refine k5 _ ?_;clear k5 K5
 refine wp_block ?_
 replace S:=S.frz0
 refine loop_st (X:=Nat×LSt×Option Addr×Nat×(Nat→Prop)×World) (R0:=_) [3,4,6,7,21] H rfl (fun ⟨d,st,A9,c9,B9,wz⟩=>[(8,.slice A9 st.uses.length c9),(9,.int .i64 st.born),(10,.int .i64 st.seen),(22,.int .i64 (d:Int))]) (fun ⟨d,st,A9,c9,B9,wz⟩=>[boxM b7 113 [.int .i64 (bsum (runB' u J) d),.int .i64 (bsum (certB u J) d)],frzM B9 wz]) (fun g ⟨d,st,A9,c9,B9,wz⟩=>(d≤dy∧g+d=dy)∧(RdF w noF B9 wz 6 A9 st.uses.length (ucell st.uses)∧st.uses.length≤c9)∧st=lifeS u J d) (dy) (0,lifeS u J 0,u.UA,u.uc,noF,_) ?_ (S.sel [1,0,2,3,4] G G) (H.keep [8,9,10,22,3,4,6,7,21] rfl) ?_
 · exact ⟨⟨by omega,by omega⟩,⟨RdF.base huu,hucp⟩,rfl⟩
 clear H S a
 intro g1 x1 a w1 hp S H K6 k6
 obtain ⟨d,st,A9,c9,B9,wz⟩:=x1
 dsimp only at hp S H
 obtain ⟨⟨hdl,hgd⟩,⟨hrd,hcap⟩,hst9⟩:=hp
 subst hst9
 have hln:=Iy (u:=u) (J:=J) d
 have hbo:=Ee (u:=u) (J:=J) (by omega) d
 have hsn:=Ef (u:=u) (J:=J) (by omega) d
 skip
 refine sS H fun K7 k7=>sr 1 rfl<|sE ?_;clear H a;intro a H
 refine k7 _ ?_;clear k7 K7
 refine wp_seq_k fun K8 k8=>?_
 refine condL H rfl (fun hc1=>?_) (fun hc1=>?_)
 ·skip
  refine wp_skip ?_
  refine k8 _ _ ?_
  refine wp_seq_k fun K9 k9=>?_
  refine wp_block ?_
  refine sS H fun K10 k10=>sr 2 rfl<|sE ?_;clear H a;intro a H
  refine k10 _ ?_;clear k10 K10
  have hJd:=hJ d
  replace H:=H.keep [3,4,6,7,8,9,10,11,21,22] rfl
  replace S:=S.drew
  refine sD H fun K11 k11=>sr 1 rfl<|sd (cS Tryz.underlying149 bA G G (by omega) (by omega))<|slm aD rfl (ownM.rd S (i:=3) (k:=d) (j:=0) rfl (by omega) (by omega))<|sd (fQ G G (by omega) (by omega))<|sd (eY G G)<|sr 2 rfl<|sd (cS Tryz.underlying149 bA G G (by omega) (by omega))<|slm aD rfl (ownM.rd S (i:=3) (k:=d) (j:=0) rfl (by omega) (by omega))<|sd (fQ G G (by omega) (by omega))<|sd (eY G G)<|sr 3 rfl<|sE ?_;clear H a;intro a H
  refine k11 _ ?_;clear k11 K11
  have SR:=(S.sel [0,1,2,3,4] G G)
  refine meet_sr (X:=Int) [3,4,6,7,8,9,11,13,21,22] H rfl (fun x=>[(10,.int .i64 x)]) (fun x=>[]) (fun x=>x=seenN (lifeS u J d) (J d) d) SR (fun K13 k13=>?_) ?_
  ·skip
   replace H:=H.keep [3,4,6,7,8,9,10,11,12,13,21,22] rfl
   refine sS H fun K14 k14=>sr 1 rfl<|sE ?_;clear H a;intro a H
   refine k14 _ ?_;clear k14 K14
   refine condE H rfl (fun hc2=>?_) (fun hc2=>?_)
   ·skip
    refine sO H<|sr 2 rfl<|sE ?_;clear H a;intro a H
    exact k13 _ a _ ((if_pos (show insp (J d)=true from decide_eq_true hc2)).symm) (S.sel [0,1,2,3,4] G G) (H.keep [10,3,4,6,7,8,9,11,13,21,22] rfl)
   refine wp_skip ?_
   exact k13 _ a _ ((if_neg (show ¬ insp (J d)=true from fun h=>hc2 (of_decide_eq_true h))).symm) (S.sel [0,1,2,3,4] G G) (H.keep [10,3,4,6,7,8,9,11,13,21,22] rfl)
  clear SR H S a
  intro xm a wm hp S H
  obtain ⟨x,rfl⟩:∃ y,y=xm:=⟨_,rfl⟩
  have hx9:=hp
  have hxb:=Bn (s:=(lifeS u J d)) (j:=J d) (d:=d) hsn
  rw [←hx9] at hxb
  have SR:=(S.sel [1,2,3,4] G G)
  refine meet_sr (X:=Unit) [3,4,6,7,8,9,10,11,13,21,22] H rfl (fun u3=>[]) (fun u3=>[boxM b7 113 [.int .i64 (bsum (runB' u J) d),.int .i64 (bsum (certB u J) (d+1))]]) (fun u3=>True) SR (fun K17 k17=>?_) ?_
  ·skip
   refine sS H fun K18 k18=>sr 2 rfl<|sd (aU G G (by unfold i64ok;omega))<|sf rY rfl<|sl S 4 aD G G G<|sr 1 rfl<|sE ?_;clear H a;intro a H
   refine k18 _ ?_;clear k18 K18
   refine condG H rfl (fun hc3=>?_) (fun hc3=>?_)
   ·skip
    replace H:=H.keep [3,4,6,7,8,9,10,11,13,21,22] rfl
    refine lN 6 (by kernel_rfl) (by kernel_rfl) ?_
    replace S:=S.drew
    refine sF H<|sf Ab rfl<|sl S 0 aD G G G<|sr 1 rfl<|sd (eJ G G (by omega) (by omega) (Ed (by omega)))<|sd (uY G G (wL _ (by omega)) (by omega) (Ge (Nat.le_refl d)))<|sf Ab rfl<|sE ?_;clear H a;intro a H
    refine aF H S (i:=0) G G G G bA G G ?_
    clear H a S;intro _ a S H
    replace S:=boxM.same S (i:=0) rfl (cs':=[.int .i64 (bsum (runB' u J) d),.int .i64 (bsum (certB u J) (d+1))]) (by rw [←Oh (f:=certB u J) (n:=d) ((Bp u J d x hx9).symm.trans (decide_eq_true hc3))] <;> rfl)
    exact k17 () a _ (trivial) (S.sel [0,1,2,3,4] G G) (H.keep [3,4,6,7,8,9,10,11,13,21,22] rfl)
   refine wp_skip ?_
   replace S:=boxM.same S (i:=0) rfl (cs':=[.int .i64 (bsum (runB' u J) d),.int .i64 (bsum (certB u J) (d+1))]) (by rw [←Oi (f:=certB u J) (n:=d) ((Bp u J d x hx9).symm.trans (decide_eq_false (by omega)))] <;> rfl)
   exact k17 () a _ (trivial) (S.sel [0,1,2,3,4] G G) (H.keep [3,4,6,7,8,9,10,11,13,21,22] rfl)
  clear SR H S a
  intro xm a wm hp S H
  obtain ⟨u3,rfl⟩:∃ y,y=xm:=⟨_,rfl⟩
  skip
  have SR:=(S.sel [2,3,4] G G)
  refine meet_sr (X:=Option Addr×Nat×(Nat→Prop)×World) [3,4,6,7,9,10,11,13,21,22] H rfl (fun ⟨A8,c8,B8,wy⟩=>[(8,.slice A8 (usesN u J d).length c8)]) (fun ⟨A8,c8,B8,wy⟩=>[boxM b7 113 [.int .i64 (bsum (runB' u J) (d+1)),.int .i64 (bsum (certB u J) (d+1))],frzM B8 wy]) (fun ⟨A8,c8,B8,wy⟩=>RdF w noF B8 wy 6 A8 (usesN u J d).length (ucell (usesN u J d))∧(usesN u J d).length≤c8) SR (fun K21 k21=>?_) ?_
  ·skip
   replace H:=H.keep [3,4,6,7,8,9,10,11,13,21,22] rfl
   refine seq_list fun K22 k22=>?_
   refine ls 13 H<|sr 1 rfl<|sd (cS Tryz.underlying149 bA G G (by omega) (by omega))<|slm aD rfl (ownM.rd S (i:=3) (k:=d) (j:=0) rfl (by omega) (by omega))<|sr 2 rfl<|sg 6 4 55 61 true G G (fun hg5=>sy hg5<|sr 1 rfl<|sy hg5<|sr 1 rfl<|sy hg5<|sd (aU G G (by unfold i64ok;omega))<|sy hg5<|sf rY rfl<|sy hg5<|sl S 4 aD G G G<|sy hg5<|sr 1 rfl<|sz 6 G G G)<|sa G G G<|sr 1 rfl<|sE ?_;clear H a;intro a H
   apply cG (i:=12) (g:=63) (t:=70) (b:=true) 7 H S G G (by kernel_rfl) (by kernel_rfl) G G
   case h1=>
    intro hg13
    refine ls 5 H<|sy hg13<|sd ((aC qG gN rfl S (i:=4) G G))<|sy hg13<|sr 1 rfl<|sy hg13<|sr 1 rfl<|sy hg13<|sr 1 rfl<|sy hg13<|sd (aU G G (by unfold i64ok;omega))<|sE ?_;intro a H
    refine dC H G G (by assumption) ?_
    refine aA H G G Tryz.func106 G G (Jk u (lifeS u J d).uses A9 c9 ((d:Int)-(lifeS u J d).born) _ (hur.now S) hurn (huu.now S) huun (hrd.now S (i:=1) rfl) (by omega) hcap) ?_
    rintro _ _ a ⟨rfl,S2⟩ H
    replace S:=S.call S2;clear S2
    refine ls 1 H<|sy hg13<|sr 1 rfl<|sE ?_;intro a H
    exact wpList_nil ⟨H.strip 7 G G,(S.sel [0,1,2,3,4] G G)⟩
   clear H a S;intro a _ H S
   refine ls 1 H<|sa G G G<|sE ?_;clear H a;intro a H
   refine k22 _ _ ?_;clear k22 K22
   refine cond_ H rfl (fun hc4=>?_) (fun hc4=>?_)
   ·skip
    rw [Gf u J d x hx9] at hc4
    replace H:=H.keep [3,4,6,7,8,9,10,11,13,21,22] rfl
    refine lM 6 (by kernel_rfl) (by kernel_rfl) fun K23 k23=>?_
    replace S:=S.drew
    refine sF H<|sf tP rfl<|sl S 0 aD G G G<|sr 1 rfl<|sd (eJ G G (by omega) (by omega) (Ed (by omega)))<|sd (uY G G (wL _ (by omega)) (by omega) (Ge (Nat.le_refl d)))<|sf tP rfl<|sE ?_;clear H a;intro a H
    refine aF H S (i:=0) G G G G bA G G ?_
    clear H a S;intro _ a S H
    refine k23 _ _ ?_;clear k23 K23
    replace H:=H.keep [3,4,6,7,8,9,10,11,13,21,22] rfl
    replace S:=S.drew
    refine one_wq [(0,true),(1,true),(2,true),(3,true),(4,true),(5,true),(6,true),(7,true),(8,true),(9,true),(10,true),(11,true),(12,true),(13,true),(14,false),(15,false),(16,true)] (by kernel_rfl) (by kernel_rfl) (S.sel [0,1,2,3,4] G G) ?_
    refine qF H<|qr 2 rfl<|qd rfl (fun _ S=>cB dJ rfl)<|qr 1 rfl<|qd rfl (fun _ S=>cB dJ rfl)<|qd rfl (fun _ S=>rL dJ cY G G G hcap)<|qr 2 rfl<|qd rfl (fun _ S=>aU G G (by unfold i64ok;omega))<|qd rfl (fun _ S=>(aB sA rfl))<|qd rfl (fun _ S=>aE aD rfl (boxM.rd S (i:=4) G G))<|qd rfl (fun _ S=>(aB sB rfl))<|qd rfl (fun _ S=>aE aD rfl (boxM.rd S (i:=4) G G))<|qd rfl (fun _ S=>aN Mh G G)<|qK ?_;clear H a;intro a H
    refine aS rfl ?_
    refine aZ H rfl S dJ cY kI G G G G G G G G G ?_;clear H a S;intro A1 _ a hA1 S H
    refine wpList_nil (And.intro (S.sel [1,2,3,4,5] G G) ?_)
    refine aS rfl ?_
    refine pO H rfl S dJ cY kI Ly G G G G (n:=(lifeS u J d).uses.length) (cell:=ucell (lifeS u J d).uses) (cell':=_) (hrd.now S (i:=2) rfl) (Pc (hrd.now S (i:=2) rfl)) (by omega) (by omega) (ownM.inS S (i:=0) rfl) (jS (six G G G G G G)) (by omega) (by omega) ?_;clear H a S;intro A3 c3 _ a S H
    replace S:=S.recell (i:=0) rfl (cell':=ucell ((lifeS u J d).uses++[useAt u d (lifeS u J d).born])) (vC (x:=useAt u d (lifeS u J d).born) (six G G G G G G))
    refine wpList_nil (And.intro (S.sel [2,3,4,5,6] G G) ?_)
    refine qF H<|qr 1 rfl<|qK ?_;clear H a;intro a H
    refine bF ?_
    replace S:=boxM.same S (i:=2) rfl (cs':=[.int .i64 (bsum (runB' u J) (d+1)),.int .i64 (bsum (certB u J) (d+1))]) (by rw [←Oh (f:=runB' u J) (n:=d) hc4] <;> rfl)
    replace S:=(S.sel [0,1,2,3,4,5,6] G G)
    have hle3:=ownM.le S (i:=0) rfl
    obtain ⟨B2,S,hA2,_⟩:=St.freeze S (i:=2) rfl
    rw [show (lifeS u J d).uses.length+1=(usesN u J d).length by unfold usesN;rw [if_pos hc4];simp] at H
    exact k21 (A3,c3,B2,_) a _ (⟨by rw [Gg hc4,List.length_append];exact hA2,by rw [Gg hc4,List.length_append];exact hle3.1⟩) (S.sel [1,2,3,4,5] G G) (H.keep [8,3,4,6,7,9,10,11,13,21,22] rfl)
   rw [Gf u J d x hx9] at hc4
   refine wp_skip ?_
   replace S:=boxM.same S (i:=0) rfl (cs':=[.int .i64 (bsum (runB' u J) (d+1)),.int .i64 (bsum (certB u J) (d+1))]) (by rw [←Oi (f:=runB' u J) (n:=d) hc4] <;> rfl)
   rw [←yQ hc4] at H
   exact k21 (A9,c9,B9,wz) a _ (⟨by rw [yQ hc4];exact hrd,by rw [yQ hc4];exact hcap⟩) (S.sel [0,1,2,3,4] G G) (H.keep [8,3,4,6,7,9,10,11,13,21,22] rfl)
  clear SR H S a
  intro xm a wm hp S H
  obtain ⟨A8,c8,B8,wy⟩:=xm
  rw [show Value.bool (decide (J d/2^(2:Int).toNat%2=1))=Value.bool (renw (J d)) from rfl] at H
  replace H:=H.keep [3,4,6,7,8,9,10,11,13,21,22] rfl
  refine sS H fun K25 k25=>sr 1 rfl<|sE ?_;clear H a;intro a H
  refine k25 _ ?_;clear k25 K25
  refine cond_ H rfl (fun hc5=>?_) (fun hc5=>?_)
  ·skip
   skip
   refine sO H<|sr 3 rfl<|sE ?_;clear H a;intro a H
   refine k9 _ _ ?_
   refine sO H<|sd (aK G G (by unfold i64ok;omega))<|sr 1 rfl<|sE ?_;clear H a;intro a H
   have hp8:=hp
   exact k6 (g1-1) (d+1,⟨[],(d:Int),x⟩,none,0,B8,wy) a _ (by omega) (⟨⟨by omega,by omega⟩,⟨RdF.nil,Nat.le_refl 0⟩,Wn hc5 hx9⟩) (S.sel [0,1,2,3,4] G G) (H.keep [8,9,10,22,3,4,6,7,21] rfl)
  skip
  refine wp_skip ?_
  refine k9 _ _ ?_
  refine sO H<|sd (aK G G (by unfold i64ok;omega))<|sr 1 rfl<|sE ?_;clear H a;intro a H
  have hp8:=hp
  exact k6 (g1-1) (d+1,⟨usesN u J d,(lifeS u J d).born,x⟩,A8,c8,B8,wy) a _ (by omega) (⟨⟨by omega,by omega⟩,hp8,Wo hc5 hx9⟩) (S.sel [0,1,2,3,4] G G) (H.keep [8,9,10,22,3,4,6,7,21] rfl)
 refine wp_exit ?_
 refine k4 _ _ ?_
 replace H:=H.keep [6,7] rfl
 refine seq_list fun K29 k29=>?_
 refine ls 1 H<|sd ((aC lA gO rfl S (i:=0) G G))<|sE ?_;clear H a;intro a H
 refine aF H S (i:=2) G G G G gO G G ?_
 clear H a S;intro _ a S H
 refine k29 _ _ ?_;clear k29 K29
 refine wp_ret ?_
 refine retA (fn:=Tryz.f69) rfl H rfl lA (by exact gO) (dS S (i:=2) rfl) ?_
 obtain rfl:d=dy:=by omega
 exact ⟨rfl,(S.sel [] G G)⟩
end
section
theorem keyOK:KeyOk Tryz.prog 151 (encN (n:=21)):=
  Sp (Og Tryz.underlying151 tG (.cons (by decide) rfl (PartK.int2 Tryz.underlying3 aD) (.cons (by decide) rfl (PartK.of (Of Tryz.underlying149 Li (PartK.int Tryz.underlying3 aD) bA)) (.nil 21))) (by kernel_rfl)) (by omega) (by rw [Tryz.underlying151])
theorem YIn.nowR {w w0:World} {F0:Nat→Prop} {R:List Mem} {y:Yr} (h:YIn w0 F0 y) (S:St w0 F0 R w):YIn w (fps R) y:=
  ⟨h.ps.nowR S,h.xs.nowR S,h.pe.nowR S,h.prs.nowR S,h.us.nowR S,h.sps.nowR S,fun k hk=>(h.rt k hk).nowR S,fun k hk=>(h.ul k hk).nowR S⟩
theorem YOk.days {y:Yr} (h:YOk y):1≤y.days∧y.days≤20:=h.yr.1
theorem YOk.unit {y:Yr} (h:YOk y) {i:Nat} (hi:i<y.us.length):UntOk y.ps y.us (y.us.getD i Unt.zero) i:=iT.1 (h.un i hi)
theorem YOk.old {y:Yr} (h:YOk y) {i:Nat} (hi:i<y.us.length):0≤(y.us.getD i Unt.zero).old:=by
  have h1:=h.unit hi
  have h2:=vB h1.wear
  have h3:=h1.i
  unfold untI at h3
  omega
theorem Gi (y:Yr) (w:World) :
    Calls Tryz.prog 21 [.agg [.int .i64 y.days,.int .i64 y.pl,.slice y.PA y.ps.length y.pc,.slice y.XA y.xs.length y.xc,.slice y.BA y.pe.length y.bc,.int .i64 y.limit,.bool y.help,.slice y.QA y.prs.length y.qc,.slice y.VA y.us.length y.vc,.int .i64 y.crew,.slice y.SA y.sps.length y.sc].toArray].toArray w (Ret (fun v w'=>∃ cb bl bs bk,v = .pointer (some ⟨cb,0,none⟩)∧St w noF [boxM cb 106 [.int .i64 y.days,.int .i64 y.pl,.slice y.PA y.ps.length y.pc,.slice y.XA y.xs.length y.xc,.slice y.BA y.pe.length y.bc,.int .i64 y.limit,.bool y.help,.slice y.QA y.prs.length y.qc,.slice y.VA y.us.length y.vc,.int .i64 y.crew,.slice y.SA y.sps.length y.sc,.map (some bl),.map (some bs),.map (some bk)],mapK (encN (n:=21)) bl (livP y),mapK (fun n:Int=>Value.int .i64 n) bs (safP y),mapK enc2 bk (kepP y)] w')):=by
 refine enter Tryz.func21 rfl Tryz.ntmps21 rfl (fun a H=>?_)
 have S:=St.start w
 refine seq_list fun K1 k1=>?_
 refine aO H rfl S G G ?_;clear H a S;intro b1 _ a hb1 hbw1 S H
 refine ls 1 H<|sr 1 rfl<|sE ?_;clear H a;intro a H
 refine k1 _ _ ?_;clear k1 K1
 refine seq_list fun K2 k2=>?_
 refine ls 1 H<|sd ((aC fA hY rfl S (i:=0) G G))<|sE ?_;clear H a;intro a H
 refine iP (encN (n:=21)) (livP y) Jc H rfl S ?_;clear H a S;intro bl _ a hbl S H
 refine iP (fun n:Int=>Value.int .i64 n) (safP y) Jd H rfl S ?_;clear H a S;intro bs _ a hbs S H
 refine iP enc2 (kepP y) Je H rfl S ?_;clear H a S;intro bk _ a hbk S H
 refine ls 1 H<|sd (aN Vw G G)<|sE ?_;clear H a;intro a H
 refine aO H rfl S G G ?_;clear H a S;intro b8 _ a hb8 hbw8 S H
 refine ls 1 H<|sr 1 rfl<|sE ?_;clear H a;intro a H
 refine k2 _ _ ?_;clear k2 K2
 refine wp_ret ?_
 refine ret1 (fn:=Tryz.f21) rfl H rfl ?_
 exact ⟨b8,bl,bs,bk,rfl,(S.sel [0,3,2,1] G G)⟩
theorem Pd (y:Yr) (cb bl bs bk:Nat) (i:Nat) (l:List Tsk) (LA:Option Addr) (lc:Nat) (w:World) (F:Nat→Prop) (S:St w F [boxM cb 106 [.int .i64 y.days,.int .i64 y.pl,.slice y.PA y.ps.length y.pc,.slice y.XA y.xs.length y.xc,.slice y.BA y.pe.length y.bc,.int .i64 y.limit,.bool y.help,.slice y.QA y.prs.length y.qc,.slice y.VA y.us.length y.vc,.int .i64 y.crew,.slice y.SA y.sps.length y.sc,.map (some bl),.map (some bs),.map (some bk)],mapK (encN (n:=21)) bl (livP y),mapK (fun n:Int=>Value.int .i64 n) bs (safP y),mapK enc2 bk (kepP y)] w) (hy:YIn w F y) (hyb:YBd y) (hok:YOk y) (hi:i<y.us.length) (hl:InS w F 3 LA l.length (cM l)) (hln:l.length≤9223372036854775807) (htk:∀ k,k<l.length→tskI y (l.getD k Tsk.zero)) :
    Calls Tryz.prog 42 [.pointer (some ⟨cb,0,none⟩),.int .i64 (i:Int),.slice LA l.length lc].toArray w (Ret (fun v w'=>v=lifeV (y.us.getD i Unt.zero) (jobF l i) y.days.toNat∧St w F [boxM cb 106 [.int .i64 y.days,.int .i64 y.pl,.slice y.PA y.ps.length y.pc,.slice y.XA y.xs.length y.xc,.slice y.BA y.pe.length y.bc,.int .i64 y.limit,.bool y.help,.slice y.QA y.prs.length y.qc,.slice y.VA y.us.length y.vc,.int .i64 y.crew,.slice y.SA y.sps.length y.sc,.map (some bl),.map (some bs),.map (some bk)],mapK (encN (n:=21)) bl (livP y),mapK (fun n:Int=>Value.int .i64 n) bs (safP y),mapK enc2 bk (kepP y)] w')):=by
 have hmx:maxLen=9223372036854775807:=rfl
 have hdy:=hok.days;have husn:=hyb.usn
 have hD:((y.days.toNat:Nat):Int)=y.days:=by omega
 refine enter Tryz.func42 rfl Tryz.ntmps42 rfl (fun a H=>?_)
 skip
 refine seq_list fun K1 k1=>?_
 refine aI H rfl S qI ?_;clear H a S;intro b6 _ a hb6 hbw6 S H
 refine k1 _ _ ?_;clear k1 K1
 refine seq_list fun K2 k2=>?_
 refine ls 2 H<|sr 1 rfl<|sd (aN Vz G G)<|sE ?_;clear H a;intro a H
 refine aI H rfl S Lz ?_;clear H a S;intro b7 _ a hb7 hbw7 S H
 refine aF H S (i:=0) G G G G tG G G ?_
 clear H a S;intro _ a S H
 refine k2 _ _ ?_;clear k2 K2
 refine wp_seq_k fun K3 k3=>?_
 replace S:=boxM.same S (i:=0) rfl (cs':=[.int .i64 (i:Int),.int .i64 0,.int .i64 0,.int .i64 0,.int .i64 0,.int .i64 0,.int .i64 0,.int .i64 0,.int .i64 0,.int .i64 0,.int .i64 0,.int .i64 0,.int .i64 0,.int .i64 0,.int .i64 0,.int .i64 0,.int .i64 0,.int .i64 0,.int .i64 0,.int .i64 0,.int .i64 0]) rfl
 replace S:=Br S (i:=0) rfl (by show 21≤maxLen;decide)
 replace S:=S.recell (i:=0) rfl (cell':=kcl i (jobP l 0 i)) (fun k j hk hj=>On hk hj)
 refine sS H fun K4 k4=>sr 1 rfl<|sL dE rfl<|sr 1 rfl<|sE ?_;clear H a;intro a H
 refine k4 _ ?_;clear k4 K4
 refine wp_block ?_
 refine loop_st (X:=Nat) (R0:=_) [0,1,6,7,14,15] H rfl (fun k=>[(16,.int .i64 (k:Int))]) (fun k=>[ownM 151 1 (some ⟨b7,0,none⟩) 21 21 (kcl i (jobP l k i))]) (fun g k=>k≤l.length∧g+k=l.length) (l.length) 0 ?_ (S.sel [0,1,2,3,4,5] G G) (H.keep [16,0,1,6,7,14,15] rfl) ?_
 · exact ⟨by omega,by omega⟩
 clear H S a
 intro g1 x1 a w1 hp S H K5 k5
 obtain ⟨k,rfl⟩:∃ y,y=x1:=⟨_,rfl⟩
 refine sS H fun K6 k6=>sr 1 rfl<|sE ?_;clear H a;intro a H
 refine k6 _ ?_;clear k6 K6
 refine wp_seq_k fun K7 k7=>?_
 refine condL H rfl (fun hc1=>?_) (fun hc1=>?_)
 ·skip
  refine wp_skip ?_
  refine k7 _ _ ?_
  refine wp_seq_k fun K8 k8=>?_
  refine wp_block ?_
  refine seq_list fun K9 k9=>?_
  refine ls 2 H<|si dE cT G G (hl.adr (by omega)) (by omega)<|sd ((aW lU cT rfl S hl (by omega) (by omega)))<|sE ?_;clear H a;intro a H
  refine aI H rfl S rD ?_;clear H a S;intro b9 _ a hb9 hbw9 S H
  refine aF H S (i:=0) G G G G cT G G ?_
  clear H a S;intro _ a S H
  refine k9 _ _ ?_;clear k9 K9
  have htt:=htk k (by omega);unfold tskI at htt
  refine sS H fun K10 k10=>sf dN rfl<|sl S 0 aD G G G<|sr 2 rfl<|sE ?_;clear H a;intro a H
  refine k10 _ ?_;clear k10 K10
  refine condE H rfl (fun hc2=>?_) (fun hc2=>?_)
  ·skip
   replace H:=H.keep [0,1,6,7,9,14,15,16] rfl
   refine lN 11 (by kernel_rfl) (by kernel_rfl) ?_
   replace S:=S.drew
   refine sF H<|sf cQ rfl<|sl S 0 aD G G G<|sf tQ rfl<|sd ((cS Tryz.underlying149 bA G G (by omega) (by omega)).to (v' := .pointer (some (pt (some ⟨b7,0,none⟩) 1 ((l.getD k Tsk.zero).day.toNat+1) 0))) (congrArg (fun o=>Value.pointer (some ⟨b7,o,none⟩)) (show 0+1+(l.getD k Tsk.zero).day.toNat*1=0+((l.getD k Tsk.zero).day.toNat+1)*1+0 by omega)))<|slm aD rfl (ownM.rd S (i:=1) (k:=(l.getD k Tsk.zero).day.toNat+1) (j:=0) rfl (by omega) (by omega))<|sf fV rfl<|sl S 0 aD G G G<|sd (eJ G G (by omega) (by omega) (Ta htt.2.2))<|sd (Oj G G (Iz _ _ _) (by omega))<|sf tQ rfl<|sd ((cS Tryz.underlying149 bA G G (by omega) (by omega)).to (v' := .pointer (some (pt (some ⟨b7,0,none⟩) 1 ((l.getD k Tsk.zero).day.toNat+1) 0))) (congrArg (fun o=>Value.pointer (some ⟨b7,o,none⟩)) (show 0+1+(l.getD k Tsk.zero).day.toNat*1=0+((l.getD k Tsk.zero).day.toNat+1)*1+0 by omega)))<|sE ?_;clear H a;intro a H
   refine bN H S (i:=1) G G G (by omega) (by omega) bA rfl ?_
   clear H a S;intro _ a S H
   refine k8 _ _ ?_
   replace H:=H.keep [0,1,6,7,14,15,16] rfl
   refine sO H<|sd (aK G G (by unfold i64ok;omega))<|sr 1 rfl<|sE ?_;clear H a;intro a H
   replace S:=S.recell (i:=1) rfl (cell':=kcl i (jobP l (k+1) i)) (fun k9 j9 hk9 hj9=>Tc (d:=(l.getD k Tsk.zero).day.toNat) (by omega) htt.2.2 (by omega) (by omega) k9 j9 hj9)
   exact k5 (g1-1) (k+1) a _ (by omega) (⟨by omega,by omega⟩) (S.sel [1,2,3,4,5,6] G G) (H.keep [16,0,1,6,7,14,15] rfl)
  refine wp_skip ?_
  refine k8 _ _ ?_
  refine sO H<|sd (aK G G (by unfold i64ok;omega))<|sr 1 rfl<|sE ?_;clear H a;intro a H
  rw [←Tb (l:=l) (n:=k) (i:=i) (by omega) htt.2.2 (by omega)] at S
  exact k5 (g1-1) (k+1) a _ (by omega) (⟨by omega,by omega⟩) (S.sel [1,2,3,4,5,6] G G) (H.keep [16,0,1,6,7,14,15] rfl)
 refine wp_exit ?_
 refine k3 _ _ ?_
 obtain rfl:k=l.length:=by omega
 rw [Om] at S
 replace S:=Sy S (i:=0) rfl
 obtain ⟨h0,hh0,S⟩:=mapK.fix S (i:=3) rfl
 rcases hk0:h0 (keyOf i (jobF l i)) with _|v0
 ·skip
  skip
  replace H:=H.keep [0,1,6,7] rfl
  replace S:=S.drew
  refine seq_wq [(0,true),(1,true),(2,true),(3,true),(4,true),(5,true),(6,true),(7,true),(8,true),(9,false),(10,false),(11,true)] (by kernel_rfl) (by kernel_rfl) (S.sel [0,1,2,3,4,5] G G) fun K14 k14=>?_
  refine qF H<|qr 2 rfl<|qd rfl (fun _ S=>(aB tJ rfl))<|qd rfl (fun _ S=>aE xN rfl (boxM.rd S (i:=2) G G))<|qd rfl (fun _ S=>(aC xS tG rfl S (i:=0) G G))<|qd rfl (fun _ S=>eL S (i:=3) rfl Dm keyOK Mm rfl (k:=keyOf i (jobF l i)) rfl (fun h e=>by subst e;rw [hk0];exact ⟨rfl,rfl⟩))<|qr 3 rfl<|qK ?_;clear H a;intro a H
  refine aS rfl ?_
  refine aI H rfl S qI ?_;clear H a S;intro b10 _ a hb10 hbw10 S H
  refine wpList_nil (And.intro (S.sel [1,2,3,4,5,6] G G) ?_)
  refine aS rfl ?_
  refine aF H S (i:=0) G G G G gO G G ?_
  clear H a S;intro _ a S H
  refine wpList_nil (And.intro (S.sel [1,2,3,4,5,6] G G) ?_)
  refine qF H<|qr 1 rfl<|qK ?_;clear H a;intro a H
  refine bF ?_
  refine k14 _ _ ?_
  clear k14 K14
  refine wp_seq_k fun K15 k15=>?_
  replace H:=H.keep [0,1,6,7,10,11] rfl
  refine sS H fun K16 k16=>sr 2 rfl<|sE ?_;clear H a;intro a H
  refine k16 _ ?_;clear k16 K16
  refine cond_ H rfl (fun hc3=>?_) (fun hc3=>?_)
  ·skip
   skip
   replace H:=H.keep [0,1,6,7,10] rfl
   replace S:=S.drew
   refine seq_wq [(0,true),(1,true),(2,true),(3,true),(4,true),(5,true),(6,true),(7,true),(8,true),(9,true),(10,true),(11,true),(12,true),(13,true),(14,true),(15,false),(16,false)] (by kernel_rfl) (by kernel_rfl) (S.sel [1,2,3,4,5,6] G G) fun K17 k17=>?_
   refine qF H<|qr 2 rfl<|qd rfl (fun _ S=>(aB dK rfl))<|qd rfl (fun _ S=>(aB cP rfl))<|qd rfl (fun _ S=>aE dT rfl (boxM.rd S (i:=2) G G))<|qr 1 rfl<|qd rfl (fun _ S=>bC eM gN G G (hy.us.adr (by omega)) (by omega))<|qd rfl (fun _ S=>(aW qG gN rfl S hy.us (by omega) (by omega)))<|qd rfl (fun _ S=>(aB tQ rfl))<|qd rfl (fun _ S=>(aC Rk Li rfl S (i:=0) G G))<|qr 2 rfl<|qd rfl (fun _ S=>(aB dK rfl))<|qd rfl (fun _ S=>(aB dH rfl))<|qd rfl (fun _ S=>aE aD rfl (boxM.rd S (i:=2) G G))<|qK ?_;clear H a;intro a H
   refine aS rfl ?_
   rw [←hD] at H
   refine aA H G G Tryz.func69 G G (Tn (y.us.getD i Unt.zero) (jobF l i) y.days.toNat _ ((hy.rt i hi).now S) (hyb.rtn hi) ((hy.ul i hi).now S) (hyb.uln hi) (hyb.cap i hi) (hok.unit hi).i (hok.old hi) (fun d=>Sx _ _ _) (by omega)) ?_;clear H a
   rintro _ _ a ⟨rfl,S2⟩ H
   replace S:=S.call S2;clear S2
   refine wpList_nil (And.intro (S.sel [1,2,3,4,5,6] G G) ?_)
   refine aS rfl ?_
   refine aF H S (i:=0) G G G G gO G G ?_
   clear H a S;intro _ a S H
   refine wpList_nil (And.intro (S.sel [1,2,3,4,5,6] G G) ?_)
   refine bF ?_
   refine k17 _ _ ?_
   clear k17 K17
   replace H:=H.keep [0,6,7,10] rfl
   refine lN 6 (by kernel_rfl) (by kernel_rfl) ?_
   replace S:=S.drew
   refine sF H<|sr 2 rfl<|sf tJ rfl<|sl S 3 xN G G G<|sd ((aC xS tG rfl S (i:=1) G G))<|sd ((aC lA gO rfl S (i:=0) G G))<|sE ?_;clear H a;intro a H
   refine eV (k:=keyOf i (jobF l i)) (livP y) H S (i:=4) rfl Dm keyOK G G G (fun h e=>by subst e;exact Oo (by omega) rfl h hh0) ?_;clear H a S;intro _ a S H
   refine k15 _ _ ?_
   refine seq_list fun K19 k19=>?_
   refine ls 1 H<|sd ((aC lA gO rfl S (i:=0) G G))<|sE ?_;clear H a;intro a H
   refine aF H S (i:=2) G G G G gO G G ?_
   clear H a S;intro _ a S H
   refine k19 _ _ ?_;clear k19 K19
   refine wp_ret ?_
   refine retA (fn:=Tryz.f42) rfl H rfl lA (by exact gO) (dS S (i:=2) rfl) ?_
   exact ⟨rfl,(S.sel [3,4,5,6] G G)⟩
  skip
  cases hc3
 obtain rfl:=hh0 _ _ _ hi hk0
 replace H:=H.keep [0,1,6,7] rfl
 replace S:=S.drew
 refine seq_wq [(0,true),(1,true),(2,true),(3,true),(4,true),(5,true),(6,true),(7,true),(8,true),(9,false),(10,false),(11,true)] (by kernel_rfl) (by kernel_rfl) (S.sel [0,1,2,3,4,5] G G) fun K20 k20=>?_
 refine qF H<|qr 2 rfl<|qd rfl (fun _ S=>(aB tJ rfl))<|qd rfl (fun _ S=>aE xN rfl (boxM.rd S (i:=2) G G))<|qd rfl (fun _ S=>(aC xS tG rfl S (i:=0) G G))<|qd rfl (fun _ S=>eL S (i:=3) rfl Dm keyOK Mm rfl (k:=keyOf i (jobF l i)) rfl (fun h e=>by subst e;rw [hk0];exact ⟨rfl,rfl⟩))<|qr 3 rfl<|qK ?_;clear H a;intro a H
 refine aS rfl ?_
 refine aI H rfl S qI ?_;clear H a S;intro b10 _ a hb10 hbw10 S H
 refine wpList_nil (And.intro (S.sel [1,2,3,4,5,6] G G) ?_)
 refine aS rfl ?_
 refine aF H S (i:=0) G G G G gO G G ?_
 clear H a S;intro _ a S H
 refine wpList_nil (And.intro (S.sel [1,2,3,4,5,6] G G) ?_)
 refine qF H<|qr 1 rfl<|qK ?_;clear H a;intro a H
 refine bF ?_
 refine k20 _ _ ?_
 clear k20 K20
 refine wp_seq_k fun K21 k21=>?_
 replace H:=H.keep [0,1,6,7,10,11] rfl
 refine sS H fun K22 k22=>sr 2 rfl<|sE ?_;clear H a;intro a H
 refine k22 _ ?_;clear k22 K22
 refine cond_ H rfl (fun hc4=>?_) (fun hc4=>?_)
 ·skip
  skip
  cases hc4
 skip
 refine wp_skip ?_
 refine k21 _ _ ?_
 refine seq_list fun K23 k23=>?_
 refine ls 1 H<|sd ((aC lA gO rfl S (i:=0) G G))<|sE ?_;clear H a;intro a H
 refine aF H S (i:=2) G G G G gO G G ?_
 clear H a S;intro _ a S H
 refine k23 _ _ ?_;clear k23 K23
 refine wp_ret ?_
 refine retA (fn:=Tryz.f42) rfl H rfl lA (by exact gO) (dS S (i:=2) rfl) ?_
 replace S:=mapK.weak S (i:=4) rfl (Φ':=livP y) (fun g e=>by subst e;exact hh0)
 exact ⟨rfl,(S.sel [3,4,5,6] G G)⟩
end
section
theorem yW {l:List Int} (h:∀ k,k<l.length→0≤l.getD k 0∧l.getD k 0≤1000):∀ k,k≤l.length→0≤sumI l k∧sumI l k≤1000*k:=by
  intro k
  induction k with
  | zero=>intro _;simp [sumI,sm]
  | succ k ih=>
    intro hk
    have h1:=ih (by omega)
    have h2:=h k (by omega)
    unfold sumI at *
    rw [sm]
    push_cast
    omega
theorem wP (P T:Nat) (ps:List Psg) (PA:Option Addr) (pc:Nat) (xs:List Int) (XA:Option Addr) (xc:Nat) (out:Int) (pe:List Int) (BA:Option Addr) (bc:Nat) (w:World) (hps:InS w noF 7 PA ps.length (pcell ps)) (hpn:ps.length≤9223372036854775807) (hxs:InS w noF 1 XA xs.length (icl xs)) (hxn:xs.length≤9223372036854775807) (hpe:InS w noF 1 BA pe.length (icl pe)) (hpl:pe.length=P) (hV:StV P ps xs) (hou:0≤out∧out≤4095) (hpp:∀ k,k<pe.length→0≤pe.getD k 0∧pe.getD k 0≤1000) (hT:T≤60) :
    Calls Tryz.prog 46 [.agg [.int .i64 (P:Int),.slice PA ps.length pc,.slice XA xs.length xc].toArray,.int .i64 out,.slice BA pe.length bc,.int .i64 (T:Int)].toArray w (Ret fun u w'=>∃ b31 EA A' c',u = .pointer (some ⟨b31,0,none⟩)∧St w noF [boxM b31 158 [.int .i64 (P:Int),.slice PA ps.length pc,.slice XA xs.length xc,.int .i64 (T:Int),.slice EA (layN P T pe xs (hds out xs ps)).k (layN P T pe xs (hds out xs ps)).k,.int .i64 (((P*(T+1)):Nat):Int),.int .i64 (((P*(T+1))+1:Nat):Int)],ownM 201 1 EA (layN P T pe xs (hds out xs ps)).k (layN P T pe xs (hds out xs ps)).k (hdc A' (layN P T pe xs (hds out xs ps)).n c'),ragM 203 7 (fun q=>q<(layN P T pe xs (hds out xs ps)).k) A' (layN P T pe xs (hds out xs ps)).n c' (edgeC (layN P T pe xs (hds out xs ps)) (layT P T pe xs (hds out xs ps)).room (layT P T pe xs (hds out xs ps)).mv)] w'):=by
  have h:=Nl P T ps PA pc xs XA xc out pe BA bc w hps hpn hxs hxn (fun k hk h3=>by have:=dD.1 (hV.pas k hk);omega) hou.1 hpe hpl (by have:=hV.size;omega) hT hV.size.2.2 (Ds hV)
  refine qN h fun u w' ⟨b31,EA,A',c',h1,S⟩=>⟨b31,EA,A',c',h1,?_⟩
  rw [Dp (joins (jAll P T pe xs (hds out xs ps))) (P*(T+1)+2)] at S
  exact S
theorem Pe (pe:List Int) (BA:Option Addr) (bc:Nat) (w:World) (hpe:InS w noF 1 BA pe.length (icl pe)) (hpp:∀ k,k<pe.length→0≤pe.getD k 0∧pe.getD k 0≤1000) (hpn:pe.length≤1000) :
    Calls Tryz.prog 48 [.slice BA pe.length bc].toArray w (Ret (fun v w'=>v = .int .i64 (sumI pe pe.length)∧St w noF [] w')):=by
 refine enter Tryz.func48 rfl Tryz.ntmps48 rfl (fun a H=>?_)
 have S:=St.start w
 refine sS H fun K1 k1=>sr 1 rfl<|sE ?_;clear H a;intro a H
 refine k1 _ ?_;clear k1 K1
 refine sS H fun K2 k2=>sr 1 rfl<|sE ?_;clear H a;intro a H
 refine k2 _ ?_;clear k2 K2
 refine wp_seq_k fun K3 k3=>?_
 refine sS H fun K4 k4=>sr 1 rfl<|sL aT rfl<|sr 1 rfl<|sE ?_;clear H a;intro a H
 refine k4 _ ?_;clear k4 K4
 refine wp_block ?_
 refine loop_st (X:=Nat) (R0:=_) [6,7] H rfl (fun k=>[(3,.int .i64 (sumI pe k)),(8,.int .i64 (k:Int))]) (fun k=>[]) (fun g k=>k≤pe.length∧g+k=pe.length) (pe.length) 0 ?_ (S.sel [] G G) (H.keep [3,8,6,7] rfl) ?_
 · exact ⟨by omega,by omega⟩
 clear H S a
 intro g1 x1 a w1 hp S H K5 k5
 obtain ⟨k,rfl⟩:∃ y,y=x1:=⟨_,rfl⟩
 refine sS H fun K6 k6=>sr 1 rfl<|sE ?_;clear H a;intro a H
 refine k6 _ ?_;clear k6 K6
 refine wp_seq_k fun K7 k7=>?_
 refine condL H rfl (fun hc1=>?_) (fun hc1=>?_)
 ·skip
  refine wp_skip ?_
  refine k7 _ _ ?_
  refine wp_seq_k fun K8 k8=>?_
  refine wp_block ?_
  refine sS H fun K9 k9=>si aT bA G G (hpe.adr (by omega)) (by omega)<|slm aD rfl (hpe.rd S (by omega) (by omega))<|sr 1 rfl<|sE ?_;clear H a;intro a H
  refine k9 _ ?_;clear k9 K9
  have hsb:=yW hpp k (by omega);have hsk:=hpp k (by omega)
  refine sO H<|sr 2 rfl<|sd (aK G G (by unfold i64ok;omega))<|sr 1 rfl<|sE ?_;clear H a;intro a H
  refine k8 _ _ ?_
  replace H:=H.keep [3,6,7,8] rfl
  refine sO H<|sd (aK G G (by unfold i64ok;omega))<|sr 1 rfl<|sE ?_;clear H a;intro a H
  exact k5 (g1-1) (k+1) a _ (by omega) (⟨by omega,by omega⟩) (S.sel [] G G) (H.keep [3,8,6,7] rfl)
 refine wp_exit ?_
 refine k3 _ _ ?_
 refine sS H fun K12 k12=>sr 2 rfl<|sE ?_;clear H a;intro a H
 refine k12 _ ?_;clear k12 K12
 refine wp_ret ?_
 refine ret1 (fn:=Tryz.f48) rfl H rfl ?_
 have hk9:k=pe.length:=by omega
 subst hk9
 exact ⟨rfl,(S.sel [] G G)⟩
theorem Ca (P T:Nat) (ps:List Psg) (PA:Option Addr) (pc:Nat) (xs:List Int) (XA:Option Addr) (xc:Nat) (out:Int) (pe:List Int) (BA:Option Addr) (bc:Nat) (w:World) (hps:InS w noF 7 PA ps.length (pcell ps)) (hpn:ps.length≤9223372036854775807) (hxs:InS w noF 1 XA xs.length (icl xs)) (hxn:xs.length≤9223372036854775807) (hpe:InS w noF 1 BA pe.length (icl pe)) (hpl:pe.length=P) (hV:StV P ps xs) (hou:0≤out∧out≤4095) (hpp:∀ k,k<pe.length→0≤pe.getD k 0∧pe.getD k 0≤1000) (hT:T≤60) :
    Calls Tryz.prog 25 [.agg [.int .i64 (P:Int),.slice PA ps.length pc,.slice XA xs.length xc].toArray,.int .i64 out,.slice BA pe.length bc,.int .i64 (T:Int)].toArray w (Ret (fun u w'=>u = .bool (decide (mfv P T pe xs (hds out xs ps)=sumI pe pe.length))∧St w noF [] w')):=by
 have hO9:=Mq (T:=T) (out:=out) hV hpp
 have hC:P*(T+1)≤10*61:=Nat.mul_le_mul (by have:=hV.size;omega) (by omega)
 refine enter Tryz.func25 rfl Tryz.ntmps25 rfl (fun a H=>?_)
 have S:=St.start w
 refine seq_list fun K1 k1=>?_
 refine aO H rfl S G G ?_;clear H a S;intro b4 _ a hb4 hbw4 S H
 refine ls 1 H<|sr 1 rfl<|sE ?_;clear H a;intro a H
 refine k1 _ _ ?_;clear k1 K1
 replace H:=H.keep [1,2,3,4] rfl
 refine seq_list fun K2 k2=>?_
 refine ls 4 H<|sd ((aC cA cZ rfl S (i:=0) G G))<|sr 3 rfl<|sE ?_;clear H a;intro a H
 refine aA H G G Tryz.func46 G G (wP P T ps PA pc xs XA xc out pe BA bc _ (hps.now S) hpn (hxs.now S) hxn (hpe.now S) hpl hV hou hpp hT) ?_;clear H a
 rintro _ _ a ⟨b31,EA,A',c',rfl,S2⟩ H
 replace S:=S.call S2;clear S2
 have S1:=(S.sel [0,1,2] G G)
 refine aA H G G Tryz.func47 G G (Ar (layN P T pe xs (hds out xs ps)) (layT P T pe xs (hds out xs ps)).room (layT P T pe xs (hds out xs ps)).mv b31 (P:Int) (T:Int) _ _ EA A' c' (P*(T+1)) ((P*(T+1))+1) _ _ S1.startR hO9.wf hO9.ok (by show _<P*(T+1)+2;omega) (by show _<P*(T+1)+2;omega) (by omega) (by show P*(T+1)+2≤_;omega) (by have:=hO9.beg;have:=hV.size;omega)) ?_;clear H a
 rintro _ _ a ⟨v,r,rfl,hF,h0v,⟨L,hLv,hLx⟩,S2⟩ H
 replace S:=(S.sel [0,1,2,3] G G).callR (M:=[_,_,_]) S2;clear S1 S2
 refine ls 1 H<|sr 1 rfl<|sE ?_;clear H a;intro a H
 refine aA H G G Tryz.func48 G G (Pe pe BA bc _ (hpe.now S) hpp (by have:=hV.size;omega)) ?_;clear H a
 rintro _ _ a ⟨rfl,S2⟩ H
 replace S:=S.call S2;clear S2
 refine ls 2 H<|sr 2 rfl<|sE ?_;clear H a;intro a H
 refine k2 _ _ ?_;clear k2 K2
 refine wp_ret ?_
 refine ret1 (fn:=Tryz.f25) rfl H rfl ?_
 have hE:EndP P T pe xs (hds out xs ps) v r L:=⟨hF,h0v,hLv,hLx⟩
 rw [Mt hO9 hE]
 exact ⟨rfl,(S.sel [] G G)⟩
theorem Jl (pl:Int) (ps:List Psg) (PA:Option Addr) (pc:Nat) (xs:List Int) (XA:Option Addr) (xc:Nat) (out:Int) (pe:List Int) (BA:Option Addr) (bc:Nat) (T0:Int) (w:World) (hps:InS w noF 7 PA ps.length (pcell ps)) (hpn:ps.length≤9223372036854775807) (hxs:InS w noF 1 XA xs.length (icl xs)) (hxn:xs.length≤9223372036854775807) (hpe:InS w noF 1 BA pe.length (icl pe)) (hpen:pe.length≤9223372036854775807) :
    Calls Tryz.prog 68 [.agg [.int .i64 pl,.slice PA ps.length pc,.slice XA xs.length xc].toArray,.int .i64 out,.slice BA pe.length bc,.int .i64 T0].toArray w (Ret (fun u w'=>(cH pl ps xs out pe T0≠0∧u = .tuple #[.int .i64 0,.int .i64 (cH pl ps xs out pe T0)]∧St w noF [] w')∨(cH pl ps xs out pe T0=0∧u = .tuple #[.int .i64 (mfv pl.toNat T0.toNat pe xs (hds out xs ps)),.int .i64 0]∧St w noF [] w'))):=by
 refine enter Tryz.func68 rfl Tryz.ntmps68 rfl (fun a H=>?_)
 have S:=St.start w
 refine seq_list fun K1 k1=>?_
 refine aO H rfl S G G ?_;clear H a S;intro b4 _ a hb4 hbw4 S H
 refine ls 2 H<|sr 2 rfl<|sE ?_;clear H a;intro a H
 refine k1 _ _ ?_;clear k1 K1
 refine wp_seq_k fun K2 k2=>?_
 refine seq_list fun K3 k3=>?_
 refine ls 4 H<|sd ((aC cA cZ rfl S (i:=0) G G))<|sr 3 rfl<|sE ?_;clear H a;intro a H
 refine aA H G G Tryz.func24 G G (pD pl ps PA pc xs XA xc out pe BA bc T0 _ (hps.now S) hpn (hxs.now S) hxn (hpe.now S) hpen) ?_;clear H a
 rintro _ _ a ⟨rfl,S2⟩ H
 replace S:=S.call S2;clear S2
 refine ls 1 H<|sr 1 rfl<|sE ?_;clear H a;intro a H
 refine k3 _ _ ?_;clear k3 K3
 replace H:=H.keep [1,2,3,4,10] rfl
 refine sS H fun K4 k4=>sr 2 rfl<|sE ?_;clear H a;intro a H
 refine k4 _ ?_;clear k4 K4
 refine condN H rfl (fun hc1=>?_) (fun hc1=>?_)
 ·skip
  refine sS H fun K5 k5=>sr 3 rfl<|sE ?_;clear H a;intro a H
  refine k5 _ ?_;clear k5 K5
  refine wp_ret ?_
  refine ret2 (fn:=Tryz.f68) rfl H G G ?_
  exact .inl ⟨hc1,rfl,(S.sel [] G G)⟩
 obtain ⟨hst,hou,hcr,hti⟩:=jH hc1
 have hV0:=gV hst
 obtain ⟨P,rfl⟩:∃ P:Nat,pl=P:=⟨pl.toNat,by have:=hV0.size;omega⟩
 have hV:=hV0
 obtain ⟨hpp,hpl'⟩:=pB hcr
 have hpl:pe.length=P:=by omega
 obtain ⟨T,rfl⟩:∃ T:Nat,T0=T:=⟨T0.toNat,by omega⟩
 have hT:T≤60:=by omega
 have hO9:=Mq (T:=T) (out:=out) hV hpp
 have hC:P*(T+1)≤10*61:=Nat.mul_le_mul (by have:=hV.size;omega) (by omega)
 refine wp_skip ?_
 refine k2 _ _ ?_
 replace H:=H.keep [1,2,3,4] rfl
 refine seq_list fun K6 k6=>?_
 refine ls 4 H<|sd ((aC cA cZ rfl S (i:=0) G G))<|sr 3 rfl<|sE ?_;clear H a;intro a H
 refine aA H G G Tryz.func46 G G (wP P T ps PA pc xs XA xc out pe BA bc _ (hps.now S) hpn (hxs.now S) hxn (hpe.now S) hpl hV hou hpp hT) ?_;clear H a
 rintro _ _ a ⟨b31,EA,A',c',rfl,S2⟩ H
 replace S:=S.call S2;clear S2
 have S1:=(S.sel [0,1,2] G G)
 refine aA H G G Tryz.func47 G G (Ar (layN P T pe xs (hds out xs ps)) (layT P T pe xs (hds out xs ps)).room (layT P T pe xs (hds out xs ps)).mv b31 (P:Int) (T:Int) _ _ EA A' c' (P*(T+1)) ((P*(T+1))+1) _ _ S1.startR hO9.wf hO9.ok (by show _<P*(T+1)+2;omega) (by show _<P*(T+1)+2;omega) (by omega) (by show P*(T+1)+2≤_;omega) (by have:=hO9.beg;have:=hV.size;omega)) ?_;clear H a
 rintro _ _ a ⟨v,r,rfl,hF,h0v,⟨L,hLv,hLx⟩,S2⟩ H
 replace S:=(S.sel [0,1,2,3] G G).callR (M:=[_,_,_]) S2;clear S1 S2
 refine ls 2 H<|sr 2 rfl<|sE ?_;clear H a;intro a H
 refine k6 _ _ ?_;clear k6 K6
 refine wp_ret ?_
 refine ret2 (fn:=Tryz.f68) rfl H G G ?_
 have hE:EndP P T pe xs (hds out xs ps) v r L:=⟨hF,h0v,hLv,hLx⟩
 rw [Int.toNat_natCast,Int.toNat_natCast,Mt hO9 hE]
 exact .inr ⟨hc1,rfl,(S.sel [] G G)⟩
end
end Go.Proofs.YtoekeohiokcefaaGreat
